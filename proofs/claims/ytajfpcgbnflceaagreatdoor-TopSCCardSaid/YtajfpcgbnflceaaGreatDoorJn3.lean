/- WALK2. Package path: proceed, valid. Conditions: the run lies in a block of the caller's, the thread elsewhere in memory; the thread is valid. -/
import Derived.Test.YtajfpcgbnflceaaGreatDoorJn2
set_option linter.unusedSimpArgs false
set_option linter.unusedVariables false
namespace Go.Proofs.YtajfpcgbnflceaaGreatDoor
open Go.Proofs.Tryz
open Go.RowKit
set_option maxRecDepth 100000
set_option maxHeartbeats 4000000
variable{b i j n sz:Nat}{l:List Ins}{r:RunP}{rs:List Res}{w w0:World}
def JK(w:World)(b:Nat)(A:Option Addr)(sz:Nat)(e:List (List Value)):Prop:=∀(j:Nat)(g:List Value),e[j]?=some g->∃c d,A=some ⟨c,d,none⟩/\c≠b/\w.rangeAt c (d+j*sz) g
theorem Own.oldR(H:Own w0 (some b) w rs){c o:Nat}{g:List Value}(h:w0.rangeAt c o g)(d:c≠b):w.rangeAt c o g:=λj v i=>H.old (h j v i) (λe=>d (Ac e))
theorem Own.notR(H:Own w0 (some b) w rs){A:Option Addr}{d:List (List Value)}(h:JK w0 b A sz d):JK w b A sz d:=λj n o=>by
 obtain⟨c,i,e,g,m⟩:=h j n o
 exact⟨c,i,e,g,H.oldR m g⟩
theorem Xlv{b:UInt8}(h:b≠6/\b≠5/\b≠4/\b≠1/\True):Ug b=false:=by
 unfold Ug
 rw[beq_false_of_ne h.1,beq_false_of_ne h.2.1,beq_false_of_ne h.2.2.1,beq_false_of_ne h.2.2.2.1]
 rfl
theorem Er{x:Ins}(b:l[r.pc]?=some x):U2 l r=Ug x.op:=by unfold U2;rw[b]
theorem Xhu(b:l[r.pc]?=none):U2 l r=false:=by unfold U2;rw[b]
theorem Xdq(b:Nat)(A:Option Addr)(C:Nat)(l:List Ins)(r:RunP)(w0:World)(J:Qm w0 b r)(I:JK w0 b A 10 (l.map Ins.cells))(p:Ua 6 l=true)(y:InvR l r):
 Calls prog 219 #[Vc b 0,.slice A l.length C] w0 λe G=>e=.returned (.bool (U2 l (VY l r)))/\Own w0 (some b) G [.blk b (VY l r).cells 212]:=by
 have H:=Own.startRow J
 have z:=NW p
 refine VU func219 Z ntmps219 Z (λa F=>?_)
 refine gg 6 λa F=>?_
 refine cLoopR [0,1] (λm u w=>∃(g:RunP),m=l.length-g.pc/\u=[]/\InvR l g/\VY l g=VY l r/\Own w0 (some b) w [.blk b g.cells 212]) F (l.length-r.pc) [] (by repeat(first|exact SubR.nil|(apply SubR.cons;· rfl))) ?_ ?_ ?_
 ·exact⟨r,Z,Z,y,Z,H⟩
 ·repeat(exact trivial)
 clear F H;intro m u a w y F
 obtain⟨g,rfl,rfl,s,j,H⟩:=y
 refine gg 6 λa F=>?_
 refine zLd F (show _=some (Ve (g.pc:Int))from H.cell 0 Z (G0 _)) λa F=>?_
 refine gg 5 λa F=>zi (λv=>?_) λv=>?_
 ·
  have t:g.pc<l.length:=O
  obtain⟨x,i⟩:∃x,l[g.pc]?=some x:=⟨_,AA t⟩
  obtain⟨c,E,rfl,q,B⟩:=I g.pc x.cells (by rw[AD,i];rfl)
  have o:True:=trivial
  refine gg 9 λa F=>?_
  refine zLd F (show _=some (Ve (g.pc:Int))from H.cell 0 Z (G0 _)) λa F=>?_
  refine gg 2 λa F=>?_
  refine zLd F (H.oldR B q 0 _ Z) λa F=>?_
  refine gg 8 λa F=>?_
  refine zSp 20 F (λd F=>?_) λd F=>?_
  ·
   refine cIfT F Z ?_
   refine gg 1 λa F=>?_
   refine cIfT F Z ?_
   refine gg 6 λa F=>?_
   (have e:x.op=1:=d
    have n:U2 l g=true:=(Er i).trans (by rw[e];rfl)
    rw[Jd (.inl n)]at j;rw[<-j,n]
    exact⟨Z,H.sel [0] Z Z⟩)
  replace o:=And.intro d o
  refine cIfF F Z ?_
  refine gg 5 λa F=>?_
  refine zSp 20 F (λd F=>?_) λd F=>?_
  ·
   refine cIfT F Z ?_
   refine gg 1 λa F=>?_
   refine cIfT F Z ?_
   refine gg 6 λa F=>?_
   (have e:x.op=4:=d
    have n:U2 l g=true:=(Er i).trans (by rw[e];rfl)
    rw[Jd (.inl n)]at j;rw[<-j,n]
    exact⟨Z,H.sel [0] Z Z⟩)
  replace o:=And.intro d o
  refine cIfF F Z ?_
  refine gg 5 λa F=>?_
  refine zSp 20 F (λd F=>?_) λd F=>?_
  ·
   refine cIfT F Z ?_
   refine gg 1 λa F=>?_
   refine cIfT F Z ?_
   refine gg 6 λa F=>?_
   (have e:x.op=5:=d
    have n:U2 l g=true:=(Er i).trans (by rw[e];rfl)
    rw[Jd (.inl n)]at j;rw[<-j,n]
    exact⟨Z,H.sel [0] Z Z⟩)
  replace o:=And.intro d o
  refine cIfF F Z ?_
  refine gg 4 λa F=>?_
  refine zSp 20 F (λd F=>?_) λd F=>?_
  ·
   refine cIfT F Z ?_
   refine gg 6 λa F=>?_
   (have e:x.op=6:=d
    have n:U2 l g=true:=(Er i).trans (by rw[e];rfl)
    rw[Jd (.inl n)]at j;rw[<-j,n]
    exact⟨Z,H.sel [0] Z Z⟩)
  replace o:=And.intro d o
  refine cIfF F Z ?_
  refine gg 7 λa F=>?_
  refine zLd F (show _=some (Ve (g.pc:Int))from H.cell 0 Z (G0 _)) λa F=>?_
  refine gg 1 λa F=>?_
  refine zLr F (H.oldR B q) λa F=>?_
  refine Xi call220 F Z (DO b g x 0 _ (H.blk 0 Z) (BL p i).inr (s.ok p t) (BL p i).op) ?_;rintro e w ⟨rfl,D⟩
  replace H:=H.turned 0 Z D;clear D
  refine zq λa F=>?_
  refine gg 1 λa F=>?_
  (refine⟨_,?_,_,⟨Ub x 0 g,Z,Z,EO 0 s p i,?_,H.sel [0] Z Z⟩,F.tt⟩
   ·have:=JG x 0 g;omega
   ·rw[<-Xbu i (Xlv o)];exact j)
 refine gg 7 λa F=>?_
 (have i:l[g.pc]?=none:=AV O
  rw[Jd (.inr i)]at j;rw[<-j,Xhu i]
  exact⟨Z,H.sel [0] Z Z⟩)
theorem XfZ(A:Option Addr)(C:Nat)(l:List Ins)(w0:World)(d:RowsAt w0 A 10 (l.map Ins.cells))(b:NeedsAt w0)(g:l.length<=9223372036854775807):
 Va 111 #[.slice A l.length C] w0 (.bool (Ua 6 l)):=by
 refine Vb func111 ntmps111 λH a F=>?_
 refine gg 7 λa F=>?_
 refine zCa F (BK A C l 6 _ (d.own H) (b.own H) g) H λa w F H=>?_
 refine gg 4 λa F=>?_
 exact⟨Z,H.below⟩
section
variable{P:Program}{t:TypeId}{x y:Operand}{n m:Nat}
theorem Xn6(b:n<4294967296)(hm:m<4294967296):Gu P .and t x y (.int .u32 (n:Int)) (.int .u32 (m:Int)) (.int .u32 ((n&&&m:Nat):Int)):=λw=>by
 have h:n&&&m<4294967296:=Ic Nat.and_le_left b
 simp only[eqGuard,binOp,Op.intBits,go_sem]
 show Result.ok (Value.int .u32 (IntKind.u32.wrap ((BitVec.ofInt 32 (n:Int)&&&BitVec.ofInt 32 (m:Int)).toNat:Int))) w=_
 have c:(BitVec.ofInt 32 (n:Int)&&&BitVec.ofInt 32 (m:Int)).toNat=n&&&m:=by
  rw[BitVec.toNat_and,BitVec.ofInt_natCast,BitVec.ofInt_natCast,BitVec.toNat_ofNat,BitVec.toNat_ofNat,Fg b,Fg hm]
 rw[c,Lm]
 have:((n&&&m:Nat):Int)%4294967296=((n&&&m:Nat):Int):=O
 rw[this]
theorem Xsb:Gu P .mul t x y (.int .u32 (n:Int)) (.int .u32 (m:Int)) (.int .u32 ((n*m%4294967296:Nat):Int)):=λw=>by
 have:(do eqGuard .mul t x y (.int .u32 (n:Int)) (.int .u32 (m:Int));binOp .mul t (.int .u32 (n:Int)) (.int .u32 (m:Int)):Sem Value).run P w=.ok (.int .u32 (IntKind.u32.wrap ((n:Int)*(m:Int)))) w:=by simp[eqGuard,binOp,Op.intArith,go_sem]
 rw[this,<-Iu,Lm]
 rfl
theorem Xr9(h:m<=n)(b:n<4294967296):Gu P .sub t x y (.int .u32 (n:Int)) (.int .u32 (m:Int)) (.int .u32 ((n-m:Nat):Int)):=λw=>by
 have:(do eqGuard .sub t x y (.int .u32 (n:Int)) (.int .u32 (m:Int));binOp .sub t (.int .u32 (n:Int)) (.int .u32 (m:Int)):Sem Value).run P w=.ok (.int .u32 (IntKind.u32.wrap ((n:Int)-(m:Int)))) w:=by simp[eqGuard,binOp,Op.intArith,go_sem]
 rw[this,Lm]
 have e:((n:Int)-(m:Int))%4294967296=((n-m:Nat):Int):=O
 rw[e]
theorem Xsa:Gu P .shr t x y (.int .u32 (n:Int)) (.int .u64 27) (.int .u32 ((n/134217728:Nat):Int)):=λw=>by
 have b:Op.shift .shr .u32 (n:Int) .u64 27=pure (.int .u32 ((n:Int)/2^(27:Int).toNat)):=shift_shr .u32 .u64 (n:Int) 27 O (by decide)
 simp only[eqGuard_shr,binOp_shr,b]
 rfl
variable{l:List Oper}{Q:Exit->Act->World->Prop}{N:Nat}{a:Act}{env:List (Nat×Value)}{rest:List Oper}{d:Tmp}{ty:TypeId}{pos:String}{af:Array Edge}{g:Option (Nat×Bool)}{w:World}
theorem Xq8(F:Has N a env)(c:ev env x=some (.int .u32 (n:Int)))(h:0<n/\n<4294967296):(execOp a.eval ⟨some d,.unOp .neg t x,ty,pos,af,g⟩).run P w=.ok (.value (.int .u32 ((4294967296-n:Nat):Int))) w:=by
 have b:(Op.unary .neg (.int .u32 (n:Int))).run P w=.ok (.int .u32 (IntKind.u32.wrap (0-(n:Int)))) w:=by simp[Op.unary,Op.intArith,go_sem]
 have e:IntKind.u32.wrap (0-(n:Int))=((4294967296-n:Nat):Int):=by rw[Lm];omega
 rw[e]at b
 simp only[execOp,F.eval c,Sem.run_bind,b]
 rfl
theorem XqO(F:Has N a env)(c:V2 l env g=true)(e:Nat.blt d N=true)(b:ev env x=some (.int .u32 (n:Int)))(h:0<n/\n<4294967296)(K:∀a,Has N a ((d,.int .u32 ((4294967296-n:Nat):Int))::env)->wpList P l.toArray Q rest a w):wpList P l.toArray Q (⟨some d,.unOp .neg t x,ty,pos,af,g⟩::rest) a w:=
 UV F c Z e (Xq8 F b h) K
end
def tzF:Nat->Nat->Nat
 |0,_=>0
 |f+1,n=>if n%2=1 then 0 else tzF f (n/2)+1
def tzN(n:Nat):Nat:=tzF 32 n
theorem XpV(a b:Nat):(2*a+1)&&&(2*b+1)=2*(a&&&b)+1:=by
 refine Ip λi=>?_
 rw[F0]
 cases i with
 |zero=>simp[I7]
 |succ i=>
  rw[Fo,Fo,Fo,show(2*a+1)/2=a by omega,show(2*b+1)/2=b by omega,show(2*(a&&&b)+1)/2=a&&&b by omega,F0]
theorem Xna(a b:Nat):(2*a)&&&(2*b)=2*(a&&&b):=by
 refine Ip λi=>?_
 rw[F0]
 cases i with
 |zero=>simp[I7]
 |succ i=>
  rw[Fo,Fo,Fo,show 2*a/2=a by omega,show 2*b/2=b by omega,show 2*(a&&&b)/2=a&&&b by omega,F0]
theorem XkM{w m:Nat}(h:m<2^w):m&&&(2^w-(m+1))=0:=by
 refine Ip λi=>?_
 rw[F0,Nat.testBit_two_pow_sub_succ h,Ib]
 cases m.testBit i<;>simp
theorem Xag:∀(w n:Nat),0<n->n<2^w->n&&&(2^w-n)=2^tzF w n/\tzF w n<w
 |0,n,d,h=>by simp at h;omega
 |w+1,n,d,h=>by
  have b:2^(w+1)=2*2^w:=by rw[Nat.pow_succ,IH]
  rw[b]at h⊢
  unfold tzF
  split
  next c=>
   obtain⟨m,rfl⟩:∃m,n=2*m+1:=⟨n/2,O⟩
   rw[show 2*2^w-(2*m+1)=2*(2^w-(m+1))+1 by omega,XpV,XkM O]
   exact⟨Z,O⟩
  next c=>
   obtain⟨m,rfl⟩:∃m,n=2*m:=⟨n/2,O⟩
   have e:=Xag w m O O
   rw[show 2*2^w-2*m=2*(2^w-m) by omega,Xna,show 2*m/2=m by omega,e.1,Nat.pow_succ,IH]
   exact⟨Z,O⟩
theorem low32(b:0<n)(h:n<4294967296):n&&&(4294967296-n)=2^tzN n/\tzN n<32:=Xag 32 n b h
def tabL:List Nat:=[0,1,28,2,29,14,24,3,30,22,20,15,25,17,4,8,31,27,13,23,21,19,16,7,26,12,18,6,11,5,10,9]
def tabB(i:Nat):UInt8:=UInt8.ofNat (tabL.getD i 0)
theorem XqC:∀k,k<32->(tabB (2^k*125613361%4294967296/134217728)).toNat=k:=by decide
def TabAt(w:World):Prop:=∀i,i<32->w.cell? ⟨1,i,none⟩=some (b8 (tabB i))
theorem TabAt.own(c:TabAt w0)(H:Own w0 none w rs):TabAt w:=λi b=>H.arg (c i b)
theorem TabAt.at(h:TabAt w)(i:Nat)(b:i<32):w.cell? ⟨1,0+i*1,none⟩=some (b8 (tabB i)):=by
 rw[As,FZ];exact h i b
theorem Xqy(n:Nat)(w0:World)(c:n<4294967296)(d:0<n)(p:TabAt w0):
 Calls prog 221 #[u32 n] w0 λe j=>e=.returned (Ve (tzN n:Int))/\Below w0.heap.size w0 j:=by
 have H:=Own.start w0 none
 obtain⟨b,i⟩:=low32 d c
 have g:=XqC _ i
 refine VU func221 Z ntmps221 Z (λa F=>?_)
 refine gg 11 λa F=>zi (λo=>?_) λo=>?_
 ·
  omega
 refine gg 5 λa F=>?_
 refine XqO F Z Z Z ?_ ?_
 focus exact⟨d,c⟩
 clear F a;intro a F;refine Xh F Z Z (Xn6 (n:=n) (m:=4294967296-n) c O) (Ei Z Z Z Z (Xsb (m:=125613361)) (Ei Z Z Z Z Xsa λa F=>?_))
 refine sIa underlying334 sizeOf5 F Z Z Z Z ?_ ?_
 focus(rw[b];omega)
 clear F a;intro a F;refine sLd isAgg5 F Z Z Z (H.arg (p.at _ (by rw[b];omega))) λa F=>?_
 refine gg 5 λa F=>?_
 rw[b,g]
 exact⟨Z,H.below⟩
def Xee:Nat->Nat->List Nat
 |0,_=>[]
 |f+1,n=>if n=0 then[]else tzN n::Xee f (n&&&(n-1))
def Em(n:Nat):List Nat:=Xee n n
theorem Ny(n:Nat):n&&&(n-1)<=n-1:=Nat.and_le_right
theorem LS(f n:Nat):Xee (f+1) n=if n=0 then[]else tzN n::Xee f (n&&&(n-1)):=rfl
theorem Xg9:∀(f n:Nat),n<=f->Xee f n=Em n:=by
 intro f
 induction f using Nat.strongRecOn with
 |_ f b=>
  intro n h
  rcases Aw n with h0|h0
  ·subst h0
   unfold Em
   cases f with
   |zero=>rfl
   |succ f=>rfl
  ·obtain⟨k,rfl⟩:∃k,f=k+1:=⟨f-1,O⟩
   obtain⟨m,rfl⟩:∃m,n=m+1:=⟨n-1,O⟩
   have c:(m+1)&&&(m+1-1)<=m:=Ny (m+1)
   have e:Em (m+1)=Xee (m+1) (m+1):=rfl
   rw[e,LS,LS,if_neg O,if_neg O]
   generalize (m+1)&&&(m+1-1)=q at c⊢
   rw[b k O q O]
   rcases AN m (k+1)with h1|h1
   ·rw[b m h1 q c]
   ·omega
theorem XkC:Em 0=[]:=rfl
theorem XaN(h:0<n):Em n=tzN n::Em (n&&&(n-1)):=by
 obtain⟨m,rfl⟩:∃m,n=m+1:=⟨n-1,O⟩
 have b:(m+1)&&&(m+1-1)<=m:=Ny (m+1)
 have e:Em (m+1)=Xee (m+1) (m+1):=rfl
 rw[e,LS,if_neg O,Xg9 m _ b]
theorem Xm2:∀n,(Em n).length<=n:=by
 intro n
 induction n using Nat.strongRecOn with
 |_ n b=>
  rcases Aw n with h0|h0
  ·subst h0;exact AI _
  ·have c:=Ny n
   rw[XaN h0,AY]
   have:=b (n&&&(n-1)) O
   omega
abbrev Pr:=UInt8×UInt8
def prC(q:Pr):List Value:=[b8 q.1,b8 q.2]
def MD(i k:Nat):Pr:=(UInt8.ofNat k,UInt8.ofNat i)
def Xgb(i n:Nat):List Pr:=(Em n).map (MD i)
def Uv(f:Nat->Nat):Nat->List Pr
 |0=>[]
 |n+1=>Uv f n++Xgb n (f n)
theorem Xlo(h:0<n):Xgb i n=MD i (tzN n)::Xgb i (n&&&(n-1)):=by
 unfold Xgb
 rw[XaN h]
 rfl
theorem Xlp(i n:Nat):(Xgb i n).length<=n:=by unfold Xgb;rw[AH];exact Xm2 n
theorem BX{f:Nat->Nat}(b:∀k,f k<4294967296):∀n,(Uv f n).length<=4294967296*n
 |0=>AI _
 |n+1=>by
  have e:=BX b n
  have d:=Xlp n (f n)
  have c:=b n
  unfold Uv
  rw[AK]
  omega
theorem Dj(b o C n:Nat)(f:Nat->Nat)(w0:World)(S:TabAt w0)(W:n<=24)(L:∀k,f k<4294967296)(M:∀k,k<n->w0.cell? ⟨b,o+k,none⟩=some (u32 (f k))):
 Calls prog 169 #[Vd b o n C] w0 λe U=>∃A c,e=.returned (.slice A (Uv f n).length c)/\Own w0 none U [.rws 281 2 (.slice A (Uv f n).length c) ((Uv f n).map prC)]:=by
 have H:=Own.start w0 none
 have z:=BX L
 refine VU func169 Z ntmps169 Z (λa F=>?_)
 refine gg 7 λa F=>?_
 replace H:=H.nilRws 281 2
 refine gg 9 λa F=>?_
 refine cLoopS [6,7] (λm r w=>∃(j:Nat)(t:Option Addr)(u:Nat),m=n-j/\r=[(3,.slice t (Uv f j).length u),(8,Ve ((j:Nat):Int))]/\j<=n/\Own w0 none w [.rws 281 2 (.slice t (Uv f j).length u) ((Uv f j).map prC)]) F (n) [(3,.slice none 0 0),(8,Ve ((0:Nat):Int))] ?_ ?_
 ·exact⟨0,none,0,Z,Z,AU _,H⟩
 clear F H;intro m r a w K F
 obtain⟨j,t,u,rfl,rfl,V,H⟩:=K
 refine gg 6 λa F=>zi (λP=>?_) λP=>?_
 ·
  have v:j<n:=O
  have J:=L j
  have Q:=z (j+1)
  have T:Uv f (j+1)=Uv f j++Xgb j (f j):=rfl
  refine gg 7 λa F=>?_
  refine sLd isAgg207 F Z Z Z (show _=some (u32 (f j))from H.arg (by rw[FZ];exact M j v)) λa F=>?_
  refine gg 4 λa F=>?_
  refine cLoopS [4,6,7,8] (λm r w=>∃(s:Nat)(p:List Pr) (d:List (List Value)) (t:Option Addr) (u:Nat),s=m/\r=[(3,.slice t d.length u),(5,.int .u32 ((s:Nat):Int))]/\d=p.map prC/\s<4294967296/\p++Xgb j s=Uv f (j+1)/\Own w0 none w [.rws 281 2 (.slice t d.length u) d]) F (f j) [(3,.slice t (Uv f j).length u),(5,.int .u32 ((f j:Nat):Int))] ?_ ?_
  ·exact⟨f j,Uv f j,(Uv f j).map prC,t,u,Z,(by rw[AH]),Z,J,Z,(by rw[AH];exact H)⟩
  clear F H;intro m r a w K F
  obtain⟨s,p,d,t,u,rfl,rfl,i,G,g,H⟩:=K
  refine gg 7 λa F=>zi (λE=>?_) λE=>?_
  ·
   have q:0<s:=O
   have N:d.length=p.length:=by rw[i,AH]
   have B:p.length+(Xgb j s).length=(Uv f (j+1)).length:=by rw[<-g,AK]
   rw[Xlo q]at g B;rw[AY]at B
   refine gg 6 λa F=>?_
   refine zCa F (Xqy s _ G q (S.own H)) H λa w F H=>?_
   refine gg 3 λa F=>?_
   refine sBaB Xqo underlying281 sizeOf5 F Z Z Z (FillB.one Z Z (FillB.one Z Z FillB.nil)) λa F=>?_;refine XeM H underlying146 sizeOf281 zeroValue281 Z F Z Z Z Z Z λR a w F H=>?_
   refine G7 (bytes:=2) H 1 underlying146 typeInfo281 Z Z Z Z Z Z F Z Z Z Z Z (H.whole 0 Z) Z ?s1 ?s2 ?_
   case s1=>rfl
   case s2=>omega
   clear F a H;intro I D a w F H
   refine gg 5 λa F=>?_
   refine Xh F Z Z (Xr9 (n:=s) (m:=1) q G) (Ei Z Z Z Z (Xn6 (n:=s) (m:=s-1) G O) λa F=>?_)
   refine gg 2 λa F=>?_
   (refine⟨_,?_,_,⟨s&&&(s-1),p++[MD j (tzN s)],_,I,D,Z,Z,?_,?_,?_,H.tail⟩,F.tt⟩
    ·have:=Ny s;omega
    ·rw[Ae,<-i];rfl
    ·have:=Ny s;omega
    ·rw[AO];exact g)
  have q:s=0:=O
  rw[q]at g
  have y:p=Uv f (j+1):=by rw[<-g];exact(Ak _).symm
  rw[i,AH,y]at F H
  refine gg 5 λa F=>?_
  (refine⟨_,?_,_,⟨j+1,t,u,Z,Z,v,H⟩,F.tt⟩
   ·omega)
 have v:j=n:=O
 subst v
 refine gg 8 λa F=>?_
 exact⟨_,_,Z,H⟩
section
variable{P:Program}{l:List Oper}{Q:Exit->Act->World->Prop}{N:Nat}{a:Act}{env:List (Nat×Value)}{rest:List Oper}{d:Tmp}{ty:TypeId}{pos:String}{af:Array Edge}{g:Option (Nat×Bool)}{w:World}
theorem XiG{t e:TypeId}{x p:Operand}{o:Nat}{k:IntKind}(c:P.underlying t=some (.array n e))(s:∀w,(sizeOf e).run P w=.ok sz w)(F:Has N a env)(r:ev env x=some (Vc b o))(u:ev env p=some (.int k (j:Int)))(v:j<=n):
 (execOp a.eval ⟨some d,.slice t x none (some p) none,ty,pos,af,g⟩).run P w=.ok (.value (Vd b o j n)) w:=by
 have m:P.elem t=e:=by simp[Program.elem,c]
 have i:P.arrayLen t=n:=by simp[Program.arrayLen,c]
 have q:=run_sliceAt_array_h (P:=P) w t ⟨b,o,none⟩ (by rw[m,i];exact c) k (j:Int) O (by rw[i];omega)
 rw[m,s,i]at q
 simp only[execOp,IU,H7,F.eval r,F.eval u,Sem.run_bind,q,Result.andThen_ok,slicedAt,FU,Sem.run_pure]
 split<;>simp[Addr.add]
end
theorem Xg5(b o C:Nat)(c:List (List Value))(w0:World)(m:RowsAt w0 (some ⟨b,o,none⟩) 7 c)(g:∀r∈c,r.length=7)(p:∀r∈c,r.all (·.oneCell')=true)(u:c.length<=1000000):
 Calls prog 63 #[Vd b o c.length C] w0 λe n=>∃i j,e=.returned (.slice i c.length j)/\Own w0 none n [.rws 156 7 (.slice i c.length j) c]:=by
 refine Vb func63 ntmps63 λH a F=>?_
 refine gg 8 λa F=>?_
 refine Xh F Z Z (bNil XK) λa F=>?_
 refine gg 1 λa F=>?_
 refine cIf F Z (λd=>?_) (λd=>?_)
 ·
  cases d
 refine gg 3 λa F=>?_
 refine sBs (cs:=[]) H XK XG XO Z F Z Z Z Z Z λs a w F H=>?_
 replace H:=H.emptyRws 7
 refine gg 1 λa F=>?_
 refine Xli (bytes:=16) H 0 XK typeInfo156 Z Z Z Z Z Z F Z Z Z Z Z (by rfl) (((m.own H).flat g)) (g) (p) ((by simp only[Fw];omega)) λt q a w F H=>?_
 refine gg 4 λa F=>?_
 simp only[FI]at H
 exact⟨_,_,Z,H.pick 0 Z⟩
def GL(r:RunP):List Ev:=(List.range r.many).map r.ev
theorem UA(r:RunP):(GL r).length=r.many:=by unfold GL;rw[AH,Aq]
theorem Xkt(r:RunP){k:Nat}(c:k<24)(b:j<7):r.cells[19+k*7+j]?=some ((r.ev k).cell j):=by
 rw[r.get O,G1 _ O,if_pos O,show(19+k*7+j-19)/7=k by omega,show(19+k*7+j-19)%7=j by omega]
theorem XmC(n:Qm w b r)(hm:r.many<=24):RowsAt w (some ⟨b,19,none⟩) 7 ((GL r).map Ev.cells):=λj o c=>by
 unfold GL at c
 rw[Fj,AD]at c
 have d:j<r.many:=by
  rcases AN j r.many with h|h
  ·exact h
  ·rw[AV (by rw[Aq];exact h)]at c;cases c
 rw[Av d]at c
 obtain rfl:=Ac c
 refine⟨b,19,Z,λi v m=>?_⟩
 have g:i<7:=(AB.1 m).1
 have e:(r.ev j).cells[i]?=some v:=m
 rw[Ev.cells_at _ g]at e
 obtain rfl:=Ac e
 exact n.cell _ (Xkt r O g)
def Df(e:Option Addr)(c1:Nat)(i:Option Addr)(c2:Nat)(d:Option Addr)(c:Nat)(b:Option Addr)(g:Nat)(r:RunP):List Value:=
 [.slice e r.many c1,.slice i (Uv r.data r.many).length c2,.slice d (Uv r.ctrl r.many).length c,.slice b (Uv r.att r.many).length g,b8 (r.regs 0),b8 (r.regs 1),b8 (r.regs 2),b8 (r.regs 3),b8 (r.regs 4),b8 (r.regs 5),b8 (r.regs 6),b8 (r.regs 7)]
theorem Xgi(g:Qm w b r):w.rangeAt b 1 (bs 8 r.regs):=λj v c=>by
 have d:j<8:=by have:=(AB.1 c).1;rwa [bs_length]at this
 have e:(bs 8 r.regs)[j]?=some (b8 (r.regs j)):=by unfold bs;rw[AD,Av d];rfl
 rw[e]at c
 obtain rfl:=Ac c
 exact g.cell _ (XfI r d)
def XiO(e:Option Addr)(c1:Nat)(i:Option Addr)(c2:Nat)(d:Option Addr)(c:Nat)(b:Option Addr)(g:Nat)(r:RunP):List Res:=
 [.rws 156 7 (.slice e r.many c1) ((GL r).map Ev.cells),.rws 281 2 (.slice i (Uv r.data r.many).length c2) ((Uv r.data r.many).map prC),.rws 281 2 (.slice d (Uv r.ctrl r.many).length c) ((Uv r.ctrl r.many).map prC),.rws 281 2 (.slice b (Uv r.att r.many).length g) ((Uv r.att r.many).map prC)]
theorem XlH(b:Nat)(r:RunP)(w0:World)(d:Qm w0 b r)(z:TabAt w0)(hm:r.many<=24)(hs:SetsOk r):
 Calls prog 112 #[Vc b 0] w0 λe D=>∃m t o u j g p n,e=.returned (.agg (Df m t o u j g p n r).toArray)/\Own w0 none D (XiO m t o u j g p n r):=by
 have H:=Own.start w0 none
 have G:w0.rangeAt b 0 r.cells:=Xcy d
 have v:w0.cell? ⟨b,18,none⟩=some (Ve (r.many:Int)):=d.cell _ (M3 r)
 have C:=XmC d hm
 have A:=UA r
 have s:=Xg5 b 19 24 ((GL r).map Ev.cells)
 rw[AH,A]at s;refine VU func112 Z ntmps112 Z (λa F=>?_)
 refine gg 2 λa F=>?_
 refine zAl Yi H F λE a w F H=>?_
 refine gg 2 λa F=>?_
 refine zRO H λH=>?_
 refine gg 7 λa F=>?_
 refine Xa (k:=7) (i:=7) Z F Z Z (λw H=>XiG underlying209 XG F Z Z ?_) H (λ_ _ _ h=>h) ?_
 focus(omega)
 clear F a;intro a F;refine Xb 9 Z F Z (λw=>rMv F Z) H qq0 (qT 10 Z Y Z Z Z Z (λa F w H=>rNc F Z) H qq0 (Xg 11 Z Z (λa F w=>rFa (f:=6) (k:=187) XQ Z sizeOf210 Z Z F Z) H qq0 (Xg 12 Z Z (λa F w=>rMv F Z) H qq0 (qT 13 Z Y Z Z Z Z (λa F w H=>rNc F Z) H qq0 (Xg 14 Z Z (λa F w=>rFa (f:=4) (k:=18) XQ Z XM Z Z F Z) H qq0 (qT 15 Z Y Z Z Z Z (λa F w H=>rLd Ye F Z (H.arg v)) H qq0 λa F=>?_))))))
 refine Xa (k:=15) (i:=16) Z F Z Z (λw H=>XiG underlying210 sizeOf207 F Z Z ?_) H (λ_ _ _ h=>h) ?_
 focus(omega)
 clear F a;intro a F;refine Xb 18 Z F Z (λw=>rMv F Z) H qq0 (qT 19 Z Y Z Z Z Z (λa F w H=>rNc F Z) H qq0 (Xg 20 Z Z (λa F w=>rFa (f:=7) (k:=211) XQ Z sizeOf210 Z Z F Z) H qq0 (Xg 21 Z Z (λa F w=>rMv F Z) H qq0 (qT 22 Z Y Z Z Z Z (λa F w H=>rNc F Z) H qq0 (Xg 23 Z Z (λa F w=>rFa (f:=4) (k:=18) XQ Z XM Z Z F Z) H qq0 (qT 24 Z Y Z Z Z Z (λa F w H=>rLd Ye F Z (H.arg v)) H qq0 λa F=>?_))))))
 refine Xa (k:=23) (i:=25) Z F Z Z (λw H=>XiG underlying210 sizeOf207 F Z Z ?_) H (λ_ _ _ h=>h) ?_
 focus(omega)
 clear F a;intro a F;refine Xb 27 Z F Z (λw=>rMv F Z) H qq0 (qT 28 Z Y Z Z Z Z (λa F w H=>rNc F Z) H qq0 (Xg 29 Z Z (λa F w=>rFa (f:=8) (k:=235) XQ Z sizeOf210 Z Z F Z) H qq0 (Xg 30 Z Z (λa F w=>rMv F Z) H qq0 (qT 31 Z Y Z Z Z Z (λa F w H=>rNc F Z) H qq0 (Xg 32 Z Z (λa F w=>rFa (f:=4) (k:=18) XQ Z XM Z Z F Z) H qq0 (qT 33 Z Y Z Z Z Z (λa F w H=>rLd Ye F Z (H.arg v)) H qq0 λa F=>?_))))))
 refine Xa (k:=31) (i:=34) Z F Z Z (λw H=>XiG underlying210 sizeOf207 F Z Z ?_) H (λ_ _ _ h=>h) ?_
 focus(omega)
 clear F a;intro a F;refine Xb 36 Z F Z (λw=>rMv F Z) H qq0 (qT 37 Z Y Z Z Z Z (λa F w H=>rNc F Z) H qq0 (Xg 38 Z Z (λa F w=>rFa (f:=1) (k:=1) XQ Z XF Z Z F Z) H qq0 (qT 39 Z Y Z Z Z Z (λa F w H=>L3 XI Z XF F Z (H.argR (Xgi d))) H qq0 λa F=>?_)));refine Xd (k:=36) (i:=8) Z F (UK call63 F Z Z (s _ (C.own H) (by intro q y;obtain⟨x,_,rfl⟩:=AT.1 y;rfl) (by intro q y;obtain⟨x,_,rfl⟩:=AT.1 y;rfl) O) ?_);rintro e w ⟨m,t,rfl,c⟩;replace H:=H.join c;clear c
 refine zq λa F=>?_
 refine V6 H.tail ?_;refine Xd (k:=37) (i:=17) Z F (UK call169 F Z Z (Dj b 187 24 r.many r.data _ (z.own H) hm hs.data (λk B=>H.arg (d.cell _ (M4 r O)))) ?_);rintro e w ⟨o,u,rfl,c⟩;replace H:=H.join c;clear c
 refine zq λa F=>?_
 refine V6 H.tail.tail ?_;refine Xd (k:=38) (i:=26) Z F (UK call169 F Z Z (Dj b 211 24 r.many r.ctrl _ (z.own H) hm hs.ctrl (λk B=>H.arg (d.cell _ (M5 r O)))) ?_);rintro e w ⟨j,g,rfl,c⟩;replace H:=H.join c;clear c
 refine zq λa F=>?_
 refine V6 H.tail.tail.tail ?_;refine Xd (k:=39) (i:=35) Z F (UK call169 F Z Z (Dj b 235 24 r.many r.att _ (z.own H) hm hs.att (λk B=>H.arg (d.cell _ (ER r O)))) ?_);rintro e w ⟨p,n,rfl,c⟩;replace H:=H.join c;clear c
 refine zq λa F=>?_
 refine V6 H.tail.tail.tail.tail ?_;refine Xe 40 Z F Z Z (λw H=>rBd (cs:=Df m t o u j g p n r) (places:=[(0,1),(1,1),(2,1),(3,1),(4,8)]) Yi underlying148 Y F Z Z) H.tail.tail.tail.tail qq0 λa F=>?_
 refine Xd (k:=41) (i:=41) Z F (oSr H 4 ?si F Z Z ?s1 Z Z ?_)
 case si=>exact VT sizeOf148
 case s1=>rfl
 clear H;intro w H
 refine gg 3 λa F=>?_
 refine Nf results112 F Z underlying148 Z H 4 Z sizeOf148 Z ?_
 exact⟨m,t,o,u,j,g,p,n,Z,H.sel [3,2,1,0] Z Z⟩
structure PathP where
 evs:List Ev
 data:List Pr
 ctrl:List Pr
 rmw:List Pr
 regs:By
def Xne:PathP:=⟨[],[],[],[],zb⟩
def Ul(r:RunP):PathP:=⟨GL r,Uv r.data r.many,Uv r.ctrl r.many,Uv r.att r.many,r.regs⟩
def PathP.cells(p:PathP)(e:Option Addr)(c1:Nat)(i:Option Addr)(c2:Nat)(d:Option Addr)(c:Nat)(b:Option Addr)(g:Nat):List Value:=
 [.slice e p.evs.length c1,.slice i p.data.length c2,.slice d p.ctrl.length c,.slice b p.rmw.length g,b8 (p.regs 0),b8 (p.regs 1),b8 (p.regs 2),b8 (p.regs 3),b8 (p.regs 4),b8 (p.regs 5),b8 (p.regs 6),b8 (p.regs 7)]
def PathP.res(p:PathP)(e:Option Addr)(c1:Nat)(i:Option Addr)(c2:Nat)(d:Option Addr)(c:Nat)(b:Option Addr)(g:Nat):List Res:=
 [.rws 156 7 (.slice e p.evs.length c1) (p.evs.map Ev.cells),.rws 281 2 (.slice i p.data.length c2) (p.data.map prC),.rws 281 2 (.slice d p.ctrl.length c) (p.ctrl.map prC),.rws 281 2 (.slice b p.rmw.length g) (p.rmw.map prC)]
theorem Qy(H:Own w0 none w rs)(i:Nat){u:List Value}{t:TypeId}(q:rs[i]?=some (.blk b u t)){A:Option Addr}{d:List (List Value)}(h:RowsAt w0 A sz d)(s:∀r∈d,0<r.length):JK w b A sz d:=λj g n=>by
 obtain⟨c,m,e,o⟩:=h j g n
 refine⟨c,m,e,λp=>?_,H.argR o⟩
 have y:=s _ (AF n)
 obtain⟨v,z⟩:∃v,g[0]?=some v:=⟨_,AA y⟩
 have B:c<w0.heap.size:=World.block_lt_of_cell? w0 _ (o 0 v z)
 rcases(H.foot i _ q b rfl).1 with h2|h2
 ·omega
 ·cases h2
theorem Xph:∀r∈l.map Ins.cells,0<r.length:=λr b=>by
 obtain⟨x,_,rfl⟩:=AT.1 b
 exact Nat.zero_lt_succ _
theorem Xmz(r:RunP)(d:Nat)(v:UInt8):GL (r.wReg d v)=GL r:=rfl
theorem XmA(r:RunP)(d n:Nat):GL (r.wDep d n)=GL r:=rfl
theorem Eb(r:RunP)(n:Nat):GL (r.wControl n)=GL r:=rfl
theorem XjY(r:RunP)(n:Nat):GL (r.wPc n)=GL r:=rfl
theorem XjZ(r:RunP)(d n:Nat):GL (r.wData d n)=GL r:=rfl
theorem Xj0(r:RunP)(d n:Nat):GL (r.wCtrl d n)=GL r:=rfl
theorem XmB(r:RunP)(d n:Nat):GL (r.wAtt d n)=GL r:=rfl
theorem Xau(d v:UInt8)(n:Nat)(r:RunP):GL (setP d v n r)=GL r:=by unfold setP;rw[XmA,Xmz]
theorem Xpv(r:RunP)(e:Ev):GL ((r.wEv r.many e).wMany (r.many+1))=GL r++[e]:=by
 unfold GL RunP.wEv RunP.wMany
 show(List.range (r.many+1)).map (GB r.ev r.many e)=_
 rw[HB,Ae,FH,IB]
 have d:GB r.ev r.many e r.many=e:=by unfold GB;rw[if_pos Z]
 have b:(List.range r.many).map (GB r.ev r.many e)=(List.range r.many).map r.ev:=H9 λi c=>by
  have:=Ab.1 c
  unfold GB
  rw[if_neg O]
 rw[d,b]
theorem Nr(c e d b:UInt8)(n:Nat)(r:RunP):GL (UL c e d b n r)=GL r++[⟨c,e,d,b,UInt8.ofNat r.pc,UInt8.ofNat r.many⟩]:=Xpv r _
theorem Xav(x:Ins)(c b:UInt8)(n:Nat)(r:RunP):GL (GP x c b n r)=GL r++[⟨1,x.loc,c,3,UInt8.ofNat r.pc,UInt8.ofNat r.many⟩,⟨2,x.loc,b,3,UInt8.ofNat r.pc,UInt8.ofNat (r.many+1)⟩]:=by
 unfold GP
 rw[Xau,XmB,Nr,Nr,N8,JI,AO]
 rfl
def U1(x:Ins)(v:UInt8)(r:RunP):List Ev:=
 if x.op=1 then[⟨1,x.loc,v,x.mode,UInt8.ofNat r.pc,UInt8.ofNat r.many⟩]
 else if x.op=2 then[⟨2,x.loc,UX x.aR x.aN r,x.mode,UInt8.ofNat r.pc,UInt8.ofNat r.many⟩]
 else if x.op=3 then[]
 else if x.op=4 then[⟨1,x.loc,v,3,UInt8.ofNat r.pc,UInt8.ofNat r.many⟩,⟨2,x.loc,UX x.aR x.aN r,3,UInt8.ofNat r.pc,UInt8.ofNat (r.many+1)⟩]
 else if x.op=5 then[⟨1,x.loc,v,3,UInt8.ofNat r.pc,UInt8.ofNat r.many⟩,⟨2,x.loc,v+UX x.aR x.aN r,3,UInt8.ofNat r.pc,UInt8.ofNat (r.many+1)⟩]
 else if x.op=6 then(if v≠UX x.aR x.aN r then[⟨1,x.loc,v,3,UInt8.ofNat r.pc,UInt8.ofNat r.many⟩]else[⟨1,x.loc,v,3,UInt8.ofNat r.pc,UInt8.ofNat r.many⟩,⟨2,x.loc,UX x.bR x.bN r,3,UInt8.ofNat r.pc,UInt8.ofNat (r.many+1)⟩])
 else if x.op=7 then[⟨3,0,0,x.mode,UInt8.ofNat r.pc,UInt8.ofNat r.many⟩]
 else[]
theorem JV(x:Ins)(v:UInt8)(r:RunP):GL (Ub x v r)=GL r++U1 x v r:=by
 unfold Ub
 rw[XjY]
 unfold Js U1
 split
 ·unfold Xai;rw[Xau,Nr]
 ·split
  ·unfold Mq;rw[Nr]
  ·split
   ·unfold QI;rw[Xau,Ak]
   ·split
    ·unfold CA;rw[Xav]
    ·split
     ·unfold NS;rw[XjZ,Xav]
     ·split
      ·unfold XaL
       split
       ·rw[Xau,Nr]
       ·rw[Xj0,Xav]
      ·split
       ·unfold MS;rw[Nr]
       ·unfold JY
        split
        ·rw[XjY,Eb,Ak]
        ·rw[Eb,Ak]
theorem Xhv(r:RunP)(d:Nat)(v:UInt8):(r.wReg d v).regs=put r.regs d v:=rfl
theorem Xhx(r:RunP)(d n:Nat):(r.wDep d n).regs=r.regs:=rfl
theorem Mm(r:RunP)(n:Nat):(r.wControl n).regs=r.regs:=rfl
theorem Xer(r:RunP)(n:Nat):(r.wPc n).regs=r.regs:=rfl
theorem XfU(r:RunP)(n:Nat):(r.wMany n).regs=r.regs:=rfl
theorem Xk2(r:RunP)(k:Nat)(e:Ev):(r.wEv k e).regs=r.regs:=rfl
theorem BE(r:RunP)(d n:Nat):(r.wData d n).regs=r.regs:=rfl
theorem BF(r:RunP)(d n:Nat):(r.wCtrl d n).regs=r.regs:=rfl
theorem Xhz(r:RunP)(d n:Nat):(r.wAtt d n).regs=r.regs:=rfl
theorem Et(d v:UInt8)(n:Nat)(r:RunP):(setP d v n r).regs=put r.regs d.toNat v:=by unfold setP;rw[Xhx,Xhv]
theorem Qh(c e d b:UInt8)(n:Nat)(r:RunP):(UL c e d b n r).regs=r.regs:=by unfold UL;rw[XfU,BF,BE,Xk2]
theorem DP(x:Ins)(b c:UInt8)(n:Nat)(r:RunP):(GP x b c n r).regs=put r.regs x.dst.toNat b:=by unfold GP;rw[Et,Xhz,Qh,Qh]
def C5(x:Ins)(v:UInt8)(r:RunP):By:=
 if x.op=1\/x.op=4\/x.op=5\/x.op=6 then put r.regs x.dst.toNat v else if x.op=3 then put r.regs x.dst.toNat (Xo5 x.fn (UX x.aR x.aN r) (UX x.bR x.bN r))else r.regs
theorem XiB(x:Ins)(v:UInt8)(r:RunP):(Ub x v r).regs=C5 x v r:=by
 unfold Ub
 rw[Xer]
 unfold Js C5
 split
 next h=>rw[if_pos (.inl h)];unfold Xai;rw[Et,Qh]
 next g=>
  split
  next h=>rw[h,if_neg (by decide),if_neg (by decide)];unfold Mq;rw[Qh]
  next j=>
   split
   next h=>rw[if_neg (by rw[h];decide)];unfold QI;rw[Et]
   next i=>
    split
    next h=>rw[if_pos (.inr (.inl h))];unfold CA;rw[DP]
    next c=>
     split
     next h=>rw[if_pos (.inr (.inr (.inl h)))];unfold NS;rw[BE,DP]
     next e=>
      split
      next h=>
       rw[if_pos (.inr (.inr (.inr h)))]
       unfold XaL
       split
       ·rw[Et,Qh]
       ·rw[BF,DP]
      next d=>
       have b:¬(x.op=1\/x.op=4\/x.op=5\/x.op=6):=λh=>h.elim g (λh=>h.elim c (λh=>h.elim e d))
       simp only[b,if_false]
       split
       ·unfold MS;rw[Qh]
       ·unfold JY
        split
        ·rw[Xer,Mm]
        ·rw[Mm]
theorem XoV(x:Ins)(v:UInt8)(r:RunP):(Ub x v r).pc=if x.op=8/\XeE x.fn (UX x.aR x.aN r) (UX x.bR x.bN r)=true then r.pc+x.skip.toNat+1 else if 1<=x.op.toNat/\x.op.toNat<=8 then r.pc+1 else(Ub x v r).pc:=by
 have g:∀y:RunP,(y.wPc (y.pc+1)).pc=y.pc+1:=λy=>rfl
 unfold Ub
 rw[g]
 by_cases b:x.op=8
 ·have e:Js x v r=JY x r:=by unfold Js;rw[b];rfl
  rw[e]
  unfold JY
  by_cases d:XeE x.fn (UX x.aR x.aN r) (UX x.bR x.bN r)=true
  ·rw[if_pos d,if_pos ⟨b,d⟩,Xnh]
  ·rw[if_neg d,if_neg (λh=>d h.2),b,if_pos (by decide),XcW]
 ·rw[if_neg (λh=>b h.1)]
  by_cases c:1<=x.op.toNat/\x.op.toNat<=8
  ·rw[if_pos c]
   refine congrArg (· + 1) ?_
   unfold Js
   split
   ·exact Xjn x v r
   ·split
    ·exact Xez x r
    ·split
     ·exact Xjb x r
     ·split
      ·exact XhV x v r
      ·split
       ·exact Xfv x v r
       ·split
        ·exact XnZ x v r
        ·split
         ·exact Xfw x r
         ·next q n i j p m o=>
          exfalso
          rcases MF x.op (by rw[AJ];exact⟨decide_eq_true (Ai.2 c.1),decide_eq_true (Ai.2 c.2)⟩)with h|h|h|h|h|h|h|h
          ·exact q h
          ·exact n h
          ·exact i h
          ·exact j h
          ·exact p h
          ·exact m h
          ·exact o h
          ·exact b h
  ·rw[if_neg c]
theorem XgK(x:UInt8)(w0:World):Va 200 #[YtajfpcgbnflceaaGreatDoor.b8 x] w0 (.bool false):=by
 refine Vb func200 ntmps200 λH a F=>?_
 refine gg 13 λa F=>?_
 exact⟨by simp,H.below⟩
theorem UN(x y:UInt8)(w0:World):Va 216 #[YtajfpcgbnflceaaGreatDoor.b8 x,YtajfpcgbnflceaaGreatDoor.b8 y] w0 (.bool (decide (x.toNat<y.toNat))):=by
 refine Vb func216 ntmps216 λH a F=>?_
 refine gg 7 λa F=>?_
 refine zCa F (XgK x _) H λa w F H=>?_
 refine gg 1 λa F=>?_
 refine F.split 7 Z (λc F=>?_) λc F=>?_
 ·
  cases c
 refine gg 13 λa F=>?_
 exact⟨by simp[Aa],H.below⟩
theorem Gf{row:Option Nat}{g c:Nat}{d:By}(H:Own w0 row w (.byt g n c (put (put d i (d j)) j (d i))::rs)):Own w0 row w (.byt g n c (swp d i j)::rs):=by
 rw[XiH]at H;exact H
theorem XdO(g n c:Nat)(d:By)(o p:Nat)(W:World)(row:Option Nat)(rs:List Res)(w0:World)(H:Own W row w0 (.byt g n c d::rs))(hb:p<=n)(P:n<=1000000)(E:o<=p):
 Calls prog 210 #[Vd g 0 n c,Ve (o:Int),Ve (p:Int)] w0 λe M=>e=.returned (.tuple #[])/\∃v,Sm o p d v/\Srt o p v/\Own W row M (.byt g n c v::rs):=by
 refine VU func210 Z ntmps210 Z (λa F=>?_)
 refine gg 7 λa F=>?_
 refine cLoopS [0,1,2] (λm q w=>∃(i:Nat)(e:By),m=p-i/\q=[(6,Ve ((i:Nat):Int))]/\o+1<=i/\(i<=p\/i=o+1)/\Sm o p d e/\Srt o i e/\Own W row w (.byt g n c e::rs)) F (p-(o+1)) [(6,Ve ((o+1:Nat):Int))] ?_ ?_
 ·exact⟨o+1,d,Z,Z,AI _,.inr Z,Sm.refl _ _ _,Srt.small _ (AI _),H⟩
 clear F H;intro m q a w B F
 obtain⟨i,e,rfl,rfl,J,C,u,t,H⟩:=B
 refine gg 8 λa F=>zi (λz=>?_) λz=>?_
 ·
  have I:i<p:=O
  refine gg 9 λa F=>?_
  refine cLoopS [0,1,2,6] (λm q w=>∃(j:Nat)(f:By),m=j+1/\q=[(7,Ve ((j:Nat):Int))]/\Insd o i j f/\Sm o p d f/\Own W row w (.byt g n c f::rs)) F (i+1) [(7,Ve ((i:Nat):Int))] ?_ ?_
  ·exact⟨i,e,Z,Z,Insd.start t O,u,H⟩
  clear F H;intro m q a w B F
  obtain⟨j,f,rfl,rfl,b,r,H⟩:=B;have L:=b.lo;have D:=b.hi
  refine gg 2 λa F=>?_
  refine zRO H λH=>?_
  refine gg 4 λa F=>?_
  refine zSp 19 F (λK F=>?_) λK F=>?_
  ·
   have y:o<j:=O
   refine gg 9 λa F=>?_
   refine zEc 13 F (UN (f j) (f (j-1)) _) H λa w F H=>?_
   refine gg 3 λa F=>?_
   refine cIf F Z (λs=>?_) (λs=>?_)
   ·
    refine gg 3 λa F=>?_
    refine zRO H λH=>?_
    refine gg 15 λa F=>?_
    refine Xd (k:=15) (i:=15) Z F (J4 H 0 sizeOf5 F Z Z Z O λw H=>?_)
    refine gg 2 λa F=>?_
    refine Xd (k:=17) (i:=17) Z F (J4 H 0 sizeOf5 F Z Z Z O λw H=>?_)
    refine gg 7 λa F=>?_
    (exact⟨_,O,_,⟨j-1,_,Z,Z,b.step y (of_decide_eq_true s),r.trans (Sm.swap f O O O O),Gf H⟩,F.tt⟩)
   refine gg 6 λa F=>?_
   (have A:=b.done (.inr (of_decide_eq_false s))
    exact⟨_,O,_,⟨i+1,_,Z,Z,O,.inl O,r,A,H⟩,F.tt⟩)
  refine gg 12 λa F=>?_
  refine cIfF F Z ?_
  refine gg 6 λa F=>?_
  (have A:=b.done (.inl O)
   exact⟨_,O,_,⟨i+1,_,Z,Z,O,.inl O,r,A,H⟩,F.tt⟩)
 refine gg 1 λa F=>?_
 refine bEnd results210 F ?_
 exact⟨Z,e,u,λk G N=>t k G O,H⟩
section
variable{P:Program}{t:TypeId}{x y:Operand}{n m c i j:Nat}{yk:IntKind}
theorem XpQ(d:c<=64):Gu P .shl t x y (.int .u64 (n:Int)) (.int yk (c:Int)) (.int .u64 ((n*2^c%18446744073709551616:Nat):Int)):=λw=>by
 have b:Op.shift .shl .u64 (n:Int) yk (c:Int)=pure (.int .u64 (IntKind.u64.wrap ((n:Int)*2^(c:Int).toNat))):=shift_shl .u64 yk (n:Int) (c:Int) O (by show(c:Int)<=64;omega)
 simp only[eqGuard_shl,binOp_shl,b]
 show Result.ok (Value.int .u64 (IntKind.u64.wrap ((n:Int)*2^c))) w=_
 have e:IntKind.u64.wrap ((n:Int)*2^c)=((n*2^c%18446744073709551616:Nat):Int):=by
  rw[Qr]
  have:(n:Int)*((2:Int)^c)=((n*2^c:Nat):Int):=by simp
  rw[this]
  omega
 rw[e]
theorem Xm5(d:c<=64):Gu P .shr t x y (.int .u64 (n:Int)) (.int yk (c:Int)) (.int .u64 ((n/2^c:Nat):Int)):=λw=>by
 have b:Op.shift .shr .u64 (n:Int) yk (c:Int)=pure (.int .u64 ((n:Int)/2^(c:Int).toNat)):=shift_shr .u64 yk (n:Int) (c:Int) O (by show(c:Int)<=64;omega)
 simp only[eqGuard_shr,binOp_shr,b]
 show Result.ok (Value.int .u64 ((n:Int)/2^c)) w=_
 have e:(n:Int)/2^c=((n/2^c:Nat):Int):=by
  have:((2:Int)^c)=((2^c:Nat):Int):=by simp
  rw[this];exact(I8 _ _).symm
 rw[e]
theorem XpO(b:n<18446744073709551616)(hm:m<18446744073709551616):Gu P .xor t x y (.int .u64 (n:Int)) (.int .u64 (m:Int)) (.int .u64 ((n^^^m:Nat):Int)):=λw=>by
 simp only[eqGuard,binOp,Op.intBits,go_sem]
 show Result.ok (Value.int .u64 (IntKind.u64.wrap ((BitVec.ofInt 64 (n:Int)^^^BitVec.ofInt 64 (m:Int)).toNat:Int))) w=_
 have c:(BitVec.ofInt 64 (n:Int)^^^BitVec.ofInt 64 (m:Int)).toNat=n^^^m:=by
  rw[BitVec.toNat_xor,BitVec.ofInt_natCast,BitVec.ofInt_natCast,BitVec.toNat_ofNat,BitVec.toNat_ofNat,Fg (by simpa using b),Fg (by simpa using hm)]
 rw[c,XcT (Iy (n:=64) (by simpa using b) (by simpa using hm))]
theorem bAndG(b:n<18446744073709551616)(hm:m<18446744073709551616):Gu P .and t x y (.int .u64 (n:Int)) (.int .u64 (m:Int)) (.int .u64 ((n&&&m:Nat):Int)):=λw=>by
 simp only[eqGuard,binOp,Op.intBits,go_sem]
 show Result.ok (Value.int .u64 (IntKind.u64.wrap ((BitVec.ofInt 64 (n:Int)&&&BitVec.ofInt 64 (m:Int)).toNat:Int))) w=_
 have c:(BitVec.ofInt 64 (n:Int)&&&BitVec.ofInt 64 (m:Int)).toNat=n&&&m:=by
  rw[BitVec.toNat_and,BitVec.ofInt_natCast,BitVec.ofInt_natCast,BitVec.toNat_ofNat,BitVec.toNat_ofNat,Fg (by simpa using b),Fg (by simpa using hm)]
 rw[c,XcT (Ic Nat.and_le_left b)]
theorem bSubU(hm:m<=n)(b:n<18446744073709551616):Gu P .sub t x y (.int .u64 (n:Int)) (.int .u64 (m:Int)) (.int .u64 ((n-m:Nat):Int)):=λw=>by
 have:(do eqGuard .sub t x y (.int .u64 (n:Int)) (.int .u64 (m:Int));binOp .sub t (.int .u64 (n:Int)) (.int .u64 (m:Int)):Sem Value).run P w=.ok (.int .u64 (IntKind.u64.wrap ((n:Int)-(m:Int)))) w:=by simp[eqGuard,binOp,Op.intArith,go_sem]
 rw[this,show(n:Int)-(m:Int)=((n-m:Nat):Int) by omega,XcT O]
theorem XcE(c:i<=9223372036854775807)(h:0<j):Gu P .quo t x y (Ve (i:Int)) (Ve (j:Int)) (Ve ((i/j:Nat):Int)):=λw=>by
 have d:i/j<=i:=Nat.div_le_self i j
 have b:(i:Int).tdiv (j:Int)=((i/j:Nat):Int):=by
  rw[Int.tdiv_eq_ediv_of_nonneg O];exact(I8 _ _).symm
 simp[eqGuard,go_sem,Op.intDiv,show j≠0 by omega,b]
 rw[<-I8]
 exact Xoh (AW d c)
theorem XaR(h:i*j<=9223372036854775807):Gu P .mul t x y (Ve (i:Int)) (Ve (j:Int)) (Ve ((i*j:Nat):Int)):=λw=>by
 have:(do eqGuard .mul t x y (Ve (i:Int)) (Ve (j:Int));binOp .mul t (Ve (i:Int)) (Ve (j:Int)):Sem Value).run P w=.ok (Ve (IntKind.i64.wrap ((i:Int)*(j:Int)))) w:=by simp[eqGuard,binOp,Op.intArith,go_sem]
 rw[this,<-Iu,Xoh h]
end
theorem XeG(g n c:Nat)(d:By)(u q f:Nat)(W:World)(row:Option Nat)(rs:List Res)(w0:World)(H:Own W row w0 (.byt g n c d::rs))(hb:f+q<=n)(Q:n<=1000000)(I:u<=q)(M:Hp f (u+1) q d):
 Calls prog 235 #[Vd g 0 n c,Ve (u:Int),Ve (q:Int),Ve (f:Int)] w0 λe N=>e=.returned (.tuple #[])/\∃E,Sm (f+u) (f+q) d E/\Hp f u q E/\Own W row N (.byt g n c E::rs):=by
 refine VU func235 Z ntmps235 Z (λa F=>?_)
 refine gg 6 λa F=>?_
 refine cLoopS [0,2,3] (λm C w=>∃(r:Nat)(e:By),m=q-r+1/\C=[(8,Ve ((r:Nat):Int))]/\u<=r/\r<=q/\Hq f u q r e/\Sm (f+u) (f+q) d e/\Own W row w (.byt g n c e::rs)) F (q-u+1) [(8,Ve ((u:Nat):Int))] ?_ ?_
 ·exact⟨u,d,Z,Z,AI _,I,Hq.start M,Sm.refl _ _ _,H⟩
 clear F H;intro m C a w P F
 obtain⟨r,e,rfl,rfl,v,K,y,p,H⟩:=P
 refine gg 4 λa F=>?_
 refine Xh F Z Z (XaR (i:=2) ?_) ?_
 focus omega
 clear F a;intro a F
 refine gg 11 λa F=>zi (λG=>?_) λG=>?_
 ·
  refine gg 1 λa F=>?_
  refine bEnd results235 F ?_
  exact⟨Z,e,p,y.done (λc hc j=>O),H⟩
 have B:2*r+1<q:=O
 refine gg 3 λa F=>?_
 refine zRO H λH=>?_
 refine gg 5 λa F=>?_
 refine zSp 21 F (λL F=>?_) λL F=>?_
 ·
  have J:2*r+1+1<q:=O
  refine gg 13 λa F=>?_
  refine zEc 18 F (UN (e (f+(2*r+1))) (e (f+(2*r+1)+1)) _) H λa w F H=>?_
  refine gg 3 λa F=>?_
  refine cIf F Z (λt=>?_) (λt=>?_)
  ·
   refine gg 7 λa F=>?_
   refine zRO H λH=>?_
   refine gg 12 λa F=>?_
   refine zEc 12 F (UN _ _ _) H λa w F H=>?_
   refine gg 4 λa F=>zi (λb=>?_) λb=>?_
   ·
    refine gg 1 λa F=>?_
    refine bEndR results235 F ?_
    (have z:=of_decide_eq_true t
     have o:¬(e (f+r)).toNat<(e (f+(2*r+1+1))).toNat:=by simpa using b
     exact⟨Z,e,p,y.done (λc hc j=>by
      rcases hc with hc|hc
      ·rw[hc]
       rw[show f+(2*r+1+1)=f+(2*r+1)+1 by omega]at o;omega
      ·rw[hc,show 2*r+2=2*r+1+1 by omega];omega),H⟩)
   refine gg 2 λa F=>?_
   refine zRO H λH=>?_
   refine gg 21 λa F=>?_
   refine Xd (k:=21) (i:=21) Z F (J4 H 0 sizeOf5 F Z Z Z O λw H=>?_)
   refine gg 2 λa F=>?_
   refine Xd (k:=23) (i:=23) Z F (J4 H 0 sizeOf5 F Z Z Z O λw H=>?_)
   refine gg 6 λa F=>?_
   have A:=b
   (have z:=of_decide_eq_true t
    have o:(e (f+r)).toNat<(e (f+(2*r+1+1))).toNat:=by simpa using A
    have s:=y.step (ch:=2*r+1+1) v (.inr Z) J o (λc hc j=>by
     rcases hc with hc|hc
     ·rw[hc,show f+(2*r+1+1)=f+(2*r+1)+1 by omega];omega
     ·rw[hc];exact AI _)
    exact⟨_,O,_,⟨2*r+1+1,_,Z,Z,O,O,s,p.trans (Sm.swap e O O O O),Gf H⟩,F.tt⟩)
  refine gg 3 λa F=>?_
  refine zRO H λH=>?_
  refine gg 12 λa F=>?_
  refine zEc 12 F (UN _ _ _) H λa w F H=>?_
  refine gg 4 λa F=>zi (λb=>?_) λb=>?_
  ·
   refine gg 1 λa F=>?_
   refine bEndR results235 F ?_
   (have o:¬(e (f+r)).toNat<(e (f+(2*r+1))).toNat:=by simpa using b
    exact⟨Z,e,p,y.done (λc hc j=>by
     rcases hc with hc|hc
     ·rw[hc];omega
     ·(have D:=of_decide_eq_false t
       rw[hc,show f+(2*r+2)=f+(2*r+1)+1 by omega];omega)),H⟩)
  refine gg 2 λa F=>?_
  refine zRO H λH=>?_
  refine gg 21 λa F=>?_
  refine Xd (k:=21) (i:=21) Z F (J4 H 0 sizeOf5 F Z Z Z O λw H=>?_)
  refine gg 2 λa F=>?_
  refine Xd (k:=23) (i:=23) Z F (J4 H 0 sizeOf5 F Z Z Z O λw H=>?_)
  refine gg 6 λa F=>?_
  have A:=b
  (have o:(e (f+r)).toNat<(e (f+(2*r+1))).toNat:=by simpa using A
   have s:=y.step (ch:=2*r+1) v (.inl Z) B o (λc hc j=>by
    rcases hc with hc|hc
    ·rw[hc];exact AI _
    ·(have D:=of_decide_eq_false t
      rw[hc,show f+(2*r+2)=f+(2*r+1)+1 by omega];omega))
   exact⟨_,O,_,⟨2*r+1,_,Z,Z,O,O,s,p.trans (Sm.swap e O O O O),Gf H⟩,F.tt⟩)
 refine gg 16 λa F=>?_
 refine cIfF F Z ?_
 refine gg 3 λa F=>?_
 refine zRO H λH=>?_
 refine gg 12 λa F=>?_
 refine zEc 12 F (UN _ _ _) H λa w F H=>?_
 refine gg 4 λa F=>zi (λb=>?_) λb=>?_
 ·
  refine gg 1 λa F=>?_
  refine bEndR results235 F ?_
  (have o:¬(e (f+r)).toNat<(e (f+(2*r+1))).toNat:=by simpa using b
   exact⟨Z,e,p,y.done (λc hc j=>by
    rcases hc with hc|hc
    ·rw[hc];omega
    ·omega),H⟩)
 refine gg 2 λa F=>?_
 refine zRO H λH=>?_
 refine gg 21 λa F=>?_
 refine Xd (k:=21) (i:=21) Z F (J4 H 0 sizeOf5 F Z Z Z O λw H=>?_)
 refine gg 2 λa F=>?_
 refine Xd (k:=23) (i:=23) Z F (J4 H 0 sizeOf5 F Z Z Z O λw H=>?_)
 refine gg 6 λa F=>?_
 have A:=b
 (have o:(e (f+r)).toNat<(e (f+(2*r+1))).toNat:=by simpa using A
  have s:=y.step (ch:=2*r+1) v (.inl Z) B o (λc hc j=>by
   rcases hc with hc|hc
   ·rw[hc];exact AI _
   ·omega)
  exact⟨_,O,_,⟨2*r+1,_,Z,Z,O,O,s,p.trans (Sm.swap e O O O O),Gf H⟩,F.tt⟩)
theorem Hs.pre{f e:Nat}{d:By}(h:Hs f e (i+1) d):Hp f (0+1) i (swp d f (f+i)):=λk c j b g=>by
 unfold swp
 rw[if_neg O,if_neg O,if_neg O,if_neg O]
 exact h.heap k c (AU _) b O
theorem Xmi(g n c:Nat)(d:By)(o u:Nat)(W:World)(row:Option Nat)(rs:List Res)(w0:World)(H:Own W row w0 (.byt g n c d::rs))(hb:u<=n)(I:n<=1000000)(L:o<u):
 Calls prog 211 #[Vd g 0 n c,Ve (o:Int),Ve (u:Int)] w0 λe M=>e=.returned (.tuple #[])/\∃A,Sm o u d A/\Srt o u A/\Own W row M (.byt g n c A::rs):=by
 obtain⟨b,rfl⟩:∃b,u=o+b:=⟨u-o,O⟩
 refine VU func211 Z ntmps211 Z (λa F=>?_)
 refine gg 21 λa F=>?_
 refine Xh F Z Z (XcE (j:=2) ?_ ?_) ?_
 focus omega
 focus omega
 clear F a;intro a F
 refine gg 3 λa F=>?_
 rw[show o+b-o=b by omega,show(((b-1)/2:Nat):Int)=(((b-1)/2+1:Nat):Int)-1 by omega]at F
 refine cLoopS [0,6,7,8] (λm p w=>∃(k:Nat)(e:By),m=k+1/\p=[(9,Ve (((k:Nat):Int)-1))]/\k<=b/\Hp o k b e/\Sm o (o+b) d e/\Own W row w (.byt g n c e::rs)) F ((b-1)/2+1+1) [(9,Ve ((((b-1)/2+1:Nat):Int)-1))] ?_ ?_
 ·exact⟨(b-1)/2+1,d,Z,Z,O,Hp.none _ O,Sm.refl _ _ _,H⟩
 clear F H;intro m p a w D F
 obtain⟨k,e,rfl,rfl,K,y,z,H⟩:=D
 refine gg 7 λa F=>zi (λC=>?_) λC=>?_
 ·
  obtain⟨i,rfl⟩:∃i,k=i+1:=⟨k-1,O⟩
  rw[show(((i+1:Nat):Int)-1)=((i:Nat):Int) by omega]at F
  refine gg 8 λa F=>?_
  refine Xi call235 F Z (XeG g n c e i b o W row rs _ H O I O y) ?_;rintro e w ⟨rfl,E,q,t,v⟩
  replace H:=v;clear v
  refine zq λa F=>?_
  refine gg 3 λa F=>?_
  refine Xh F Z Z (Mf ?_) ?_
  focus omega
  clear F a;intro a F
  refine gg 2 λa F=>?_
  exact⟨_,O,_,⟨i,E,Z,Z,O,t,z.trans (q.mono O (AI _)),H⟩,F.tt⟩
 obtain rfl:k=0:=O
 refine gg 8 λa F=>?_
 rw[show((b-1:Nat):Int)=((b:Nat):Int)-1 by omega]at F
 refine cLoopS [0,6,7] (λm p w=>∃(k:Nat)(e:By),m=k+1/\p=[(10,Ve (((k:Nat):Int)-1))]/\Hs o b k e/\Sm o (o+b) d e/\Own W row w (.byt g n c e::rs)) F (b+1) [(10,Ve (((b:Nat):Int)-1))] ?_ ?_
 ·exact⟨b,e,Z,Z,Hs.start y,z,H⟩
 clear F H;intro m p a w D F
 obtain⟨k,G,rfl,rfl,r,s,H⟩:=D
 refine gg 7 λa F=>zi (λB=>?_) λB=>?_
 ·
  obtain⟨i,rfl⟩:∃i,k=i+1:=⟨k-1,O⟩
  have J:=r.le
  rw[show(((i+1:Nat):Int)-1)=((i:Nat):Int) by omega]at F
  refine gg 4 λa F=>?_
  refine zRO H λH=>?_
  refine gg 17 λa F=>?_
  refine Xd (k:=17) (i:=17) Z F (J4 H 0 sizeOf5 F Z Z Z O λw H=>?_)
  refine gg 2 λa F=>?_
  refine Xd (k:=19) (i:=19) Z F (J4 H 0 sizeOf5 F Z Z Z O λw H=>?_)
  refine gg 7 λa F=>?_
  refine Xi call235 F Z ((by have:=XeG g n c _ 0 i o W row rs _ (Gf H) O I O r.pre;exact this)) ?_;rintro e w ⟨rfl,E,q,t,v⟩
  replace H:=v;clear v
  refine zq λa F=>?_
  refine gg 3 λa F=>?_
  refine Xh F Z Z (Mf ?_) ?_
  focus omega
  clear F a;intro a F
  refine gg 2 λa F=>?_
  exact⟨_,O,_,⟨i,E,Z,Z,r.step q t,s.trans ((Sm.swap G O O O O).trans (q.mono O O)),H⟩,F.tt⟩
 refine gg 1 λa F=>?_
 refine bEnd results211 F ?_
 obtain rfl:k=0:=O
 exact⟨Z,G,s,r.done,H⟩
theorem Xls(g n c:Nat)(d:By)(o b:Nat)(W:World)(row:Option Nat)(rs:List Res)(w0:World)(H:Own W row w0 (.byt g n c d::rs))(hb:b<=n)(A:n<=1000000)(y:o<b):
 Calls prog 214 #[Vd g 0 n c,Ve (o:Int),Ve (b:Int)] w0 λe z=>e=.returned (.tuple #[])/\∃s,Sm o b d s/\Own W row z (.byt g n c s::rs):=by
 refine VU func214 Z ntmps214 Z (λa F=>?_)
 refine gg 12 λa F=>?_
 refine cLoopS [0] (λm q w=>∃(i j:Nat)(e:By),m=j+1/\q=[(6,Ve ((i:Nat):Int)),(7,Ve ((j:Nat):Int))]/\o<=i/\j<b/\Sm o b d e/\Own W row w (.byt g n c e::rs)) F (b-1+1) [(6,Ve ((o:Nat):Int)),(7,Ve ((b-1:Nat):Int))] ?_ ?_
 ·exact⟨o,b-1,d,Z,Z,AI _,O,Sm.refl _ _ _,H⟩
 clear F H;intro m q a w u F
 obtain⟨i,j,e,rfl,rfl,t,v,p,H⟩:=u
 refine gg 8 λa F=>zi (λr=>?_) λr=>?_
 ·
  refine gg 3 λa F=>?_
  refine zRO H λH=>?_
  refine gg 13 λa F=>?_
  refine Xd (k:=13) (i:=13) Z F (J4 H 0 sizeOf5 F Z Z Z O λw H=>?_)
  refine gg 2 λa F=>?_
  refine Xd (k:=15) (i:=15) Z F (J4 H 0 sizeOf5 F Z Z Z O λw H=>?_)
  refine gg 13 λa F=>?_
  exact⟨_,O,_,⟨i+1,j-1,_,Z,Z,O,O,p.trans (Sm.swap e O O O O),Gf H⟩,F.tt⟩
 refine gg 1 λa F=>?_
 refine bEnd results214 F ?_
 exact⟨Z,e,p,H⟩
theorem Xdy(g n c:Nat)(d:By)(s v:Nat)(W:World)(row:Option Nat)(rs:List Res)(w0:World)(H:Own W row w0 (.byt g n c d::rs))(hb:v<=n)(hn:n<=1000000)(V:s<v)(M:s=0\/∀k,s<=k->k<v->(d (s-1)).toNat<=(d k).toNat):
   Calls prog 215 #[Vd g 0 n c,Ve (s:Int),Ve (v:Int)] w0 λe w'=>∃(r:Bool)(Q:By),e=.returned (.bool r)/\Sm s v d Q/\(r=true->Srt s v Q)/\Own W row w' (.byt g n c Q::rs):=by
 have J:∀e:By,Sm s v d e->0<s->(e (s-1)).toNat<=(e s).toNat:=λe hs h0=>by
   rcases M with h1|h1
   ·omega
   ·rw[hs.out (s-1) O]
    exact hs.all (p:=λx=>(d (s-1)).toNat<=x.toNat) h1 s (AI _) V
 refine VU func215 Z ntmps215 Z (λa F=>?_)
 refine gg 16 λa F=>?_
 refine cLoopS [0,1,2] (λm o w=>∃(i q:Nat)(e:By),m=5-q/\o=[(7,Ve ((i:Nat):Int)),(8,Ve ((q:Nat):Int))]/\s+1<=i/\i<=v/\Srt s i e/\Sm s v d e/\Own W row w (.byt g n c e::rs)) F (5-0) [(7,Ve ((s+1:Nat):Int)),(8,Ve ((0:Nat):Int))] ?_ ?_
 ·exact⟨s+1,0,d,Z,Z,AI _,O,Srt.small _ O,Sm.refl _ _ _,H⟩
 clear F H;intro m o a w G F
 obtain⟨i,q,e,rfl,rfl,z,y,A,E,H⟩:=G
 refine gg 7 λa F=>zi (λR=>?_) λR=>?_
 ·
  refine gg 3 λa F=>?_
  refine cSeqS [0,1,2,8] (λo w=>∃i:Nat,o=[(7,Ve ((i:Nat):Int))]/\s+1<=i/\i<=v/\Srt s i e/\Own W row w (.byt g n c e::rs)) F ?_ ?_
  ·
   refine gg 1 λa F=>?_
   refine cLoopS [0,1,2,8] (λm o w=>∃(i:Nat),m=v-i/\o=[(7,Ve ((i:Nat):Int))]/\s+1<=i/\i<=v/\Srt s i e/\Own W row w (.byt g n c e::rs)) F (v-i) [(7,Ve ((i:Nat):Int))] ?_ ?_
   ·exact⟨i,Z,Z,z,y,A,H⟩
   clear F H;intro m o a w G F
   clear A z y;obtain⟨i,rfl,rfl,z,y,A,H⟩:=G
   refine gg 2 λa F=>?_
   refine zRO H λH=>?_
   refine gg 4 λa F=>?_
   refine zSp 20 F (λa7 F=>?_) λa7 F=>?_
   ·
    have a9:i<v:=O
    refine gg 9 λa F=>?_
    refine zEc 13 F (UN (e i) (e (i-1)) _) H λa w F H=>?_
    refine gg 5 λa F=>zi (λL=>?_) λL=>?_
    ·
     refine gg 7 λa F=>?_
     have a6:¬(e i).toNat<(e (i-1)).toNat:=by simpa using L
     exact⟨_,O,_,⟨i+1,Z,Z,O,O,λk h1 h2=>by
       by_cases hk:k+1=i
       ·have:k=i-1:=O
        rw[this,show i-1+1=i by omega];omega
       ·exact A k h1 O,H⟩,F.tt⟩
    refine gg 1 λa F=>?_
    exact⟨_,⟨i,Z,z,y,A,H⟩,F.tt⟩
   refine gg 13 λa F=>?_
   refine cIfF F Z ?_
   refine gg 1 λa F=>?_
   exact⟨_,⟨i,Z,z,y,A,H⟩,F.tt⟩
  clear F H
  intro o a w G F
  clear A z y;obtain⟨i,rfl,z,y,A,H⟩:=G
  refine gg 8 λa F=>zi (λa2=>?_) λa2=>?_
  ·
   refine gg 6 λa F=>?_
   (obtain rfl:i=v:=O
    exact⟨true,e,Z,E,λ_=>A,H⟩)
  have a5:i<v:=O
  refine gg 10 λa F=>zi (λa3=>?_) λa3=>?_
  ·
   refine gg 6 λa F=>?_
   exact⟨false,e,Z,E,λh=>(by cases h),H⟩
  refine gg 2 λa F=>?_
  refine zRO H λH=>?_
  refine gg 15 λa F=>?_
  refine Xd (k:=15) (i:=15) Z F (J4 H 0 sizeOf5 F Z Z Z O λw H=>?_)
  refine gg 2 λa F=>?_
  refine Xd (k:=17) (i:=17) Z F (J4 H 0 sizeOf5 F Z Z Z O λw H=>?_)
  refine gg 2 λa F=>?_
  refine cSeqS [0,1,2,7,8] (λo w=>∃(f:By),o=[]/\Srt s i f/\Sm s v d f/\Own W row w (.byt g n c f::rs)) F ?_ ?_
  ·
   refine gg 8 λa F=>zi (λa4=>?_) λa4=>?_
   ·
    refine gg 7 λa F=>?_
    refine cLoopS [0,1,2,7,8] (λm o w=>∃(j:Nat)(f:By),m=j+1/\o=[(9,Ve ((j:Nat):Int))]/\Insd s (i-1) j f/\Sm s v d f/\Own W row w (.byt g n c f::rs)) F (i-1+1) [(9,Ve ((i-1:Nat):Int))] ?_ ?_
    ·have X:Srt s (i-1) (swp e i (i-1)):=λk h1 h2=>by
       unfold swp
       rw[if_neg O,if_neg O,if_neg O,if_neg O]
       exact A k h1 O
     exact⟨i-1,_,Z,Z,Insd.start X O,E.trans (Sm.swap e O O O O),Gf H⟩
    clear F H;intro m o a w G F
    obtain⟨j,f,rfl,rfl,B,C,H⟩:=G;have aB:=B.lo;have a8:=B.hi
    refine gg 7 λa F=>zi (λT=>?_) λT=>?_
    ·
     refine gg 5 λa F=>?_
     refine zRO H λH=>?_
     refine gg 9 λa F=>?_
     refine zEc 9 F (UN (f j) (f (j-1)) _) H λa w F H=>?_
     refine gg 4 λa F=>zi (λI=>?_) λI=>?_
     ·
      refine gg 1 λa F=>?_
      (have D:¬(f j).toNat<(f (j-1)).toNat:=by simpa using I
       have N:=B.done (.inr D)
       rw[show i-1+1=i by omega]at N
       exact⟨_,⟨f,Z,N,C,H⟩,F.tt⟩)
     refine gg 1 λa F=>?_
     refine zRO H λH=>?_
     refine gg 15 λa F=>?_
     refine Xd (k:=15) (i:=15) Z F (J4 H 0 sizeOf5 F Z Z Z O λw H=>?_)
     refine gg 2 λa F=>?_
     refine Xd (k:=17) (i:=17) Z F (J4 H 0 sizeOf5 F Z Z Z O λw H=>?_)
     refine gg 7 λa F=>?_
     have D:(f j).toNat<(f (j-1)).toNat:=by simpa using I
     have a1:s<j:=by
       rcases AN s j with h|h
       ·exact h
       ·have U:j=s:=O
        have:=J f C O
        rw[U]at D
        omega
     exact⟨_,O,_,⟨j-1,_,Z,Z,B.step a1 D,C.trans (Sm.swap f O O O O),Gf H⟩,F.tt⟩
    refine gg 1 λa F=>?_
    (have N:=B.done (.inl O)
     rw[show i-1+1=i by omega]at N
     exact⟨_,⟨f,Z,N,C,H⟩,F.tt⟩)
   refine gg 1 λa F=>?_
   exact⟨_,⟨_,Z,Srt.small _ O,E.trans (Sm.swap e O O O O),Gf H⟩,F.tt⟩
  clear F H
  intro o a w G F
  obtain⟨f,rfl,u,t,H⟩:=G
  refine gg 8 λa F=>zi (λS=>?_) λS=>?_
  ·
   refine gg 7 λa F=>?_
   refine cLoopS [0,1,2,7,8] (λm o w=>∃(j:Nat)(f:By),m=v-j/\o=[(10,Ve ((j:Nat):Int))]/\i+1<=j/\Srt s i f/\Sm s v d f/\Own W row w (.byt g n c f::rs)) F (v-(i+1)) [(10,Ve ((i+1:Nat):Int))] ?_ ?_
   ·exact⟨i+1,f,Z,Z,AI _,u,t,H⟩
   clear F H;intro m o a w G F
   clear u t;obtain⟨j,f,rfl,rfl,aA,u,t,H⟩:=G
   refine gg 8 λa F=>zi (λP=>?_) λP=>?_
   ·
    refine gg 5 λa F=>?_
    refine zRO H λH=>?_
    refine gg 9 λa F=>?_
    refine zEc 9 F (UN (f j) (f (j-1)) _) H λa w F H=>?_
    refine gg 4 λa F=>zi (λK=>?_) λK=>?_
    ·
     refine gg 6 λa F=>?_
     exact⟨_,O,_,⟨i,q+1,f,Z,Z,z,y,u,t,H⟩,F.tt⟩
    refine gg 1 λa F=>?_
    refine zRO H λH=>?_
    refine gg 15 λa F=>?_
    refine Xd (k:=15) (i:=15) Z F (J4 H 0 sizeOf5 F Z Z Z O λw H=>?_)
    refine gg 2 λa F=>?_
    refine Xd (k:=17) (i:=17) Z F (J4 H 0 sizeOf5 F Z Z Z O λw H=>?_)
    refine gg 7 λa F=>?_
    exact⟨_,O,_,⟨j+1,_,Z,Z,O,u.out (Sm.swap f (a:=i) (b:=v) O O O O) (.inl (AI _)),t.trans (Sm.swap f O O O O),Gf H⟩,F.tt⟩
   refine gg 6 λa F=>?_
   exact⟨_,O,_,⟨i,q+1,f,Z,Z,z,y,u,t,H⟩,F.tt⟩
  refine gg 6 λa F=>?_
  exact⟨_,O,_,⟨i,q+1,f,Z,Z,z,y,u,t,H⟩,F.tt⟩
 refine gg 7 λa F=>?_
 exact⟨false,e,Z,E,λh=>(by cases h),H⟩
end Go.Proofs.YtajfpcgbnflceaaGreatDoor
