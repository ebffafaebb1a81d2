/- A walk by itself: steps that want nothing of the reader, one behind another, by what stands next. Conditions: none. -/
import Derived.Test.YtajfpcgbnflceaaGreatDoorJn1
set_option linter.unusedSimpArgs false
set_option linter.unusedVariables false
namespace Go.Proofs.YtajfpcgbnflceaaGreatDoor
open Go.RowKit
set_option maxRecDepth 100000
variable{bk j m sz:Nat}{cs:List Value}{i:Operand}{t:TypeId}
structure Fu (n:Nat):Prop where
theorem Fu.dn{n:Nat}(_:Fu (n+1)):Fu n:=⟨⟩
structure Rm (P:Program) (N:Nat) (env:List (Nat×Value)) (S:World->Prop) (o:Oper) (v:Value):Prop where
 run:∀a w,Has N a env->S w->(execOp a.eval o).run P w=.ok (.value v) w
structure Cl (S:World->Prop) (p:Addr) (v:Value):Prop where
 cell:∀w,S w->w.cell? p=some v
structure Rg (S:World->Prop) (b o:Nat) (cs:List Value):Prop where
 range:∀w,S w->w.rangeAt b o cs
structure Bi (P:Program) (op:BinOp) (t:TypeId) (x y:Operand) (u v r:Value):Prop where
 run:Gu P op t x y u v r
structure IsN (v:Value) (k:IntKind) (n:Nat):Prop where
 eq:v=.int k (n:Int)
structure IsB (v:Value) (x:UInt8):Prop where
 eq:v=b8 x
structure Sz (P:Program) (t:TypeId) (n:Nat):Prop where
 eq:∀w,(sizeOf t).run P w=.ok n w
structure Un (P:Program) (t:TypeId) (x:TypeDesc):Prop where
 eq:P.underlying t=some x
structure Ag (P:Program) (t:TypeId) (b:Bool):Prop where
 eq:∀w,(isAgg t).run P w=.ok b w
structure Nl (m n:Nat):Prop where
 eq:m=n
structure Ad (o f k:Nat):Prop where
 eq:o+f=k
section
variable{P:Program}{l:List Oper}{Q:Exit->Act->World->Prop}{N:Nat}{a:Act}{env:List (Nat×Value)}{rest:List Oper}{d:Tmp}{ty:TypeId}{pos:String}{af:Array Edge}{g:Option (Nat×Bool)}{w0 w:World}{row:Option Nat}{rs:List Res}{S:World->Prop}
theorem IsN.v{k:IntKind}{n:Nat}:IsN (.int k (n:Int)) k n:=⟨Z⟩
theorem IsN.k{k:IntKind}{n:Nat}:IsN (.int k (@OfNat.ofNat Int n instOfNat)) k (@OfNat.ofNat Nat n (instOfNatNat n)):=⟨Z⟩
theorem IsB.v{x:UInt8}:IsB (b8 x) x:=⟨Z⟩
theorem IsB.k{n:Nat}(h:n<256):IsB (.int .u8 (@OfNat.ofNat Int n instOfNat)) (@OfNat.ofNat UInt8 n UInt8.instOfNat):=⟨by
 show Value.int .u8 (n:Int)=Value.int .u8 ((UInt8.ofNat n).toNat:Int)
 rw[HZ,Fg (show n<2^8 from h)]⟩
theorem Nl.k{n:Nat}(e:m=n):Nl m (@OfNat.ofNat Nat n (instOfNatNat n)):=⟨e⟩
theorem Sz.of{P:Program}{n:Nat}(h:∀w,(sizeOf t).run P w=.ok m w)(e:Nl m n):Sz P t n:=⟨by rw[<-e.eq];exact h⟩
theorem Ad.z{f k:Nat}(h:Nl f k):Ad (@OfNat.ofNat Nat 0 (instOfNatNat 0)) f k:=⟨by rw[<-h.eq];exact As f⟩
theorem Ad.s{o f k:Nat}(h:Nl f k):Ad o f (o+k):=⟨by rw[h.eq]⟩
theorem Ad.n{o f:Nat}(h:Nl f 0):Ad o f o:=⟨by rw[h.eq];rfl⟩
theorem Cl.c(i:Nat){b:Nat}{v:Value}(d:rs[i]?=some (.blk b cs t))(e:cs[j]?=some v):Cl (λw=>Own w0 row w rs) ⟨b,j,none⟩ v:=⟨λ_ H=>H.cell i d e⟩
theorem Cl.b(i:Nat){b n:Nat}{s:By}(d:rs[i]?=some (.blk b (bs n s) t))(c:j<n):Cl (λw=>Own w0 row w rs) ⟨b,j,none⟩ (b8 (s j)):=⟨λ_ H=>H.cellB i d c⟩
theorem Cl.y(i:Nat){b c:Nat}{s:By}(e:rs[i]?=some (.byt b m c s))(d:j<m):Cl (λw=>Own w0 row w rs) ⟨b,0+j*1,none⟩ (b8 (s j)):=⟨λ_ H=>H.bytCell i e d⟩
theorem Cl.f{p:Addr}{v:Value}(h:w0.cell? p=some v):Cl (λw=>Own w0 none w rs) p v:=⟨λ_ H=>H.arg h⟩
theorem Cl.fr{b k:Nat}{v:Value}(h:w0.rangeAt b 0 cs)(c:cs[k]?=some v):Cl (λw=>Own w0 none w rs) ⟨b,k,none⟩ v:=⟨λ_ H=>H.arg (by have:=h k v c;rwa [As]at this)⟩
theorem Rg.f{b o:Nat}(h:w0.rangeAt b o cs):Rg (λw=>Own w0 none w rs) b o cs:=⟨λ_ H=>H.argR h⟩
theorem Rg.p(i n:Nat){b o:Nat}(c:rs[i]?=some (.blk b cs t)):Rg (λw=>Own w0 row w rs) b o ((cs.drop o).take n):=⟨λ_ H=>H.range i c o n⟩
structure Rb (S:World->Prop) (b o m:Nat) (s:By):Prop where
 range:∀w,S w->w.rangeAt b o (bs m s)
theorem Rb.wh(i:Nat){b:Nat}{s:By}(c:rs[i]?=some (.blk b (bs m s) t)):Rb (λw=>Own w0 row w rs) b 0 m s:=⟨λ_ H=>H.whole i c⟩
theorem Rb.z(i:Nat){b n:Nat}{s:By}(c:rs[i]?=some (.blk b (bs n s) t))(h:m<=n):Rb (λw=>Own w0 row w rs) b 0 m s:=⟨λ_ H=>H.rangeB0 i m c h⟩
theorem Rb.p(i:Nat){b o n:Nat}{s:By}(c:rs[i]?=some (.blk b (bs n s) t))(h:o+m<=n):Rb (λw=>Own w0 row w rs) b o m (cut s o):=⟨λ_ H=>H.rangeB i o m c h⟩
theorem Rg.o(i:Nat){b:Nat}(c:rs[i]?=some (.blk b cs t)):Rg (λw=>Own w0 row w rs) b 0 cs:=⟨λ_ H=>H.whole i c⟩
section
variable{x y c:Operand}{u v:Value}{b b':Bool}{t s e:TypeId}
theorem zaMv(zx:ev env x=some v):Rm P N env S ⟨some d,.move x,ty,pos,af,g⟩ v:=⟨λ_ _ F _=>rMv F zx⟩
theorem zaAs(zx:ev env x=some v):Rm P N env S ⟨some d,.assign x,ty,pos,af,g⟩ v:=⟨λ_ _ F _=>rAs F zx⟩
theorem zaBin{op:BinOp}{b:TypeId}{r:Value}(zx:ev env x=some u)(zy:ev env y=some v)(zb:Bi P op t x y u v r):Rm P N env S ⟨some d,.binOp op t x y b,ty,pos,af,g⟩ r:=⟨λ_ _ F _=>Gt F zx zy zb.run⟩
theorem zaNot(zx:ev env x=some (.bool b)):Rm P N env S ⟨some d,.unOp .not t x,ty,pos,af,g⟩ (.bool (!b)):=⟨λ_ _ F _=>Xp6 F zx⟩
theorem zaPk(zc:ev env c=some (.bool b))(zv:(bif b then ev env x else ev env y)=some v):Rm P N env S ⟨some d,.pick c x y,ty,pos,af,g⟩ v:=⟨λ_ _ F _=>rPk F zc zv⟩
theorem zaPkB{u v:Bool}(zc:ev env c=some (.bool b))(zx:ev env x=some (.bool u))(zy:ev env y=some (.bool v)):Rm P N env S ⟨some d,.pick c x y,ty,pos,af,g⟩ (.bool (bif b then u else v)):=⟨λ_ _ F _=>rPkB F zc zx zy⟩
theorem zaCvB{p:UInt8}(zs:Un P s (.int .u8))(zt:Un P t (.int .i64))(zx:ev env x=some v)(zv:IsB v p):Rm P N env S ⟨some d,.convert s t x,ty,pos,af,g⟩ (.int .i64 (p.toNat:Int)):=⟨λ_ _ F _=>rCv zs.eq zt.eq F (zx.trans (congrArg some zv.eq)) (Xoi p)⟩
theorem zaCv8{n:Nat}{k:IntKind}(zs:Un P s (.int k))(zt:Un P t (.int .u8))(zx:ev env x=some v)(zv:IsN v k n):Rm P N env S ⟨some d,.convert s t x,ty,pos,af,g⟩ (b8 (UInt8.ofNat n)):=⟨λ_ _ F _=>rCv zs.eq zt.eq F (zx.trans (congrArg some zv.eq)) (wrap8 n)⟩
theorem zaCvN{n:Nat}{k:IntKind}(zs:Un P s (.int k))(zt:Un P t (.int .i64))(zx:ev env x=some v)(zv:IsN v k n)(b:n<=9223372036854775807):Rm P N env S ⟨some d,.convert s t x,ty,pos,af,g⟩ (.int .i64 (n:Int)):=⟨λ_ _ F _=>rCv zs.eq zt.eq F (zx.trans (congrArg some zv.eq)) (Xoh b)⟩
theorem zaNc{p:Addr}(zx:ev env x=some (.pointer (some p))):Rm P N env S ⟨some d,.nilCheck x,ty,pos,af,g⟩ (.pointer (some p)):=⟨λ_ _ F _=>rNc F zx⟩
theorem zaFa{f o k:Nat}{e:Array Field}{b:Field}(zs:Un P s (.struct e))(i:e[f]?=some b)(j:∀w,(sizeOf b.type).run P w=.ok sz w)(c:Nat.beq sz 0=false)(zx:ev env x=some (.pointer (some ⟨bk,o,none⟩)))(m:Ad o b.offset k):Rm P N env S ⟨some d,.fieldAddr s x f,ty,pos,af,g⟩ (.pointer (some ⟨bk,k,none⟩)):=⟨λ_ _ F _=>rFa zs.eq i j c m.eq F zx⟩
theorem zaIx{o n c:Nat}{k:IntKind}(zt:Un P t (.slice e))(b:Sz P e sz)(zx:ev env x=some (.slice (some ⟨bk,o,none⟩) n c))(zi:ev env i=some v)(zv:IsN v k j)(m:j<n):Rm P N env S ⟨some d,.indexAddr t x i,ty,pos,af,g⟩ (.pointer (some ⟨bk,o+j*sz,none⟩)):=⟨λ_ _ F _=>rIx zt.eq b.eq F zx (zi.trans (congrArg some zv.eq)) m⟩
theorem zaIa1{o n:Nat}{k:IntKind}(zt:Un P t (.array n e))(b:Sz P e 1)(zx:ev env x=some (.pointer (some ⟨bk,o,none⟩)))(zi:ev env i=some v)(zv:IsN v k j)(c:j<n):Rm P N env S ⟨some d,.indexAddr t x i,ty,pos,af,g⟩ (.pointer (some ⟨bk,o+j,none⟩)):=⟨λ_ _ F _=>rIa1 zt.eq b.eq F zx (zi.trans (congrArg some zv.eq)) c⟩
theorem zaIa{o n:Nat}{k:IntKind}(zt:Un P t (.array n e))(b:Sz P e sz)(zx:ev env x=some (.pointer (some ⟨bk,o,none⟩)))(zi:ev env i=some v)(zv:IsN v k j)(c:j<n):Rm P N env S ⟨some d,.indexAddr t x i,ty,pos,af,g⟩ (.pointer (some ⟨bk,o+j*sz,none⟩)):=⟨λ_ _ F _=>rIa zt.eq b.eq F zx (zi.trans (congrArg some zv.eq)) c⟩
theorem zaLd{p:Addr}(zt:Ag P t false)(zx:ev env x=some (.pointer (some p)))(zc:Cl S p v):Rm P N env S ⟨some d,.load t x,ty,pos,af,g⟩ v:=⟨λ_ _ F H=>rLd zt.eq F zx (zc.cell _ H)⟩
theorem zaLr{o:Nat}{c:TypeDesc}(e:Un P t c)(b:c.isRow=true)(zx:ev env x=some (.pointer (some ⟨bk,o,none⟩)))(zc:Rg S bk o cs)(i:Sz P t m)(j:m=cs.length):Rm P N env S ⟨some d,.load t x,ty,pos,af,g⟩ (.agg cs.toArray):=⟨λ_ _ F H=>rLr e.eq b (j▸VT i.eq) F zx (zc.range _ H)⟩
theorem zaLb{o:Nat}{q:By}{c:TypeDesc}(e:Un P t c)(b:c.isRow=true)(zx:ev env x=some (.pointer (some ⟨bk,o,none⟩)))(i:Sz P t m)(zc:Rb S bk o m q):Rm P N env S ⟨some d,.load t x,ty,pos,af,g⟩ (.agg (bs m q).toArray):=⟨λ_ _ F H=>L3 e.eq b i.eq F zx (zc.range _ H)⟩
theorem zaLen{A:Option Addr}{n c:Nat}(zt:Un P t (.slice e))(zx:ev env x=some (.slice A n c)):Rm P N env S ⟨some d,.call ⟨.builtin .len,#[x],#[t]⟩,ty,pos,af,g⟩ (.int .i64 (n:Int)):=⟨λ_ _ F _=>Xns zt.eq F zx⟩
theorem zaExt{i:Nat}{vs:List Value}(zx:ev env x=some (.tuple vs.toArray))(zv:vs[i]?=some v):Rm P N env S ⟨some d,.extract x i,ty,pos,af,g⟩ v:=⟨λ_ _ F _=>Lt F zx (by simpa using zv)⟩
theorem zaFn{i:Fn}{e b:List Operand}{c vs:List Value}(j:evL env e=some c)(zc:evL env b=some vs):Rm P N env S ⟨some d,.makeFunc i e.toArray b.toArray,ty,pos,af,g⟩ (.func i c.toArray vs.toArray):=⟨λ_ _ F _=>rFn F j zc⟩
end
section
variable{t:TypeId}{x y:Operand}{k:IntKind}{m n:Int}{u v:Value}{i j:Nat}{p q:UInt8}
theorem Bi.lss:Bi P .lss t x y (.int k m) (.int k n) (.bool (decide (m<n))):=⟨bLss⟩
theorem Bi.leq:Bi P .leq t x y (.int k m) (.int k n) (.bool (decide (m<=n))):=⟨bLeq⟩
theorem Bi.gtr:Bi P .gtr t x y (.int k m) (.int k n) (.bool (decide (n<m))):=⟨bGtr⟩
theorem Bi.geq:Bi P .geq t x y (.int k m) (.int k n) (.bool (decide (n<=m))):=⟨bGeq⟩
theorem Bi.eql:Bi P .eql t x y (.int k m) (.int k n) (.bool (m==n)):=⟨bEql⟩
theorem Bi.neq:Bi P .neq t x y (.int k m) (.int k n) (.bool (m != n)):=⟨bNeq⟩
theorem Bi.lssB(b:IsB u p)(c:IsB v q):Bi P .lss t x y u v (.bool (decide (p<q))):=⟨b.eq▸c.eq▸bLssB⟩
theorem Bi.leqB(b:IsB u p)(c:IsB v q):Bi P .leq t x y u v (.bool (decide (p<=q))):=⟨b.eq▸c.eq▸bLeqB⟩
theorem Bi.gtrB(b:IsB u p)(c:IsB v q):Bi P .gtr t x y u v (.bool (decide (q<p))):=⟨b.eq▸c.eq▸bGtrB⟩
theorem Bi.geqB(b:IsB u p)(c:IsB v q):Bi P .geq t x y u v (.bool (decide (q<=p))):=⟨b.eq▸c.eq▸Xsd⟩
theorem Bi.eqlB(b:IsB u p)(c:IsB v q):Bi P .eql t x y u v (.bool (p==q)):=⟨b.eq▸c.eq▸bEqlB⟩
theorem Bi.neqB(b:IsB u p)(c:IsB v q):Bi P .neq t x y u v (.bool (p != q)):=⟨b.eq▸c.eq▸bNeqB⟩
theorem Bi.addB(b:IsB u p)(c:IsB v q):Bi P .add t x y u v (b8 (p+q)):=⟨b.eq▸c.eq▸bAddB⟩
theorem Bi.subB(b:IsB u p)(c:IsB v q):Bi P .sub t x y u v (b8 (p-q)):=⟨b.eq▸c.eq▸bSubB⟩
theorem Bi.xorB(b:IsB u p)(c:IsB v q):Bi P .xor t x y u v (b8 (p^^^q)):=⟨b.eq▸c.eq▸bXorB⟩
theorem Bi.addN(b:IsN u .i64 i)(c:IsN v .i64 j)(h:i+j<=9223372036854775807):Bi P .add t x y u v (.int .i64 ((i+j:Nat):Int)):=⟨b.eq▸c.eq▸bAddN h⟩
theorem Bi.subN(b:IsN u .i64 i)(d:IsN v .i64 j)(h:j<=i)(c:i<=9223372036854775807):Bi P .sub t x y u v (.int .i64 ((i-j:Nat):Int)):=⟨b.eq▸d.eq▸XpP h c⟩
theorem Bi.eqL{u v:Bool}(h:Un P t .bool):Bi P .eql t x y (.bool u) (.bool v) (.bool (u==v)):=⟨XpS h.eq⟩
theorem Bi.neL{u v:Bool}(h:Un P t .bool):Bi P .neq t x y (.bool u) (.bool v) (.bool (!(u==v))):=⟨XpR h.eq⟩
end
/-! code -/
section
variable{K:Act->World->Prop}{id j:Nat}
theorem zwq{x y:Code}(h:x.wp P (Exit.then (y.wp P Q) Q) a w):(Code.seq x y).wp P Q a w:=wp_seq h
theorem zgTh(h:K a w):Exit.then K Q .normal a w:=h
theorem Xqk(h:Q .ret a w):Exit.then K Q .ret a w:=h
theorem Xqj(h:Q (.exit j) a w):Exit.then K Q (.exit j) a w:=h
theorem zgIn(h:Q .normal a w):Exit.inBlock id Q .normal a w:=h
theorem Xqn(h:Q .ret a w):Exit.inBlock id Q .ret a w:=h
theorem Xqm(h:Q .normal a w):Exit.inBlock id Q (.exit id) a w:=by
 show if id=id then Q .normal a w else Q (.exit id) a w
 rw[if_pos Z];exact h
theorem Xql(b:Nat.beq j id=false)(h:Q (.exit j) a w):Exit.inBlock id Q (.exit j) a w:=by
 show if j=id then Q .normal a w else Q (.exit j) a w
 rw[if_neg (Nat.ne_of_beq_eq_false b)];exact h
end
theorem zrf{G:Act->World->Prop}(F:Has N a env)(h:∀a,Has N a env->G a w):G a w:=h a F
theorem zgM{o:Oper}{v:Value}(F:Has N a env)(H:Own w0 row w rs)(zg:V2 l env o.guard=true)(zr:Rm P N env (λw=>Own w0 row w rs) o v)(zd:o.dst=some d)(zN:Nat.blt d N=true)(K:∀a,Has N a ((d,v)::env)->wpList P l.toArray Q rest a w):wpList P l.toArray Q (o::rest) a w:=
 UV F zg zd zN (zr.run a w F H) K
theorem zgF{k:Nat}{m:List Bool}{o:Oper}{v:Value}(F:Has N a env)(zi:EB l k=some o)(zg:V2 l env o.guard=true)(zr:Rm P N env (λ_=>True) o v)(zd:o.dst=some d)(zN:Nat.blt d N=true)(zt:QP l m k k=true)(zS:S w)(zQ:∀c a w,Q (.panic c) (a.put (some d) v) w->Q (.panic c) a w)(K:∀a,Has N a ((d,v)::env)->wpR P l Q S (k+1) (m.set k true) a w):wpR P l Q S k m a w:=Xfz zi zt F zg zd zN (λw=>zr.run a w F trivial) zS zQ K
theorem zgE{k:Nat}{m:List Bool}{o:Oper}{v:Value}(F:Has N a env)(zi:EB l k=some o)(zg:V2 l env o.guard=true)(zfo:QJ o=false)(zr:Rm P N env S o v)(zd:o.dst=some d)(zN:Nat.blt d N=true)(zt:QP l m k k=true)(zS:S w)(zQ:∀c a w,Q (.panic c) (a.put (some d) v) w->Q (.panic c) a w)(K:∀a,Has N a ((d,v)::env)->wpR P l Q S (k+1) (m.set k true) a w):wpR P l Q S k m a w:=XmO zi zt F zg zd zN zfo (λw=>zr.run a w F) zS zQ K
theorem zgS{k:Nat}{m:List Bool}{o:Oper}(F:Has N a env)(zi:EB l k=some o)(zg:CI l env o.guard=true)(zd:o.dst=some d)(zN:Nat.blt d N=true)(zt:QP l m k k=true)(zS:S w)(zQ:∀c a w,Q (.panic c) (a.put (some d) undef) w->Q (.panic c) a w)(K:∀a,Has N a ((d,undef)::env)->wpR P l Q S (k+1) (m.set k true) a w):wpR P l Q S k m a w:=eSkip zi zt F zg zd zN zS zQ K
theorem zsSkz{op:Op}(F:Has N a env)(zg:CI l env g=true)(zN:Nat.blt d N=true)(K:∀a,Has N a ((d,undef)::env)->wpList P l.toArray Q rest a w):wpList P l.toArray Q (⟨some d,op,ty,pos,af,g⟩::rest) a w:=sSk F zg zN K
theorem zeNilz{k:Nat}{m:List Bool}(b:Nat.beq k l.length=true)(zt:(Nat.beq k l.length&&(Region.ready .any l.toArray m.toArray).isEmpty)=true)(K:Q .normal a w):wpR P l Q S k m a w:=eNil zt K
theorem zi{p q A B:Prop}(b:p->A)(c:q->B):(p->A)/\(q->B):=⟨b,c⟩
structure IfV (v:Value) (p q:Prop):Prop where
 ex:∃b,v=.bool b/\(b=true->p)/\(b=false->q)
theorem IfV.mD{p:Prop}[Decidable p]:IfV (.bool (decide p)) p (¬p):=⟨_,Z,of_decide_eq_true,of_decide_eq_false⟩
theorem IfV.mN{b:Bool}:IfV (.bool (!b)) (b=false) (b=true):=⟨_,Z,notT,notF⟩
theorem IfV.mE{α:Type}[BEq α][LawfulBEq α]{x y:α}:IfV (.bool (x==y)) (x=y) (x≠y):=⟨_,Z,beqT,beqF⟩
theorem IfV.mB{α:Type}[BEq α][LawfulBEq α]{x y:α}:IfV (.bool (x != y)) (x≠y) (x=y):=⟨_,Z,bneT,bneF⟩
theorem zcIf{c:Operand}{x y:Code}{v:Value}{p q:Prop}(F:Has N a env)(zc:ev env c=some v)(zv:IfV v p q)(h:(p->x.wp P Q a w)/\(q->y.wp P Q a w)):(Code.cond c x y).wp P Q a w:=by
 obtain⟨b,rfl,g,e⟩:=zv.ex
 exact cIf F zc (λd=>h.1 (g d)) (λd=>h.2 (e d))
theorem zSp{G:Prop}(k:Nat){v:Value}{p q:Prop}(F:Has N a env)(g:p->Has N a ((k,.bool true)::env)->G)(e:q->Has N a ((k,.bool false)::env)->G)(i:lk env k=some v:=by rfl)(zv:IfV v p q:=by with_reducible first|exact IfV.mD|exact IfV.mN|exact IfV.mE|exact IfV.mB):G:=by
 obtain⟨b,rfl,j,d⟩:=zv.ex
 exact F.split k i (λc=>g (j c)) (λc=>e (d c))
theorem zbRet{b:Func}{R:Ending->World->Prop}{t:Tmp}{v:Value}(F:Has N a env)(zres:b.results=#[.tmp t])(zv:lk env t=some v)(h:R (.returned v) w):bodyPost P b R .ret a w:=bRet zres F zv h
section
variable{x y:Operand}{t:TypeId}{v z:Value}{b o j:Nat}{cs vs:List Value}{bt:TypeId}{m n:Nat}{s u:By}{x8:UInt8}{op:Op}
theorem zBx(H:Own w0 row w rs)(F:Has N a env)(K:∀b a w,Has N a ((d,.pointer (some ⟨b,0,none⟩))::env)->Own w0 row w (.blk b v.cells.toList t::rs)->wpList P l.toArray Q rest a w)(e:V2 l env g=true:=by rfl)(i:Nat.blt d N=true:=by rfl)(c:ev env x=some v:=by rfl):wpList P l.toArray Q (⟨some d,.box t x,ty,pos,af,g⟩::rest) a w:=sBx H F e i c K
theorem Eo(H:Own w0 row w rs)(F:Has N a env)(K:∀b a w,Has N a ((d,.pointer (some ⟨b,0,none⟩))::env)->Own w0 row w (.blk b (bs n s) t::rs)->wpList P l.toArray Q rest a w)(e:V2 l env g=true:=by rfl)(i:Nat.blt d N=true:=by rfl)(c:ev env x=some (.agg (bs n s).toArray):=by rfl):wpList P l.toArray Q (⟨some d,.box t x,ty,pos,af,g⟩::rest) a w:=sBxB H F e i c K
theorem zAl(i:∀w,(zeroValue t).run P w=.ok z w)(H:Own w0 row w rs)(F:Has N a env)(K:∀b a w,Has N a ((d,.pointer (some ⟨b,0,none⟩))::env)->Own w0 row w (.blk b z.cells.toList t::rs)->wpList P l.toArray Q rest a w)(c:V2 l env g=true:=by rfl)(e:Nat.blt d N=true:=by rfl):wpList P l.toArray Q (⟨some d,.alloc t,ty,pos,af,g⟩::rest) a w:=sAl H i F c e K
theorem Mj(i:∀w,(zeroValue t).run P w=.ok (.agg (bs n zb).toArray) w)(H:Own w0 row w rs)(F:Has N a env)(K:∀b a w,Has N a ((d,.pointer (some ⟨b,0,none⟩))::env)->Own w0 row w (.blk b (bs n zb) t::rs)->wpList P l.toArray Q rest a w)(c:V2 l env g=true:=by rfl)(e:Nat.blt d N=true:=by rfl):wpList P l.toArray Q (⟨some d,.alloc t,ty,pos,af,g⟩::rest) a w:=sAlB H i F c e K
theorem zSt(H:Own w0 row w rs)(i:Nat)(F:Has N a env)(K:∀w,Own w0 row w (rs.set i (.blk b (cs.set j v) bt))->wpList P l.toArray Q rest a w)(c:ev env x=some (.pointer (some ⟨b,j,none⟩)):=by rfl)(d:ev env y=some v:=by rfl)(m:rs[i]?=some (.blk b cs bt):=by rfl)(p:cs[j]?=some z:=by rfl)(n:v.oneCell'=true:=by rfl)(e:V2 l env g=true:=by rfl)(o:∀w,(sizeOf t).run P w=.ok 1 w:=by exact λ_=>rfl):wpList P l.toArray Q (⟨none,.store t x y,ty,pos,af,g⟩::rest) a w:=sSt H i o F e c d n m p K
theorem Gp(H:Own w0 row w rs)(i:Nat)(F:Has N a env)(K:∀w,Own w0 row w (rs.set i (.blk b (bs n (lay s o m u)) bt))->wpList P l.toArray Q rest a w)(c:ev env x=some (.pointer (some ⟨b,o,none⟩)):=by rfl)(d:ev env y=some (.agg (bs m u).toArray):=by rfl)(p:rs[i]?=some (.blk b (bs n s) bt):=by rfl)(j:o+m<=n:=by omega)(q:∀w,(sizeOf t).run P w=.ok m w:=by exact λ_=>rfl)(e:V2 l env g=true:=by rfl):wpList P l.toArray Q (⟨none,.store t x y,ty,pos,af,g⟩::rest) a w:=sSrB H i q F e c d p j K
theorem Ct(H:Own w0 row w rs)(i:Nat)(F:Has N a env)(K:∀w,Own w0 row w (rs.set i (.blk b (bs n (put s j x8)) bt))->wpList P l.toArray Q rest a w)(c:ev env x=some (.pointer (some ⟨b,j,none⟩)):=by rfl)(d:ev env y=some (b8 x8):=by rfl)(o:rs[i]?=some (.blk b (bs n s) bt):=by rfl)(e:j<n:=by omega)(p:∀w,(sizeOf t).run P w=.ok 1 w:=by exact λ_=>rfl)(m:V2 l env g=true:=by rfl):wpList P l.toArray Q (⟨none,.store t x y,ty,pos,af,g⟩::rest) a w:=sStB H i p F m c d o e K
theorem zLd{p:Addr}(F:Has N a env)(j:w.cell? p=some v)(K:∀a,Has N a ((d,v)::env)->wpList P l.toArray Q rest a w)(b:ev env x=some (.pointer (some p)):=by rfl)(i:∀w,(isAgg t).run P w=.ok false w:=by exact λ_=>rfl)(c:V2 l env g=true:=by rfl)(e:Nat.blt d N=true:=by rfl):wpList P l.toArray Q (⟨some d,.load t x,ty,pos,af,g⟩::rest) a w:=sLd i F c e b j K
theorem zLr{e:TypeDesc}(F:Has N a env)(r:w.rangeAt b o cs)(K:∀a,Has N a ((d,.agg cs.toArray)::env)->wpList P l.toArray Q rest a w)(i:ev env x=some (.pointer (some ⟨b,o,none⟩)):=by rfl)(q:P.underlying t=some e:=by rfl)(c:e.isRow=true:=by rfl)(p:∀w,(sizeOf t).run P w=.ok m w:=by exact λ_=>rfl)(hm:m=cs.length:=by rfl)(j:V2 l env g=true:=by rfl)(n:Nat.blt d N=true:=by rfl):wpList P l.toArray Q (⟨some d,.load t x,ty,pos,af,g⟩::rest) a w:=sLr q c (hm▸VT p) F j n i r K
end
theorem zq{v:Value}{K:Act->Prop}(h:∀a,Has N a ((d,v)::env)->K a):∃b,Ending.returned v=.returned b/\∀a,Has N a ((d,b)::env)->K a:=⟨_,Z,h⟩
section
variable{f:FuncId}{xs:List Operand}{ts:Array TypeId}{vs:List Value}{v:Value}
theorem zCa(F:Has N a env)(q:Calls P f vs.toArray w λe i=>e=.returned v/\Below w.heap.size w i)(H:Own w0 row w rs)(K:∀a w,Has N a ((d,v)::env)->Own w0 row w rs->wpList P l.toArray Q rest a w)(p:evL env xs=some vs:=by rfl)(j:V2 l env g=true:=by rfl)(o:Nat.blt d N=true:=by rfl)(c:∀(b:Array Value)(w:World),(callFunc f b).run P w=.ok (.enter f b) w:=by exact λ_ _=>rfl):wpList P l.toArray Q (⟨some d,.call ⟨.value (.func f),xs.toArray,ts⟩,ty,pos,af,g⟩::rest) a w:=
 XqU c F j o p q λe i ⟨m,n⟩=>⟨v,m,λa F=>K a i F (H.grow n)⟩
theorem zEc{k:Nat}{m:List Bool}(i:Nat)(F:Has N a env)(s:Calls P f vs.toArray w λe j=>e=.returned v/\Below w.heap.size w j)(H:Own w0 row w rs)(K:∀a w,Has N a ((d,v)::env)->Own w0 row w rs->Ke P l Q S k m i a w)(q:EB l i=some ⟨some d,.call ⟨.value (.func f),xs.toArray,ts⟩,ty,pos,af,g⟩:=by rfl)(u:evL env xs=some vs:=by rfl)(n:V2 l env g=true:=by rfl)(p:Nat.blt d N=true:=by rfl)(t:Xl1 l m k i=true:=by kernel_rfl)(c:∀(b:Array Value)(w:World),(callFunc f b).run P w=.ok (.enter f b) w:=by exact λ_ _=>rfl):wpR P l Q S k m a w:=
 eOne q t F n (UK c F p u s λe j ⟨o,r⟩=>⟨v,o,λa F=>K a j F (H.grow r)⟩)
end
structure Stl (P:Program) (w0:World) (row:Option Nat) (t:TypeId) (rs:List Res) (b o:Nat) (v:Value) (rs':List Res):Prop where
 run:∀{l:List Oper}{Q:Exit->Act->World->Prop}{N:Nat}{a:Act} {env:List (Nat×Value)} {rest:List Oper} {ty:TypeId} {pos:String} {af:Array Edge} {g:Option (Nat×Bool)} {x y:Operand} {w:World},Has N a env->Own w0 row w rs->V2 l env g=true->ev env x=some (.pointer (some ⟨b,o,none⟩))->ev env y=some v ->
  (∀w,Own w0 row w rs'->wpList P l.toArray Q rest a w)->wpList P l.toArray Q (⟨none,.store t x y,ty,pos,af,g⟩::rest) a w
section
variable{t:TypeId}{v z:Value}{b o j:Nat}{cs:List Value}{bt:TypeId}{m n:Nat}{s u:By}{x8:UInt8}{x y:Operand}
theorem Stl.cc(i:Nat)(g:rs[i]?=some (.blk b cs bt))(n:cs[j]?=some z)(o:v.oneCell'=true)(m:∀w,(sizeOf t).run P w=.ok 1 w):Stl P w0 row t rs b j v (rs.set i (.blk b (cs.set j v) bt)):=⟨λF H e c d K=>sSt H i m F e c d o g n K⟩
theorem Stl.bb(i:Nat)(m:rs[i]?=some (.blk b (bs n s) bt))(e:j<n)(o:∀w,(sizeOf t).run P w=.ok 1 w):Stl P w0 row t rs b j (b8 x8) (rs.set i (.blk b (bs n (put s j x8)) bt)):=⟨λF H g c d K=>sStB H i o F g c d m e K⟩
theorem Stl.rr(i:Nat)(j:rs[i]?=some (.blk b (bs n s) bt))(g:o+m<=n)(p:∀w,(sizeOf t).run P w=.ok m w):Stl P w0 row t rs b o (.agg (bs m u).toArray) (rs.set i (.blk b (bs n (lay s o m u)) bt)):=⟨λF H e c d K=>sSrB H i p F e c d j g K⟩
theorem zSl{c:List Res}(H:Own w0 row w rs)(F:Has N a env)(zg:V2 l env g=true)(zx:ev env x=some (.pointer (some ⟨b,o,none⟩)))(zy:ev env y=some v)(zs:Stl P w0 row t rs b o v c)(K:∀w,Own w0 row w c->wpList P l.toArray Q rest a w):wpList P l.toArray Q (⟨none,.store t x y,ty,pos,af,g⟩::rest) a w:=zs.run F H zg zx zy K
theorem zBxl(H:Own w0 row w rs)(F:Has N a env)(zg:V2 l env g=true)(zN:Nat.blt d N=true)(zx:ev env x=some v)(K:∀b a w,Has N a ((d,.pointer (some ⟨b,0,none⟩))::env)->Own w0 row w (.blk b v.cells.toList t::rs)->wpList P l.toArray Q rest a w):wpList P l.toArray Q (⟨some d,.box t x,ty,pos,af,g⟩::rest) a w:=sBx H F zg zN zx K
theorem zBxBl(H:Own w0 row w rs)(F:Has N a env)(zg:V2 l env g=true)(zN:Nat.blt d N=true)(zx:ev env x=some (.agg (bs n s).toArray))(K:∀b a w,Has N a ((d,.pointer (some ⟨b,0,none⟩))::env)->Own w0 row w (.blk b (bs n s) t::rs)->wpList P l.toArray Q rest a w):wpList P l.toArray Q (⟨some d,.box t x,ty,pos,af,g⟩::rest) a w:=sBxB H F zg zN zx K
end
theorem zROl{id:Nat}(H:Own w0 row w rs)(zm:P.follows .mixedOrders=true)(h:Own w0 row w.drew rs->wpR P l Q (λw=>Own w0 row w rs) 0 (List.replicate l.length false) a w.drew):(Code.region id l.toArray true).wp P Q a w:=cRegRO zm H (h H.drew)
theorem zRO{id:Nat}(H:Own w0 row w rs)(h:Own w0 row w.drew rs->wpR P l Q (λw=>Own w0 row w rs) 0 (List.replicate l.length false) a w.drew)(hm:P.follows .mixedOrders=true:=by kernel_rfl):(Code.region id l.toArray true).wp P Q a w:=cRegRO hm H (h H.drew)
theorem zsd{S:Prop}(h:S:=by
 first
 |rfl
 |exact Un.mk rfl
 |exact λ_=>rfl
 |(with_reducible apply Sz.of
   ·exact λ_=>rfl
   ·apply Nl.k;((conv=>lhs;whnf)<;>rfl))
 |((with_reducible apply Nl.k);((conv=>lhs;whnf)<;>rfl))
 |exact Ag.mk λ_=>rfl
 |with_reducible (first|exact IsN.k|exact IsN.v|exact IsB.v)
 |((with_reducible apply IsB.k);decide)
 |((with_reducible apply Ad.z);apply Nl.k;((conv=>lhs;whnf)<;>rfl))
 |((with_reducible apply Ad.s);apply Nl.k;((conv=>lhs;whnf)<;>rfl))
 |(first
   |exact Cl.b 0 rfl (by omega)|exact Cl.c 0 rfl rfl|exact Cl.y 0 rfl (by omega)|exact Cl.b 1 rfl (by omega)|exact Cl.c 1 rfl rfl|exact Cl.y 1 rfl (by omega)|exact Cl.b 2 rfl (by omega)|exact Cl.c 2 rfl rfl|exact Cl.y 2 rfl (by omega)|exact Cl.b 3 rfl (by omega)|exact Cl.c 3 rfl rfl
   |exact Cl.b 4 rfl (by omega)|exact Cl.c 4 rfl rfl|exact Cl.b 5 rfl (by omega)|exact Cl.c 5 rfl rfl|exact Cl.b 6 rfl (by omega)|exact Cl.c 6 rfl rfl|exact Cl.b 7 rfl (by omega)|exact Cl.c 7 rfl rfl)
 |(with_reducible apply Cl.f;assumption)
 |(with_reducible apply Cl.fr
   ·assumption
   ·rfl)
 |(first|exact Rg.o 0 rfl|exact Rg.o 1 rfl|exact Rg.o 2 rfl|exact Rg.o 3 rfl|exact Rg.o 4 rfl|exact Rg.o 5 rfl|exact Rg.o 6 rfl|exact Rg.o 7 rfl|exact Rg.o 8 rfl)
 |(with_reducible apply Rg.f;assumption)
 |(first|exact Rb.wh 0 rfl|exact Rb.wh 1 rfl|exact Rb.wh 2 rfl|exact Rb.wh 3 rfl|exact Rb.wh 4 rfl|exact Rb.wh 5 rfl)
 |(first|exact Rb.z 0 rfl (by omega)|exact Rb.z 1 rfl (by omega)|exact Rb.z 2 rfl (by omega)|exact Rb.z 3 rfl (by omega)|exact Rb.z 4 rfl (by omega))
 |(first|exact Rb.p 0 rfl (by omega)|exact Rb.p 1 rfl (by omega)|exact Rb.p 2 rfl (by omega)|exact Rb.p 3 rfl (by omega)|exact Rb.p 4 rfl (by omega))
 |((with_reducible first|apply Bi.eqlB|apply Bi.neqB|apply Bi.lssB|apply Bi.leqB|apply Bi.gtrB|apply Bi.geqB|apply Bi.addB|apply Bi.subB|apply Bi.xorB)<;>(first|with_reducible exact IsB.v|((with_reducible apply IsB.k);decide)))
 |with_reducible (first|exact Bi.lss|exact Bi.leq|exact Bi.gtr|exact Bi.geq|exact Bi.eql|exact Bi.neq)
 |((with_reducible first|apply Bi.addN|apply Bi.subN)<;>(first|with_reducible (first|exact IsN.k|exact IsN.v)|(show _<=_;omega)))
 |((with_reducible first|apply Bi.eqL|apply Bi.neL);exact Un.mk rfl)
 |exact IsN.v
 |(first|exact Bi.lss|exact Bi.leq|exact Bi.gtr|exact Bi.geq|exact Bi.eql|exact Bi.neq)
 |((first|show _<_|show _<=_);(first|omega|decide|(simp;omega)))):S:=h
theorem zopF{S:Prop}(h:S:=by
 first
 |((with_reducible first|apply zaMv|apply zaAs|apply zaFa|apply zaBin|apply zaPk|apply zaNot|apply zaExt|apply zaIx|apply zaFn|apply zaCvB)<;>exact zsd)
 |((with_reducible first|apply zaIa1|apply zaPkB|apply zaCv8)<;>exact zsd)
 |((with_reducible first|apply zaIa|apply zaCvN)<;>exact zsd)):S:=h
theorem zopR{S:Prop}(h:S:=by
 first
 |((with_reducible first|apply zaLd|apply zaNc|apply zaLen)<;>exact zsd)
 |((with_reducible first|apply zaLr)<;>exact zsd)
 |((with_reducible first|apply zaLb)<;>exact zsd)):S:=h
theorem gg(n:Nat){N:Nat}{env:List (Nat×Value)}{G:Prop}{R:Act->Prop}(k:∀a,Has N a env->R a)(h:Fu n->(∀a,Has N a env->R a)->G:=by
 intro f k
 first|refine zrf F ?_|refine zrfD F ?_
 intro a F
 repeat(first|with_reducible (first|refine zgTh ?_|refine zgIn ?_|refine Xqk ?_|refine Xqn ?_|refine Xqj ?_|refine Xqm ?_)|((with_reducible apply Xql);· rfl))
 repeat
  replace f:=Fu.dn f
  first
  |(with_reducible apply zgM F H
    case zg=>rfl
    case zr=>first|exact zopF|exact zopR
    case zd=>rfl
    case zN=>rfl
    clear F a;intro a F)
  |with_reducible (first|refine zwq ?_|refine cReg ?_|refine sNil ?_|refine wp_block ?_|refine wp_skip ?_|refine wp_ret ?_|refine wp_exit ?_)
  |refine cReg ?_
  |((with_reducible apply zsSkz F)
    case zg=>rfl
    case zN=>rfl
    clear F a;intro a F)
  |((with_reducible apply zgF F)
    case zi=>rfl
    case zg=>rfl
    case zr=>exact zopF
    case zd=>rfl
    case zN=>rfl
    case zt=>kernel_rfl
    case zS=>first|exact H|exact H.tail|exact H.tail.tail
    case zQ=>exact λ_ _ _ h=>h
    clear F a;intro a F)
  |((with_reducible apply zgE F)
    case zi=>rfl
    case zg=>rfl
    case zfo=>rfl
    case zr=>exact zopR
    case zd=>rfl
    case zN=>rfl
    case zt=>kernel_rfl
    case zS=>first|exact H|exact H.tail|exact H.tail.tail
    case zQ=>exact λ_ _ _ h=>h
    clear F a;intro a F)
  |((with_reducible apply zgS F)
    case zi=>rfl
    case zg=>rfl
    case zd=>rfl
    case zN=>rfl
    case zt=>kernel_rfl
    case zS=>first|exact H|exact H.tail|exact H.tail.tail
    case zQ=>exact λ_ _ _ h=>h
    clear F a;intro a F)
  |refine zeNilz (by rfl) (by kernel_rfl) ?_
  |(with_reducible refine Xr0 ?_ H ?_;(· kernel_rfl))
  |(with_reducible apply zBxBl H F
    case zg=>rfl
    case zN=>rfl
    case zx=>rfl)
  |(with_reducible apply zBxl H F
    case zg=>rfl
    case zN=>rfl
    case zx=>rfl)
  |(with_reducible apply zSl H F
    case zg=>rfl
    case zx=>rfl
    case zy=>rfl
    case zs=>first|(exact Stl.bb 0 rfl (by omega) (λ_=>rfl))|(exact Stl.bb 1 rfl (by omega) (λ_=>rfl))|(exact Stl.bb 2 rfl (by omega) (λ_=>rfl))|(exact Stl.bb 3 rfl (by omega) (λ_=>rfl))|(exact Stl.rr 0 rfl (by omega) (λ_=>rfl))|(exact Stl.rr 1 rfl (by omega) (λ_=>rfl))|(exact Stl.rr 2 rfl (by omega) (λ_=>rfl))|(exact Stl.rr 3 rfl (by omega) (λ_=>rfl))|(exact Stl.cc 0 rfl rfl rfl (λ_=>rfl))|(exact Stl.cc 1 rfl rfl rfl (λ_=>rfl))|(exact Stl.cc 2 rfl rfl rfl (λ_=>rfl))|(exact Stl.cc 3 rfl rfl rfl (λ_=>rfl))|(exact Stl.cc 4 rfl rfl rfl (λ_=>rfl))|(exact Stl.cc 5 rfl rfl rfl (λ_=>rfl)))
  |(with_reducible apply zROl H
    case zm=>kernel_rfl)
  |(with_reducible apply zcIf F
    case zc=>rfl
    case zv=>with_reducible first|exact IfV.mD|exact IfV.mN|exact IfV.mE|exact IfV.mB)
  |(with_reducible apply zbRet F
    case zres=>rfl
    case zv=>rfl)
  repeat(first|with_reducible (first|refine zgTh ?_|refine zgIn ?_|refine Xqk ?_|refine Xqn ?_|refine Xqj ?_|refine Xqm ?_)|((with_reducible apply Xql);· rfl))
 exact k a F):G:=h ⟨⟩ k
end
end Go.Proofs.YtajfpcgbnflceaaGreatDoor
