/- Small general lemmas: hiding, blocks known whole, worlds that have only drawn or grown. And more of this kind. Conditions: those of each theorem. -/
import Derived.Test.YtajfpcgbnflceaaGreatDoorProg
import Derived.Test.YtajfpcgbnflceaaGreatDoorRows
import Derived.WalkKit
import Derived.WalkSpells
import Derived.WalkLawsBesides
import Derived.WalkSmall
import Derived.Deep.QuietTactic
import Derived.BigQuiet
import Derived.StillTailTactics
import Derived.Deep.RegionWith
import Derived.Lib.Hide
import Derived.Deep.MidRow
import Derived.Deep.AppendLies
import Derived.OrdersHeld
import Derived.Laws.Tables
import Derived.Laws.Rows
import Derived.Laws.ResultCell
import Derived.Laws.MakeOwn
set_option linter.unusedSimpArgs false
set_option linter.unusedVariables false
namespace Go.Proofs.YtajfpcgbnflceaaGreatDoor
open Go.Proofs.Tryz
open Go.RowKit
set_option maxRecDepth 100000
theorem O{p:Prop}(h:p:=by omega):p:=h
theorem Y{p:Prop}(h:p:=by kernel_rfl):p:=h
abbrev Vc(b o:Nat):Value:=.pointer (some ⟨b,o,none⟩)
abbrev Vd(b o n c:Nat):Value:=.slice (some ⟨b,o,none⟩) n c
abbrev Ve(x:Int):Value:=.int .i64 x
abbrev Vf(j:Nat):Value:=.int .i64 ((j:Nat):Int)
theorem Z{α}{a:α}:a=a:=rfl
abbrev AA:=@List.getElem?_eq_getElem
abbrev AB:=@List.getElem?_eq_some_iff
abbrev AD:=@List.getElem?_map
abbrev AF:=@List.mem_of_getElem?
abbrev AH:=@List.length_map
abbrev AI:=@Nat.le_refl
abbrev AJ:=@Bool.and_eq_true
abbrev AK:=@List.length_append
abbrev AN:=@Nat.lt_or_ge
abbrev AO:=@List.append_assoc
abbrev AP:=@List.getElem?_append_left
abbrev AQ:=@List.getElem?_append_right
abbrev AS:=@List.getD_eq_getElem?_getD
abbrev AT:=@List.mem_map
abbrev AU:=@Nat.zero_le
abbrev AV:=@List.getElem?_eq_none
abbrev AW:=@Nat.le_trans
abbrev AY:=@List.length_cons
abbrev Aa:=@UInt8.lt_iff_toNat_lt
abbrev Ab:=@List.mem_range
abbrev Ac:=@Option.some.inj
abbrev Ae:=@List.map_append
abbrev Af:=@List.mem_iff_getElem?
abbrev Ah:=@List.all_eq_true
abbrev Ai:=@UInt8.le_iff_toNat_le
abbrev Aj:=@List.length_take
abbrev Ak:=@List.append_nil
abbrev Al:=@List.eq_nil_of_length_eq_zero
abbrev Am:=@List.getElem?_set
abbrev Ao:=@List.pairwise_iff_getElem
abbrev Ap:=@List.mem_cons
abbrev Aq:=@List.length_range
abbrev Ar:=@List.ext_getElem?
abbrev As:=@Nat.zero_add
abbrev At:=@List.take_add_one
abbrev Au:=@List.cons_append
abbrev Av:=@List.getElem?_range
abbrev Aw:=@Nat.eq_zero_or_pos
abbrev Ay:=@List.mem_singleton
abbrev Az:=@List.mem_filter
abbrev A8:=@List.mem_append
abbrev FA:=@List.drop_eq_getElem_cons
abbrev FB:=@Nat.add_mul
abbrev FC:=@Nat.lt_of_lt_of_le
abbrev FD:=@List.take_of_length_le
abbrev FE:=@Option.some.injEq
abbrev FF:=@Nat.add_zero
abbrev FG:=@Nat.le_of_ble_eq_true
abbrev FH:=@List.map_cons
abbrev FI:=@List.nil_append
abbrev FJ:=@Array.getElem?_eq_some_iff
abbrev FK:=@List.map_toArray
abbrev FL:=@List.take_append_drop
abbrev FM:=@Bool.or_eq_true
abbrev FN:=@Option.map_eq_some_iff
abbrev FO:=@List.flatten_cons
abbrev FP:=@Nat.eq_of_beq_eq_true
abbrev FQ:=@List.length_singleton
abbrev FR:=@Nat.ble_eq_true_of_le
abbrev FS:=@List.perm_middle
abbrev FT:=@List.take_length
abbrev FU:=@Int.toNat_natCast
abbrev FV:=@List.getElem?_take
abbrev FW:=@Option.toList_some
abbrev FX:=@Array.getElem?_eq_getElem
abbrev FY:=@Nat.add_assoc
abbrev FZ:=@Nat.mul_one
abbrev Fa:=@List.foldl_cons
abbrev Fc:=@Nat.lt_succ_self
abbrev Fd:=@List.pairwise_cons
abbrev Fe:=@List.perm_append_comm
abbrev Ff:=@List.getElem_mem
abbrev Fg:=@Nat.mod_eq_of_lt
abbrev Fh:=@List.drop_eq_nil_of_le
abbrev Fi:=@List.getElem?_drop
abbrev Fj:=@List.map_map
abbrev Fk:=@Array.getD_eq_getD_getElem?
abbrev Fl:=@List.flatMap_append
abbrev Fm:=@List.length_drop
abbrev Fo:=@Nat.testBit_succ
abbrev Fp:=@List.getElem?_replicate
abbrev Fq:=@Nat.add_sub_cancel_left
abbrev Fr:=@List.size_toArray
abbrev Fs:=@List.foldl_append
abbrev Ft:=@Nat.mul_le_mul_right
abbrev Fv:=@Nat.min_eq_left
abbrev Fw:=@List.length_nil
abbrev Fx:=@Nat.not_lt_zero
abbrev Fy:=@List.length_filter_le
abbrev Fz:=@List.filter_append
abbrev F0:=@Nat.testBit_and
abbrev F3:=@List.filter_eq_nil_iff
abbrev F4:=@List.flatMap_cons
abbrev F5:=@Nat.lt_trichotomy
abbrev F6:=@List.sublist_append_left
abbrev F7:=@List.getElem?_take_of_lt
abbrev F8:=@Array.getElem?_toList
abbrev F9:=@List.length_set
abbrev HA:=@Array.getElem?_eq_none
abbrev HB:=@List.range_succ
abbrev HC:=@UInt8.toNat_inj
abbrev HE:=@Bool.eq_iff_iff
abbrev HF:=@List.sublist_append_right
abbrev HG:=@Bool.and_eq_false_iff
abbrev HM:=@List.set_append_right
abbrev HN:=@List.any_eq_true
abbrev HQ:=@Nat.add_sub_cancel
abbrev HZ:=@UInt8.toNat_ofNat'
abbrev Hh:=@List.mem_flatMap
abbrev Hi:=@List.filter_cons
abbrev Hm:=@List.getElem_range
abbrev Ho:=@Bool.false_or
abbrev Ht:=@Nat.one_mul
abbrev Hu:=@Bool.false_and
abbrev Hw:=@List.drop_drop
abbrev Hy:=@Bool.and_eq_true_iff
abbrev H6:=@UInt8.toNat_add
abbrev H7:=@Option.map_some
abbrev H8:=@List.perm_append_comm_assoc
abbrev H9:=@List.map_congr_left
abbrev IB:=@List.map_nil
abbrev ID:=@List.prefix_refl
abbrev IE:=@List.not_mem_nil
abbrev IF:=@List.prefix_append
abbrev IG:=@List.mem_append_right
abbrev IH:=@Nat.mul_comm
abbrev II:=@List.mem_append_left
abbrev IJ:=@Nat.ne_of_lt
abbrev IK:=@List.range_eq_range'
abbrev IL:=@Bool.true_and
abbrev IM:=@Nat.le_mul_of_pos_right
abbrev IN:=@List.getElem?_cons_succ
abbrev K0:=@Array.length_toList
abbrev IP:=@List.countP_eq_length_filter
abbrev IQ:=@Nat.blt_eq
abbrev IR:=@Bool.false_eq_true
abbrev IS:=@Nat.le_of_lt
abbrev IT:=@List.mem_cons_self
abbrev IU:=@Option.map_none
abbrev IV:=@List.mem_cons_of_mem
abbrev IW:=@Nat.mod_lt
abbrev IX:=@Nat.pow_lt_pow_right
abbrev IY:=@Array.mapM_eq_mapM_toList
abbrev IZ:=@Nat.zero_mul
abbrev Ia:=@Nat.le_add_right
abbrev Ib:=@Nat.zero_testBit
abbrev Ic:=@Nat.lt_of_le_of_lt
abbrev Id:=@List.singleton_sublist
abbrev Ie:=@List.length_pos_of_mem
abbrev If:=@Bool.eq_false_iff
abbrev Ig:=@List.pairwise_map
abbrev Ih:=@Nat.sub_self
abbrev Ii:=@Nat.beq_refl
abbrev Ij:=@Nat.add_comm
abbrev Ik:=@List.contains_iff_mem
abbrev Il:=@List.set_set
abbrev Im:=@List.getElem?_toArray
abbrev Io:=@List.prefix_append_right_inj
abbrev Ip:=@Nat.eq_of_testBit_eq
abbrev Iq:=@Nat.pow_le_pow_right
abbrev Ir:=@List.range'_succ
abbrev Is:=@Option.ne_none_iff_exists'
abbrev It:=@List.length_flatMap
abbrev Iu:=@Int.natCast_mul
abbrev Iv:=@List.map_singleton
abbrev Iw:=@Nat.sub_zero
abbrev Iy:=@Nat.xor_lt_two_pow
abbrev Iz:=@Array.setIfInBounds_comm
abbrev I0:=@List.getElem?_cons_zero
abbrev I1:=@List.filter_cons_of_pos
abbrev I2:=@List.filter_cons_of_neg
abbrev I3:=@List.filter_congr
abbrev I4:=@Int.le_refl
abbrev I5:=@Nat.testBit_lt_two_pow
abbrev I6:=@Bool.not_true
abbrev I7:=@Nat.testBit_zero
abbrev I8:=@Int.natCast_ediv
abbrev Xm:=@underlying85
abbrev Xn:=@underlying77
abbrev Xo:=@sizeOf77
abbrev Xp:=@sizeOf85
abbrev Xq:=@underlying5
abbrev Xr:=@sizeOf5
abbrev Xs:=@underlying78
abbrev Xt:=@sizeOf58
abbrev Xu:=@underlying58
abbrev Xv:=@sizeOf80
abbrev Xw:=@underlying81
abbrev Xx:=@underlying80
abbrev Xy:=@underlying43
abbrev Xz:=@underlying70
abbrev XA:=@sizeOf43
abbrev XB:=@sizeOf61
abbrev XC:=@underlying61
abbrev XD:=@isAgg5
abbrev XE:=@zeroValue58
abbrev XF:=@sizeOf59
abbrev XG:=@sizeOf156
abbrev XH:=@sizeOf63
abbrev XI:=@underlying59
abbrev XJ:=@underlying29
abbrev XK:=@underlying53
abbrev XL:=@underlying36
abbrev XM:=@sizeOf3
abbrev XN:=@underlying63
abbrev XO:=@zeroValue156
abbrev XP:=@underlying131
abbrev XQ:=@underlying212
abbrev XR:=@results91
abbrev XS:=@zeroValue49
abbrev XT:=@underlying49
abbrev XU:=@underlying324
abbrev XV:=@underlying118
abbrev XW:=@zeroValue43
abbrev XX:=@underlying3
abbrev XY:=@underlying9
abbrev XZ:=@isAgg197
abbrev X0:=@underlying22
abbrev X3:=@zeroValue117
abbrev X4:=@zeroValue3
abbrev X5:=@underlying302
abbrev X6:=@sizeOf41
abbrev X7:=@sizeOf117
abbrev X8:=@underlying41
abbrev X9:=@results162
abbrev Ya:=@underlying99
abbrev Yb:=@underlying68
abbrev Yc:=@underlying54
abbrev Yd:=@typeInfo3
abbrev Ye:=@isAgg3
abbrev Yf:=@underlying156
abbrev Yg:=@underlying117
abbrev Yh:=@underlying33
abbrev Yi:=@zeroValue148
abbrev Yj:=@sizeOf99
abbrev Yk:=@underlying65
abbrev Yl:=@zeroValue183
abbrev Ym:=@underlying72
variable{A:Option Addr}{P:Program}{R:Ending->World->Prop}{a w w':World}{args zs:Array Value}{b c i id j k n size sz:Nat}{bt e s t ty':TypeId}{cs vs:List Value}{d:Tmp}{f:FuncId}{fn:Func}{fs:Array Field}{l rest:List Oper}{o:Oper}{p:Addr}{ps:List (Nat×Value)}{r u v z:Value}{row:Option Nat}{ts:Array TypeId}{x y:Operand}{xs:List Operand}
theorem GX(h:Calls P f args (w.drewN n) λe w'=>e=.returned v/\w.drewN n=w'):Calls P f args (w.drewN n) λe b=>e=.returned v/\∃m,b=w.drewN m:=
 h.mono λ_ _ ⟨d,c⟩=>⟨d,n,c.symm⟩
theorem Db{a:Nat}(h:Calls P f args (w.drewN (a+n)) λe w'=>e=.returned v/\∃m,w'=(w.drewN (a+n)).drewN m):
 Calls P f args (w.drewN (a+n)) λe b=>e=.returned v/\∃m,b=w.drewN (a+m):=
 h.mono λ_ _ ⟨d,m,c⟩=>⟨d,n+m,by rw[c,World.drewN_drewN,FY]⟩
theorem NO{a:Nat}(h:Calls P f args (w.drewN (a+n)) λe w'=>e=.returned v/\w.drewN (a+n)=w'):
 Calls P f args (w.drewN (a+n)) λe b=>e=.returned v/\∃m,b=w.drewN (a+m):=
 h.mono λ_ _ ⟨d,c⟩=>⟨d,n,c.symm⟩
def Blk(w:World)(b:Nat)(cs:List Value)(t:TypeId):Prop:=w.heap[b]?=some (.cells cs.toArray t (0,0))
theorem Blk.cell(h:Blk w b cs t)(j:Nat)(c:cs[j]?=some v):w.cell? ⟨b,j,none⟩=some v:=by
 unfold Blk at h;simp[World.cell?,h,c]
theorem Blk.frozen(h:Blk w b cs t)(j:Nat):w.frozen? ⟨b,j,none⟩=false:=by
 unfold Blk at h;simp[World.frozen?,h]
theorem Blk.lt(h:Blk w b cs t):b<w.heap.size:=(FJ.1 h).1
theorem Blk.drewN(h:Blk w b cs t)(n:Nat):Blk (w.drewN n) b cs t:=h
theorem Blk.drew(h:Blk w b cs t):Blk w.drew b cs t:=h
theorem Blk.alloc(h:Blk w b cs t)(o:Obj):Blk (w.alloc o) b cs t:=
 (Below.heap_alloc w o b h.lt).trans h
theorem Blk.new(w:World)(cs:Array Value)(t:TypeId):Blk (w.alloc (.cells cs t)) w.heap.size cs.toList t:=by
 unfold Blk;rw[heap_alloc_new]
theorem Blk.newAt{cs:Array Value}(h:b=w.heap.size):Blk (w.alloc (.cells cs t)) b cs.toList t:=by subst h;exact Blk.new _ _ _
theorem Blk.grown(h:Blk w b cs t)(d:w.grownBy w' row)(c:some b≠row):Blk w' b cs t:=
 (d.block b h.lt c).trans h
theorem Blk.set(h:Blk w b cs t)(j:Nat)(v:Value):Blk (w.setCell ⟨b,j,none⟩ v) b (cs.set j v) t:=by
 unfold Blk at h⊢
 have c:=Blk.lt h
 have d:w.heap[b]=.cells cs.toArray t (0,0):=by simpa[FX c]using h
 show(w.heap.modify b _)[b]?=_
 rw[FX (by simpa using c),Array.getElem_modify_self,d]
 simp
theorem Blk.set1{x:Value}(h:Blk w b [x] t)(v:Value):Blk (w.setCell ⟨b,0,none⟩ v) b [v] t:=Blk.set h 0 v
theorem Blk.setOther(h:Blk w b cs t)(a:Addr)(c:b≠a.block)(v:Value):Blk (w.setCell a v) b cs t:=
 (Below.heap_setCell w a v b c).trans h
theorem UM(w:World)(row:Option Nat):w.grownBy w row:=⟨Z,Z,Z,AI _,λ_ _ _=>rfl⟩
theorem Uc(h:a.grownBy w row)(n:Nat):a.grownBy (w.drewN n) row:=⟨h.os,h.tape,h.output,h.size,h.block⟩
theorem Gk(h:a.grownBy w row):a.grownBy w.drew row:=⟨h.os,h.tape,h.output,h.size,h.block⟩
theorem U0(h:a.grownBy w row)(o:Obj):a.grownBy (w.alloc o) row:=
 ⟨h.os,h.tape,h.output,AW h.size (by simp),λi c b=>(Below.heap_alloc w o i (FC c h.size)).trans (h.block i c b)⟩
theorem Ut{g:Nat}(h:a.grownBy w (some g))(hp:p.block=g\/a.heap.size<=p.block)(u:Value):a.grownBy (w.setCell p u) (some g):=
 ⟨h.os,h.tape,h.output,by simpa[World.setCell]using h.size,λi c b=>(Below.heap_setCell w p u i (by
  rintro rfl
  rcases hp with hp|hp
  ·exact b (by rw[hp])
  ·omega)).trans (h.block i c b)⟩
theorem CX(h:Below a.heap.size a w)(row:Option Nat):a.grownBy w row:=⟨h.os,h.tape,h.output,h.size,λi b _=>h.block i b⟩
theorem XaP{B:Nat}(h:a.grownBy w row)(c:B<=a.heap.size)(b:∀k,row=some k->B<=k):Below B a w:=
 ⟨h.os,h.tape,h.output,h.size,λi d=>h.block i O (λe=>by have:=b i e.symm;omega)⟩
theorem Np{b c:World}(h:a.grownBy b row)(k:b.grownBy c row):a.grownBy c row:=
 ⟨k.os.trans h.os,k.tape.trans h.tape,k.output.trans h.output,AW h.size k.size,λi e d=>(k.block i (FC e h.size) d).trans (h.block i e d)⟩
theorem Gw{k:IntKind}{a b:Int}(h:a=b):Ending.returned (.int k a)=.returned (.int k b):=by rw[h]
theorem GF{a b:Bool}(h:a=b):Ending.returned (.bool a)=.returned (.bool b):=by rw[h]
section
def lk:List (Nat×Value)->Nat->Option Value
 | [],_=>none
 |(k,v)::r,n=>bif Nat.beq k n then some v else lk r n
structure Has (N:Nat) (a:Act) (env:List (Nat×Value)):Prop where
 size:a.tmps.size=N
 nod:a.defers=[]
 get:∀k v,lk env k=some v->a.tmps.getD k undef=v
def ev(env:List (Nat×Value)):Operand->Option Value
 |.tmp t=>lk env t
 |.const v=>some v
 |.global g=>some (.pointer (some ⟨g,0,none⟩))
 |.func f=>some (.func (.func f) #[] #[])
def evL(env:List (Nat×Value)):List Operand->Option (List Value)
 | []=>some []
 |x::r=>match ev env x,evL env r with
  |some v,some vs=>some (v::vs)
  |_,_=>none
def Le:List (Nat×Value)->List (Nat×Value)->Prop
 | [],_=>True
 |(k,v)::r,e=>lk e k=some v/\Le r e
def sub(env:List (Nat×Value)):List Nat->List (Nat×Value)
 | []=>[]
 |k::r=>match lk env k with
  |some v=>(k,v)::sub env r
  |none=>sub env r
theorem Xfh{e:List (Nat×Value)}:∀{l:List (Nat×Value)},Le l e->∀k v,lk l k=some v->lk e k=some v
 | [],_,_,_,h=>by simp[lk]at h
 |(d,g)::r,c,k,v,h=>by
  unfold lk at h
  cases b:Nat.beq d k
  ·rw[b]at h;exact Xfh c.2 k v h
  ·rw[b]at h
   have:d=k:=FP b
   subst this
   simp only[cond_true,FE]at h
   subst h;exact c.1
theorem Xju(env:List (Nat×Value)):∀b,Le (sub env b) env
 | []=>trivial
 |k::r=>by
  unfold sub
  split
  ·rename_i v h;exact⟨h,Xju env r⟩
  ·exact Xju env r
variable{N:Nat}{a:Act}{env:List (Nat×Value)}
theorem Has.to(F:Has N a env){e:List (Nat×Value)}(h:Le e env):Has N a e:=⟨F.size,F.nod,λk v b=>F.get k v (Xfh h k v b)⟩
theorem Has.sub(F:Has N a env)(b:List Nat):Has N a (sub env b):=F.to (Xju env b)
theorem Has.add(F:Has N a env)(h:lk env k=some v):Has N a ((k,v)::env):=⟨F.size,F.nod,λj u b=>by
 unfold lk at b
 cases c:Nat.beq k j
 ·rw[c]at b;exact F.get j u b
 ·rw[c]at b
  have:k=j:=FP c
  subst this
  simp only[cond_true,FE]at b
  subst b;exact F.get k v h⟩
theorem Has.put(F:Has N a env){d:Nat}(hd:Nat.blt d N=true):Has N (a.put (some d) v) ((d,v)::env) where
 size:=by simp[Act.put,F.size]
 nod:=F.nod
 get:=λk u b=>by
  have g:d<a.tmps.size:=by rw[F.size];exact FG hd
  unfold lk at b
  cases c:Nat.beq d k
  ·rw[c]at b
   have i:d≠k:=λe=>by subst e;rw[Ii]at c;cases c
   have:=F.get k u b
   simpa[Act.put,Array.getElem?_setIfInBounds_ne i]using this
  ·rw[c]at b
   have:d=k:=FP c
   subst this
   simp only[cond_true,FE]at b
   subst b
   simp[Act.put,g]
theorem Has.eval(F:Has N a env)(h:ev env x=some v):a.eval x=v:=by
 cases x with
 |tmp t=>exact F.get t v h
 |const u=>simpa[ev,Act.eval]using h
 |global g=>simpa[ev,Act.eval]using h
 |func f=>simpa[ev,Act.eval]using h
theorem Has.evals(F:Has N a env):∀{xs:List Operand}{vs:List Value},evL env xs=some vs->xs.map a.eval=vs
 | [],vs,h=>by simp[evL]at h;subst h;rfl
 |x::r,vs,h=>by
  unfold evL at h
  split at h
  ·rename_i v d b c
   cases h
   rw[FH,F.eval b,F.evals c]
  ·cases h
def NP:List Value->Nat->List (Nat×Value)
 | [],_=>[]
 |v::r,k=>(k,v)::NP r (k+1)
theorem XbN:∀(vs:List Value)(k n:Nat)(v:Value),lk (NP vs k) n=some v->k<=n/\vs[n-k]?=some v
 | [],_,_,_,h=>by simp[NP,lk]at h
 |u::r,k,n,v,h=>by
  unfold NP lk at h
  cases b:Nat.beq k n
  ·rw[b]at h
   have c:k≠n:=λe=>by subst e;rw[Ii]at b;cases b
   obtain⟨g,d⟩:=XbN r (k+1) n v h
   refine⟨O,?_⟩
   have:n-k=(n-(k+1))+1:=O
   rw[this,IN];exact d
  ·rw[b]at h
   have:k=n:=FP b
   subst this
   simp only[cond_true,FE]at h
   subst h
   simp
theorem Has.start{args:List Value}(h:Nat.ble args.length n=true):Has n {tmps:=args.toArray++Array.replicate (n-args.toArray.size) undef,defers:=[]} (NP args 0) where
 size:=by have:=FG h;simp;omega
 nod:=rfl
 get:=λk v e=>by
  obtain⟨_,c⟩:=XbN args 0 k v e
  have b:k<args.length:=by have:=(AB.1 c).1;omega
  simp only[Iw]at c
  have d:(args.toArray++Array.replicate (n-args.toArray.size) undef)[k]?=some v:=by
   rw[Array.getElem?_append_left (by simpa using b)];simpa using c
  simp only[Fk,d,Option.getD_some]
theorem VU{c:Code}{args:List Value}{N:Nat}(b:P.funcs[f]?=some fn)(hb:fn.body=some c)(e:fn.ntmps=N)(d:Nat.ble args.length N=true)(h:∀a,Has N a (NP args 0)->c.wp P (bodyPost P fn R) a w):Calls P f args.toArray w R:=by
 subst e
 exact calls_of_wp b hb (h _ (Has.start d))
/-! ### Guards -/
def eqb:Bool->Bool->Bool
 |true,true=>true
 |false,false=>true
 |_,_=>false
def Xqc(l:List Oper)(env:List (Nat×Value))(j:Nat):Option Value:=
 match l[j]? with
 |some o=>match o.dst with
  |some t=>lk env t
  |none=>none
 |none=>none
def V2(l:List Oper)(env:List (Nat×Value)):Option (Nat×Bool)->Bool
 |none=>true
 |some (j,b)=>match Xqc l env j with
  |some (.bool c)=>eqb c b
  |_=>false
def CI(l:List Oper)(env:List (Nat×Value)):Option (Nat×Bool)->Bool
 |none=>false
 |some (j,b)=>match Xqc l env j with
  |some (.bool c)=>!eqb c b
  |some (.tuple _)=>true
  |_=>false
theorem eqb_iff{a b:Bool}:eqb a b=true↔a=b:=by cases a<;>cases b<;>simp[eqb]
theorem eqb_false{a b:Bool}:eqb a b=false↔a≠b:=by cases a<;>cases b<;>simp[eqb]
theorem getD_some{t:Nat}(h:a.tmps.getD t undef=u)(b:u≠undef):a.tmps[t]?=some u:=by
 rcases AN t a.tmps.size with hl|hl
 ·simp only[Fk,FX hl,Option.getD_some]at h
  rw[FX hl,h]
 ·simp only[Fk,HA hl,Option.getD_none]at h
  exact absurd h.symm b
theorem Xb1(F:Has N a env)(h:Xqc l env j=some u):∃t,(l[j]?).bind (·.dst)=some t/\a.tmps.getD t undef=u:=by
 unfold Xqc at h
 cases c:l[j]? with
 |none=>simp[c]at h
 |some o=>
  simp only[c]at h
  cases b:o.dst with
  |none=>simp[b]at h
  |some t=>
   simp only[b]at h
   exact⟨t,by simp[b],F.get t u h⟩
theorem UB(F:Has N a env)(h:V2 l env o.guard=true):Region.wanted o (yielded l.toArray a.tmps)=true:=by
 unfold Region.wanted
 cases m:o.guard with
 |none=>rfl
 |some p=>
  obtain⟨j,b⟩:=p
  rw[m]at h
  unfold V2 at h
  cases d:Xqc l env j with
  |none=>simp[d]at h
  |some u=>
   simp only[d]at h
   obtain⟨t,n,e⟩:=Xb1 F d
   cases u with
   |bool c=>
    have i:=eqb_iff.1 h
    subst i
    have g:=getD_some e (by simp[undef])
    simp[yielded,n,g]
   |_=>simp at h
theorem Lr(F:Has N a env)(h:CI l env o.guard=true):Region.wanted o (yielded l.toArray a.tmps)=false:=by
 unfold Region.wanted
 cases i:o.guard with
 |none=>rw[i]at h;cases h
 |some p=>
  obtain⟨j,b⟩:=p
  rw[i]at h
  unfold CI at h
  cases e:Xqc l env j with
  |none=>simp[e]at h
  |some u=>
   simp only[e]at h
   obtain⟨t,m,g⟩:=Xb1 F e
   cases u with
   |bool c=>
    have n:c≠b:=eqb_false.1 (by simpa using h)
    have d:=getD_some g (by simp[undef])
    simp[yielded,m,d,n]
   |tuple x=>
    simp only[yielded,Im,m,Option.bind_some]
    cases d:a.tmps[t]? with
    |none=>rfl
    |some u=>
     have:u=.tuple x:=by simpa[Fk,d]using g
     subst this;rfl
   |_=>simp at h
end
section
structure Res where
 foot:Nat->Prop
 pred:World->Prop
 loc:∀w w':World,(∀b,foot b->w'.heap[b]?=w.heap[b]?)->pred w->pred w'
def Res.blk(b:Nat)(cs:List Value)(t:TypeId):Res:=⟨(· = b),λw=>Blk w b cs t,λ_ _ h c=>(h b rfl).trans c⟩
structure Own (w0:World) (row:Option Nat) (w:World) (rs:List Res):Prop where
 grown:w0.grownBy w row
 pred:∀(i:Nat)(r:Res),rs[i]?=some r->r.pred w
 foot:∀(i:Nat)(r:Res),rs[i]?=some r->∀b,r.foot b->(w0.heap.size<=b\/some b=row)/\b<w.heap.size
 apart:∀(i j:Nat)(r s:Res),rs[i]?=some r->rs[j]?=some s->i≠j->∀b,r.foot b->¬s.foot b
variable{w0 w w':World}{row:Option Nat}{rs:List Res}
theorem Own.start(w:World)(row:Option Nat):Own w row w []:=⟨UM w row,λi r h=>by simp at h,λi r h=>by simp at h,λi j r s h=>by simp at h⟩
abbrev Va(f:FuncId)(xs:Array Value)(w:World)(v:Value):Prop:=Calls prog f xs w λe w'=>e=.returned v/\Below w.heap.size w w'
theorem Vb{P:Program}{f:FuncId}{fn:Func}{R:Ending->World->Prop}{w:World}{c:Code}{args:List Value}{N:Nat}(hf:P.funcs[f]?=some fn)(hn:fn.ntmps=N)(h:Own w none w []->∀a,Has N a (NP args 0)->c.wp P (bodyPost P fn R) a w)(hb:fn.body=some c:=by rfl)(hl:Nat.ble args.length N=true:=by rfl):Calls P f args.toArray w R:=VU hf hb hn hl (h (Own.start w none))
theorem Own.blk(H:Own w0 row w rs)(i:Nat)(c:rs[i]?=some (.blk b cs t)):Blk w b cs t:=H.pred i _ c
theorem Own.cell(H:Own w0 row w rs)(i:Nat)(d:rs[i]?=some (.blk b cs t))(c:cs[j]?=some v):w.cell? ⟨b,j,none⟩=some v:=(H.blk i d).cell j c
theorem Own.old(H:Own w0 row w rs)(h:w0.cell? p=some v)(b:some p.block≠row):w.cell? p=some v:=H.grown.cell h b
theorem Own.arg(H:Own w0 none w rs)(h:w0.cell? p=some v):w.cell? p=some v:=H.grown.cell h (by simp)
theorem Own.below(H:Own w0 none w rs):Below w0.heap.size w0 w:=XaP H.grown (AI _) (λ_ h=>by cases h)
theorem Own.same(H:Own w0 row w rs)(d:w0.grownBy w' row)(hs:w.heap.size<=w'.heap.size)(h:∀b,b<w.heap.size->w'.heap[b]?=w.heap[b]?):Own w0 row w' rs where
 grown:=d
 pred:=λi r hi=>r.loc w w' (λb c=>h b (H.foot i r hi b c).2) (H.pred i r hi)
 foot:=λi r hi b c=>⟨(H.foot i r hi b c).1,FC (H.foot i r hi b c).2 hs⟩
 apart:=H.apart
theorem Own.grow(H:Own w0 row w rs)(h:Below w.heap.size w w'):Own w0 row w' rs:=
 H.same (Np H.grown (CX h row)) h.size (λb c=>h.block b c)
theorem gG{w0 w:World}{row:Option Nat}{rs:List Res}{N:Nat}{env:List (Nat×Value)}{G:Act->World->Prop}(H:Own w0 row w rs)(K:∀a w,Has N a ((d,v)::env)->Own w0 row w rs->G a w):∀e w',(e=Ending.returned v/\Below w.heap.size w w')->∃u,e=.returned u/\∀a,Has N a ((d,u)::env)->G a w':=λ_ _ h=>⟨_,h.1,λa F=>K a _ F (H.grow h.2)⟩
theorem Own.drew(H:Own w0 row w rs):Own w0 row w.drew rs:=H.same (Gk H.grown) (AI _) (λ_ _=>rfl)
theorem Own.drewN(H:Own w0 row w rs)(n:Nat):Own w0 row (w.drewN n) rs:=H.same (Uc H.grown n) (AI _) (λ_ _=>rfl)
theorem Own.add(H:Own w0 row w rs)(r:Res)(h:Below w.heap.size w w')(hp:r.pred w')(c:∀b,r.foot b->w.heap.size<=b/\b<w'.heap.size):Own w0 row w' (r::rs) where
 grown:=(H.grow h).grown
 pred:=λi e hi=>by
  cases i with
  |zero=>simp at hi;subst hi;exact hp
  |succ i=>exact(H.grow h).pred i e (by simpa using hi)
 foot:=λi e hi b m=>by
  cases i with
  |zero=>simp at hi;subst hi;exact⟨.inl (AW H.grown.size (c b m).1),(c b m).2⟩
  |succ i=>exact(H.grow h).foot i e (by simpa using hi) b m
 apart:=λi j p q hi d n b o g=>by
  cases i with
  |zero=>
   cases j with
   |zero=>exact n Z
   |succ j=>
    simp at hi;subst hi
    have:=(H.foot j q (by simpa using d) b g).2
    have:=(c b o).1
    omega
  |succ i=>
   cases j with
   |zero=>
    simp at d;subst d
    have:=(H.foot i p (by simpa using hi) b o).2
    have:=(c b g).1
    omega
   |succ j=>exact H.apart i j p q (by simpa using hi) (by simpa using d) O b o g
theorem Own.alloc(H:Own w0 row w rs)(cs:Array Value)(t:TypeId):Own w0 row (w.alloc (.cells cs t)) (.blk w.heap.size cs.toList t::rs):=
 H.add _ ((Below.refl _ _).alloc (AI _) _) (Blk.new _ _ _) (λb c=>by cases c;exact⟨AI _,by simp⟩)
theorem Own.tail{r:Res}(H:Own w0 row w (r::rs)):Own w0 row w rs:=
 ⟨H.grown,λi c b=>H.pred (i+1) c (by simpa using b),λi c b=>H.foot (i+1) c (by simpa using b),λi j m d b e g=>H.apart (i+1) (j+1) m d (by simpa using b) (by simpa using e) O⟩
theorem Own.turn(H:Own w0 row w rs)(i:Nat){r:Res}(hi:rs[i]?=some r)(p:Res)(t:w0.grownBy w' row)(hs:w.heap.size<=w'.heap.size)(h:∀b,b<w.heap.size->¬r.foot b->w'.heap[b]?=w.heap[b]?)(hp:p.pred w')(o:∀b,p.foot b->(r.foot b\/w.heap.size<=b)/\b<w'.heap.size):Own w0 row w' (rs.set i p) where
 grown:=t
 pred:=λj s c=>by
  rw[Am]at c
  split at c
  ·rename_i e
   subst e
   split at c
   ·cases c;exact hp
   ·cases c
  ·rename_i e
   exact s.loc w w' (λb n=>h b (H.foot j s c b n).2 (λq=>H.apart i j r s hi c e b q n)) (H.pred j s c)
 foot:=λj s c b n=>by
  rw[Am]at c
  split at c
  ·split at c
   ·cases c
    obtain⟨h1|h1,g⟩:=o b n
    ·exact⟨(H.foot i r hi b h1).1,g⟩
    ·exact⟨.inl (AW H.grown.size h1),g⟩
   ·cases c
  ·exact⟨(H.foot j s c b n).1,FC (H.foot j s c b n).2 hs⟩
 apart:=λj k s u c d m b h1 g=>by
  rw[Am]at c d
  split at c
  ·rename_i e
   subst e
   split at c
   ·cases c
    rw[if_neg m]at d
    obtain⟨h3|h3,_⟩:=o b h1
    ·exact H.apart i k r u hi d m b h3 g
    ·have:=(H.foot k u d b g).2;omega
   ·cases c
  ·rename_i e
   split at d
   ·rename_i v
    subst v
    split at d
    ·cases d
     obtain⟨h3|h3,_⟩:=o b g
     ·exact H.apart i j r s hi c e b h3 h1
     ·have:=(H.foot j s c b h1).2;omega
    ·cases d
   ·exact H.apart j k s u c d m b h1 g
theorem MO(d:w0.grownBy w row)(hb:w0.heap.size<=b\/some b=row)(j:Nat)(v:Value):w0.grownBy (w.setCell ⟨b,j,none⟩ v) row:=
 ⟨d.os,d.tape,d.output,by simpa[World.setCell]using d.size,λi e c=>(Below.heap_setCell w _ v i (by
  rintro rfl
  rcases hb with hb|hb
  ·exact absurd e O
  ·exact c hb)).trans (d.block i e c)⟩
theorem Own.set(H:Own w0 row w rs)(i:Nat)(d:rs[i]?=some (.blk b cs t))(j:Nat)(v:Value):
 Own w0 row (w.setCell ⟨b,j,none⟩ v) (rs.set i (.blk b (cs.set j v) t)):=
 H.turn i d _ (MO H.grown (H.foot i _ d b Z).1 j v) (by simp[World.setCell])
  (λk _ c=>Below.heap_setCell w _ v k (λe=>c e)) ((H.blk i d).set j v)
  (λk c=>⟨.inl c,by cases c;simpa[World.setCell]using(H.foot i _ d b Z).2⟩)
def VZ:List Value->Nat->List Value->List Value
 |cs,_,[]=>cs
 |cs,o,v::r=>VZ (cs.set o v) (o+1) r
theorem Own.setCells{b:Nat}{t:TypeId}(i:Nat):∀(vs:List Value)(o:Nat)(w:World)(rs:List Res)(cs:List Value),Own w0 row w rs->rs[i]?=some (.blk b cs t) ->
 Own w0 row (w.setCells b o vs) (rs.set i (.blk b (VZ cs o vs) t))
 | [],o,w,rs,cs,H,c=>by
   have:rs.set i (.blk b (VZ cs o []) t)=rs:=by
    refine Ar λk=>?_
    rw[Am]
    split
    ·rename_i e
     subst e
     split
     ·exact c.symm
     ·rename_i h;rw[AV O]
    ·rfl
   rw[this]
   exact H
 |v::r,o,w,rs,cs,H,c=>by
  have j:=H.set i c o v
  have d:i<rs.length:=(AB.1 c).1
  have g:=Own.setCells i r (o+1) _ _ (cs.set o v) j (by rw[Am,if_pos Z,if_pos d])
  rw[Il]at g
  exact g
theorem Own.there(H:Own w0 row w rs)(i:Nat)(c:rs[i]?=some (.blk b cs t))(o n:Nat)(h:Nat.ble (o+n) cs.length=true):w.there b o n:=λj g=>by
 have e:=FG h
 have d:=(H.blk i c).cell (o+j) (v:=cs[o+j]'(by omega)) (AA O)
 exact⟨by rw[d];rfl,(H.blk i c).frozen (o+j)⟩
theorem Blk.range(h:Blk w b cs t)(o n:Nat):w.rangeAt b o ((cs.drop o).take n):=λj v c=>by
 rw[FV]at c
 split at c
 ·rw[Fi]at c;exact h.cell _ c
 ·cases c
theorem Own.range(H:Own w0 row w rs)(i:Nat)(c:rs[i]?=some (.blk b cs t))(o n:Nat):w.rangeAt b o ((cs.drop o).take n):=(H.blk i c).range o n
theorem Own.whole(H:Own w0 row w rs)(i:Nat)(d:rs[i]?=some (.blk b cs t)):w.rangeAt b 0 cs:=λj v c=>by rw[As];exact(H.blk i d).cell j c
theorem Own.argR(H:Own w0 none w rs){o:Nat}(h:w0.rangeAt b o cs):w.rangeAt b o cs:=λj v c=>H.arg (h j v c)
theorem Own.join{w1:World}{g:List Res}(H:Own w0 row w rs)(c:Own w none w1 g):Own w0 row w1 (g++rs) where
 grown:=(H.grow c.below).grown
 pred:=λi r hi=>by
  rcases AN i g.length with h|h
  ·rw[AP h]at hi;exact c.pred i r hi
  ·rw[AQ h]at hi;exact(H.grow c.below).pred _ r hi
 foot:=λi r hi b n=>by
  rcases AN i g.length with h|h
  ·rw[AP h]at hi
   obtain⟨h1|h1,e⟩:=c.foot i r hi b n
   ·exact⟨.inl (AW H.grown.size h1),e⟩
   ·cases h1
  ·rw[AQ h]at hi;exact(H.grow c.below).foot _ r hi b n
 apart:=λi j r s hi d m b h1 e=>by
  rcases AN i g.length with h|h<;>rcases AN j g.length with k|k
  ·rw[AP h]at hi;rw[AP k]at d;exact c.apart i j r s hi d m b h1 e
  ·rw[AP h]at hi;rw[AQ k]at d
   obtain⟨h3|h3,_⟩:=c.foot i r hi b h1
   ·have:=(H.foot _ s d b e).2;omega
   ·cases h3
  ·rw[AQ h]at hi;rw[AP k]at d
   obtain⟨h3|h3,_⟩:=c.foot j s d b e
   ·have:=(H.foot _ r hi b h1).2;omega
   ·cases h3
  ·rw[AQ h]at hi;rw[AQ k]at d;exact H.apart _ _ r s hi d O b h1 e
def RowsAt(w:World)(A:Option Addr)(sz:Nat)(c:List (List Value)):Prop:=∀(j:Nat)(cs:List Value),c[j]?=some cs->∃b d,A=some ⟨b,d,none⟩/\w.rangeAt b (d+j*sz) cs
end
section
variable{P:Program}{l:List Oper}{Q:Exit->Act->World->Prop}{N:Nat}{a:Act}{env:List (Nat×Value)}{rest:List Oper}{d:Tmp}{ty:TypeId}{pos:String}{af:Array Edge}{g:Option (Nat×Bool)}{w0 w:World}{row:Option Nat}{rs:List Res}
theorem UV(F:Has N a env)(c:V2 l env o.guard=true)(hd:o.dst=some d)(e:Nat.blt d N=true)(g:(execOp a.eval o).run P w=.ok (.value v) w')(K:∀b,Has N b ((d,v)::env)->wpList P l.toArray Q rest b w'):wpList P l.toArray Q (o::rest) a w:=by
 unfold wpList
 rw[if_pos (UB F c)];refine .inl ?_
 unfold Oper.wp
 rw[g,Oper.upon_value,hd]
 exact K _ (F.put e)
theorem Xdb(F:Has N a env)(b:V2 l env o.guard=true)(hd:o.dst=none)(c:(execOp a.eval o).run P w=.ok .skip w')(K:wpList P l.toArray Q rest a w'):wpList P l.toArray Q (o::rest) a w:=by
 unfold wpList
 rw[if_pos (UB F b)];refine .inl ?_
 unfold Oper.wp
 rw[c,Oper.upon_skip,hd]
 exact K
theorem sSk{b:Op}(F:Has N a env)(e:CI l env g=true)(i:Nat.blt d N=true)(K:∀a,Has N a ((d,undef)::env)->wpList P l.toArray Q rest a w):wpList P l.toArray Q (⟨some d,b,ty,pos,af,g⟩::rest) a w:=by
 have c:=Lr (o:=⟨some d,b,ty,pos,af,g⟩) (l:=l) F e
 unfold wpList
 rw[if_neg (by rw[c];simp)]
 exact K _ (F.put i)
theorem sNil(K:Q .normal a w):wpList P l.toArray Q [] a w:=K
theorem rMv(F:Has N a env)(b:ev env x=some v):(execOp a.eval ⟨some d,.move x,ty,pos,af,g⟩).run P w=.ok (.value (v)) w:=
 (by simp only[execOp,F.eval b];rfl)
theorem rAs(F:Has N a env)(b:ev env x=some v):(execOp a.eval ⟨some d,.assign x,ty,pos,af,g⟩).run P w=.ok (.value (v)) w:=
 (by simp only[execOp,F.eval b];rfl)
theorem sAs(F:Has N a env)(b:V2 l env g=true)(e:Nat.blt d N=true)(c:ev env x=some v)(K:∀a,Has N a ((d,v)::env)->wpList P l.toArray Q rest a w):wpList P l.toArray Q (⟨some d,.assign x,ty,pos,af,g⟩::rest) a w:=
 UV F b Z e (rAs F c) K
def Gu(P:Program)(b:BinOp)(t:TypeId)(x y:Operand)(u v r:Value):Prop:=∀w,(do eqGuard b t x y u v;binOp b t u v:Sem Value).run P w=.ok r w
theorem Gt{b:BinOp}(F:Has N a env)(e:ev env x=some u)(c:ev env y=some v)(hb:Gu P b t x y u v r):(execOp a.eval ⟨some d,.binOp b t x y ty',ty,pos,af,g⟩).run P w=.ok (.value (r)) w:=
 (by
  have:=hb w
  simp only[execOp,F.eval e,F.eval c]
  simp only[Sem.run_bind]at this⊢
  rw[this];rfl)
theorem sBin{b:BinOp}(F:Has N a env)(e:V2 l env g=true)(j:Nat.blt d N=true)(i:ev env x=some u)(c:ev env y=some v)(hb:Gu P b t x y u v r)(K:∀a,Has N a ((d,r)::env)->wpList P l.toArray Q rest a w):wpList P l.toArray Q (⟨some d,.binOp b t x y ty',ty,pos,af,g⟩::rest) a w:=
 UV F e Z j (Gt F i c hb) K
theorem Xh{b:BinOp}(F:Has N a env)(i:ev env x=some u)(c:ev env y=some v)(hb:Gu P b t x y u v r)(K:∀a,Has N a ((d,r)::env)->wpList P l.toArray Q rest a w)(e:V2 l env g=true:=by exact rfl)(j:Nat.blt d N=true:=by exact rfl):wpList P l.toArray Q (⟨some d,.binOp b t x y ty',ty,pos,af,g⟩::rest) a w:=sBin F e j i c hb K
theorem Ei{b:BinOp}(e:V2 l env g=true)(j:Nat.blt d N=true)(i:ev env x=some u)(c:ev env y=some v)(hb:Gu P b t x y u v r)(K:∀a,Has N a ((d,r)::env)->wpList P l.toArray Q rest a w):∀a,Has N a env->wpList P l.toArray Q (⟨some d,.binOp b t x y ty',ty,pos,af,g⟩::rest) a w:=λa F=>sBin F e j i c hb K
section
variable{t:TypeId}{x y:Operand}{k:IntKind}{m n:Int}
theorem bLss:Gu P .lss t x y (.int k m) (.int k n) (.bool (decide (m<n))):=λw=>by simp[eqGuard,go_sem]
theorem bLeq:Gu P .leq t x y (.int k m) (.int k n) (.bool (decide (m<=n))):=λw=>by simp[eqGuard,go_sem]
theorem bGtr:Gu P .gtr t x y (.int k m) (.int k n) (.bool (decide (n<m))):=λw=>by simp[eqGuard,go_sem]
theorem bGeq:Gu P .geq t x y (.int k m) (.int k n) (.bool (decide (n<=m))):=λw=>by simp[eqGuard,go_sem]
theorem bEql:Gu P .eql t x y (.int k m) (.int k n) (.bool (m==n)):=λw=>by simp[eqGuard,go_sem]
theorem bNeq:Gu P .neq t x y (.int k m) (.int k n) (.bool (m != n)):=λw=>by simp[eqGuard,go_sem]
theorem bAdd:Gu P .add t x y (.int k m) (.int k n) (.int k (k.wrap (m+n))):=λw=>by simp[eqGuard,binOp,Op.intArith,go_sem]
theorem bSub:Gu P .sub t x y (.int k m) (.int k n) (.int k (k.wrap (m-n))):=λw=>by simp[eqGuard,binOp,Op.intArith,go_sem]
theorem JN(h:-9223372036854775808<=m+n/\m+n<=9223372036854775807):Gu P .add t x y (.int .i64 m) (.int .i64 n) (.int .i64 (m+n)):=λw=>by
 rw[bAdd w,IntKind.wrap_i64];congr 2;omega
theorem Mf(h:-9223372036854775808<=m-n/\m-n<=9223372036854775807):Gu P .sub t x y (.int .i64 m) (.int .i64 n) (.int .i64 (m-n)):=λw=>by
 rw[bSub w,IntKind.wrap_i64];congr 2;omega
theorem bAddN(h:i+j<=9223372036854775807):Gu P .add t x y (.int .i64 (i:Int)) (.int .i64 (j:Int)) (.int .i64 ((i+j:Nat):Int)):=λw=>by
 rw[JN O w,Int.natCast_add]
theorem XpP(h:j<=i)(b:i<=9223372036854775807):Gu P .sub t x y (.int .i64 (i:Int)) (.int .i64 (j:Int)) (.int .i64 ((i-j:Nat):Int)):=λw=>by
 rw[Mf O w,Int.natCast_sub h]
theorem Xn5{u v:ByteArray}:Gu P .eql t x y (.string u) (.string v) (.bool (u.toList==v.toList)):=λw=>by simp[eqGuard,go_sem]
theorem XpS{u v:Bool}(h:P.underlying t=some .bool):Gu P .eql t x y (.bool u) (.bool v) (.bool (u==v)):=λw=>by
 simp[eqGuard,run_eql_bool w t u v h,go_sem]
theorem XpR{u v:Bool}(h:P.underlying t=some .bool):Gu P .neq t x y (.bool u) (.bool v) (.bool (!(u==v))):=λw=>by
 simp[eqGuard,run_neq_bool w t u v h,go_sem]
end
theorem Xp6{b:Bool}(F:Has N a env)(c:ev env x=some (.bool b)):(execOp a.eval ⟨some d,.unOp .not t x,ty,pos,af,g⟩).run P w=.ok (.value (.bool (!b))) w:=
 (by simp only[execOp,F.eval c];rfl)
theorem rPk{c:Operand}{b:Bool}(F:Has N a env)(i:ev env c=some (.bool b))(e:(bif b then ev env x else ev env y)=some v):(execOp a.eval ⟨some d,.pick c x y,ty,pos,af,g⟩).run P w=.ok (.value (v)) w:=
 (by
  cases b
  ·simp only[execOp,F.eval i,F.eval (show ev env y=some v from e)];rfl
  ·simp only[execOp,F.eval i,F.eval (show ev env x=some v from e)];rfl)
theorem rPkB{c:Operand}{b u v:Bool}(F:Has N a env)(e:ev env c=some (.bool b))(j:ev env x=some (.bool u))(i:ev env y=some (.bool v)):(execOp a.eval ⟨some d,.pick c x y,ty,pos,af,g⟩).run P w=.ok (.value (.bool (bif b then u else v))) w:=
 (by
  simp only[execOp,F.eval e,F.eval j,F.eval i]
  cases b<;>simp[asBool,go_sem])
theorem rCv{c b:IntKind}{n m:Int}(hs:P.underlying s=some (.int c))(e:P.underlying t=some (.int b))(F:Has N a env)(i:ev env x=some (.int c n))(hm:b.wrap n=m):(execOp a.eval ⟨some d,.convert s t x,ty,pos,af,g⟩).run P w=.ok (.value (.int b m)) w:=
 (by
  subst hm
  simp only[execOp,F.eval i]
  simp[convert,run_underlying hs,run_underlying e,Conv.intToInt,go_sem])
theorem sCv{c b:IntKind}{n m:Int}(hs:P.underlying s=some (.int c))(e:P.underlying t=some (.int b))(F:Has N a env)(i:V2 l env g=true)(o:Nat.blt d N=true)(j:ev env x=some (.int c n))(hm:b.wrap n=m)(K:∀a,Has N a ((d,.int b m)::env)->wpList P l.toArray Q rest a w):wpList P l.toArray Q (⟨some d,.convert s t x,ty,pos,af,g⟩::rest) a w:=
 UV F i Z o (rCv hs e F j hm) K
theorem rNc(F:Has N a env)(b:ev env x=some (.pointer (some p))):(execOp a.eval ⟨some d,.nilCheck x,ty,pos,af,g⟩).run P w=.ok (.value (.pointer (some p))) w:=
 (by simp only[execOp,F.eval b];rfl)
theorem rFa{f o:Nat}{c:Field}(hs:P.underlying s=some (.struct fs))(j:fs[f]?=some c)(p:∀w,(sizeOf c.type).run P w=.ok sz w)(i:Nat.beq sz 0=false)(m:o+c.offset=k)(F:Has N a env)(n:ev env x=some (.pointer (some ⟨b,o,none⟩))):(execOp a.eval ⟨some d,.fieldAddr s x f,ty,pos,af,g⟩).run P w=.ok (.value (.pointer (some ⟨b,k,none⟩))) w:=
 (by
  subst m
  simp only[execOp,F.eval n]
  have:sz≠0:=λe=>by subst e;cases i
  simp[Instr.fieldAt,run_underlying hs,j,Instr.sureAddr,fieldPlace,p,this,Addr.add_mid,go_sem])
theorem sFa{f o:Nat}{c:Field}(hs:P.underlying s=some (.struct fs))(i:fs[f]?=some c)(q:∀w,(sizeOf c.type).run P w=.ok sz w)(e:Nat.beq sz 0=false)(j:o+c.offset=k)(F:Has N a env)(m:V2 l env g=true)(p:Nat.blt d N=true)(n:ev env x=some (.pointer (some ⟨b,o,none⟩)))(K:∀a,Has N a ((d,.pointer (some ⟨b,k,none⟩))::env)->wpList P l.toArray Q rest a w):wpList P l.toArray Q (⟨some d,.fieldAddr s x f,ty,pos,af,g⟩::rest) a w:=
 UV F m Z p (rFa hs i q e j F n) K
theorem rIx{i:Operand}{o:Nat}{k:IntKind}(p:P.underlying t=some (.slice e))(s:∀w,(sizeOf e).run P w=.ok sz w)(F:Has N a env)(r:ev env x=some (.slice (some ⟨b,o,none⟩) n c))(q:ev env i=some (.int k (j:Int)))(m:j<n):(execOp a.eval ⟨some d,.indexAddr t x i,ty,pos,af,g⟩).run P w=.ok (.value (.pointer (some ⟨b,o+j*sz,none⟩))) w:=
 (by
  simp only[execOp,F.eval r,F.eval q]
  simp[Instr.indexAt,asIntOf,run_underlying p,s,m,Addr.add_mid,go_sem])
theorem sIx{i:Operand}{o:Nat}{k:IntKind}(q:P.underlying t=some (.slice e))(v:∀w,(sizeOf e).run P w=.ok sz w)(F:Has N a env)(p:V2 l env g=true)(r:Nat.blt d N=true)(u:ev env x=some (.slice (some ⟨b,o,none⟩) n c))(s:ev env i=some (.int k (j:Int)))(m:j<n)(K:∀a,Has N a ((d,.pointer (some ⟨b,o+j*sz,none⟩))::env)->wpList P l.toArray Q rest a w):wpList P l.toArray Q (⟨some d,.indexAddr t x i,ty,pos,af,g⟩::rest) a w:=
 UV F p Z r (rIx q v F u s m) K
theorem rIa{i:Operand}{o:Nat}{k:IntKind}(m:P.underlying t=some (.array n e))(r:∀w,(sizeOf e).run P w=.ok sz w)(F:Has N a env)(q:ev env x=some (.pointer (some ⟨b,o,none⟩)))(p:ev env i=some (.int k (j:Int)))(c:j<n):(execOp a.eval ⟨some d,.indexAddr t x i,ty,pos,af,g⟩).run P w=.ok (.value (.pointer (some ⟨b,o+j*sz,none⟩))) w:=
 (by
  simp only[execOp,F.eval q,F.eval p]
  simp[Instr.indexAt,asIntOf,Instr.sureAddr,run_underlying m,r,c,Addr.add_mid,go_sem])
theorem sIa{i:Operand}{o:Nat}{k:IntKind}(p:P.underlying t=some (.array n e))(u:∀w,(sizeOf e).run P w=.ok sz w)(F:Has N a env)(m:V2 l env g=true)(q:Nat.blt d N=true)(s:ev env x=some (.pointer (some ⟨b,o,none⟩)))(r:ev env i=some (.int k (j:Int)))(c:j<n)(K:∀a,Has N a ((d,.pointer (some ⟨b,o+j*sz,none⟩))::env)->wpList P l.toArray Q rest a w):wpList P l.toArray Q (⟨some d,.indexAddr t x i,ty,pos,af,g⟩::rest) a w:=
 UV F m Z q (rIa p u F s r c) K
theorem rLd(b:∀w,(isAgg t).run P w=.ok false w)(F:Has N a env)(e:ev env x=some (.pointer (some p)))(c:w.cell? p=some v):(execOp a.eval ⟨some d,.load t x,ty,pos,af,g⟩).run P w=.ok (.value (v)) w:=
 (by
  simp only[execOp,F.eval e]
  simp[Instr.loadAt,Instr.sureAddr,loadVar,b,c,go_sem])
theorem sLd(b:∀w,(isAgg t).run P w=.ok false w)(F:Has N a env)(c:V2 l env g=true)(j:Nat.blt d N=true)(i:ev env x=some (.pointer (some p)))(e:w.cell? p=some v)(K:∀a,Has N a ((d,v)::env)->wpList P l.toArray Q rest a w):wpList P l.toArray Q (⟨some d,.load t x,ty,pos,af,g⟩::rest) a w:=
 UV F c Z j (rLd b F i e) K
theorem rLr{o:Nat}{e:TypeDesc}(i:P.underlying t=some e)(c:e.isRow=true)(m:(P.info? t).map (·.size)=some cs.length)(F:Has N a env)(n:ev env x=some (.pointer (some ⟨b,o,none⟩)))(j:w.rangeAt b o cs):(execOp a.eval ⟨some d,.load t x,ty,pos,af,g⟩).run P w=.ok (.value (.agg cs.toArray)) w:=
 (by
  simp only[execOp,F.eval n,Sem.run_bind,run_loadAt_mid w b o t cs e j i c m]
  rfl)
theorem sLr{o:Nat}{e:TypeDesc}(i:P.underlying t=some e)(c:e.isRow=true)(n:(P.info? t).map (·.size)=some cs.length)(F:Has N a env)(j:V2 l env g=true)(q:Nat.blt d N=true)(p:ev env x=some (.pointer (some ⟨b,o,none⟩)))(m:w.rangeAt b o cs)(K:∀a,Has N a ((d,.agg cs.toArray)::env)->wpList P l.toArray Q rest a w):wpList P l.toArray Q (⟨some d,.load t x,ty,pos,af,g⟩::rest) a w:=
 UV F j Z q (rLr i c n F p m) K
theorem sSt(H:Own w0 row w rs)(i:Nat)(r:∀w,(sizeOf t).run P w=.ok 1 w)(F:Has N a env)(n:V2 l env g=true)(B:ev env x=some (.pointer (some ⟨b,j,none⟩)))(z:ev env y=some v)(p:v.oneCell'=true)(d:rs[i]?=some (.blk b cs bt))(A:cs[j]?=some u)(K:∀w,Own w0 row w (rs.set i (.blk b (cs.set j v) bt))->wpList P l.toArray Q rest a w):wpList P l.toArray Q (⟨none,.store t x y,ty,pos,af,g⟩::rest) a w:=
 Xdb F n Z (w':=w.setCell ⟨b,j,none⟩ v) (by
  simp only[execOp,F.eval B,F.eval z]
  have C:=H.cell i d A
  have s:=(H.blk i d).frozen j
  have m:v.cells=#[v]:=by cases v<;>simp_all[Value.oneCell',Value.cells]
  have e:=run_storeCells_cells (P:=P) b j [v] 0 w (λq c=>by simp at c;subst c;simp[C]) (λq c=>by simp at c;subst c;simpa using s) (λq c=>by simp at c;subst c;exact p)
  simp only[FF]at e
  have o:(storeCells ⟨b,j,none⟩ [v]).run P w=.ok () (w.setCell ⟨b,j,none⟩ v):=e
  simp only[Instr.storeAt,Instr.sureAddr,storeVar,m,Sem.run_bind,Sem.run_pure,Result.andThen_ok,r,Fr,AY,Fw,ne_eq,not_true_eq_false,↓reduceIte,As,o]) (K _ (H.set i d j v))
theorem sSr{o:Nat}(H:Own w0 row w rs)(i:Nat)(hs:(P.info? t).map (·.size)=some vs.length)(F:Has N a env)(n:V2 l env g=true)(p:ev env x=some (.pointer (some ⟨b,o,none⟩)))(e:ev env y=some (.agg vs.toArray))(m:vs.all (·.oneCell')=true)(c:rs[i]?=some (.blk b cs bt))(d:Nat.ble (o+vs.length) cs.length=true)(K:∀w,Own w0 row w (rs.set i (.blk b (VZ cs o vs) bt))->wpList P l.toArray Q rest a w):wpList P l.toArray Q (⟨none,.store t x y,ty,pos,af,g⟩::rest) a w:=
 Xdb F n Z (w':=w.setCells b o vs) (by
  simp only[execOp,F.eval p,F.eval e]
  have j:=run_storeAt_mid (P:=P) w b o t vs.toArray (by simpa using H.there i c o vs.length d) (by simpa using hs) (by simpa using m)
  simp only[Sem.run_bind,j,Result.andThen_ok,Sem.run_pure]) (K _ (Own.setCells i vs o w rs cs H c))
theorem sAl(H:Own w0 row w rs)(j:∀w,(zeroValue t).run P w=.ok z w)(F:Has N a env)(e:V2 l env g=true)(i:Nat.blt d N=true)(K:∀b a w,Has N a ((d,.pointer (some ⟨b,0,none⟩))::env)->Own w0 row w (.blk b z.cells.toList t::rs)->wpList P l.toArray Q rest a w):wpList P l.toArray Q (⟨some d,.alloc t,ty,pos,af,g⟩::rest) a w:=
 UV F e Z i (v:=.pointer (some ⟨w.heap.size,0,none⟩)) (w':=w.alloc (.cells z.cells t)) (by simp[execOp,Instr.alloc,j,newVar,newRow,go_sem]) (λm c=>K _ _ _ c (H.alloc _ _))
theorem sBx(H:Own w0 row w rs)(F:Has N a env)(e:V2 l env g=true)(j:Nat.blt d N=true)(i:ev env x=some v)(K:∀b a w,Has N a ((d,.pointer (some ⟨b,0,none⟩))::env)->Own w0 row w (.blk b v.cells.toList t::rs)->wpList P l.toArray Q rest a w):wpList P l.toArray Q (⟨some d,.box t x,ty,pos,af,g⟩::rest) a w:=
 UV F e Z j (v:=.pointer (some ⟨w.heap.size,0,none⟩)) (w':=w.alloc (.cells v.cells t)) (by
  simp only[execOp,F.eval i,Instr.box,newVar,newRow,Sem.run_bind]
  generalize v.cells=cs
  simp[go_sem]) (λm c=>K _ _ _ c (H.alloc _ _))
theorem Xns(b:P.underlying t=some (.slice e))(F:Has N a env)(i:ev env x=some (.slice A n c)):(execOp a.eval ⟨some d,.call ⟨.builtin .len,#[x],#[t]⟩,ty,pos,af,g⟩).run P w=.ok (.value (.int .i64 (n:Int))) w:=
 (by
  simp only[execOp,resolve,FK,FH,IB,F.eval i]
  simp[invoke,builtin,Builtin.len_,run_underlying b,goInt,go_sem])
theorem Ls(b:P.underlying t=some (.slice e))(F:Has N a env)(i:V2 l env g=true)(m:Nat.blt d N=true)(j:ev env x=some (.slice A n c))(K:∀a,Has N a ((d,.int .i64 (n:Int))::env)->wpList P l.toArray Q rest a w):wpList P l.toArray Q (⟨some d,.call ⟨.builtin .len,#[x],#[t]⟩,ty,pos,af,g⟩::rest) a w:=
 UV F i Z m (Xns b F j) K
theorem Lt{vs:Array Value}(F:Has N a env)(c:ev env x=some (.tuple vs))(b:vs[i]?=some v):(execOp a.eval ⟨some d,.extract x i,ty,pos,af,g⟩).run P w=.ok (.value (v)) w:=
 (by simp only[execOp,F.eval c];simp[Instr.extract,b,go_sem])
theorem rFn{fn:Fn}{e c:List Operand}{b:List Value}(F:Has N a env)(i:evL env e=some b)(j:evL env c=some vs):(execOp a.eval ⟨some d,.makeFunc fn e.toArray c.toArray,ty,pos,af,g⟩).run P w=.ok (.value (.func fn b.toArray vs.toArray)) w:=
 (by simp only[execOp,FK,F.evals i,F.evals j,Instr.makeFunc];rfl)
theorem XqU(b:∀(args:Array Value)(w:World),(callFunc f args).run P w=.ok (.enter f args) w)(F:Has N a env)(n:V2 l env g=true)(q:Nat.blt d N=true)(i:evL env xs=some vs)(p:Calls P f vs.toArray w R)(K:∀e w,R e w->∃v,e=.returned v/\∀a,Has N a ((d,v)::env)->wpList P l.toArray Q rest a w):wpList P l.toArray Q (⟨some d,.call ⟨.value (.func f),xs.toArray,ts⟩,ty,pos,af,g⟩::rest) a w:=by
 unfold wpList
 rw[if_pos (UB (o:=⟨some d,.call ⟨.value (.func f),xs.toArray,ts⟩,ty,pos,af,g⟩) F n)];refine .inl ?_
 unfold Oper.wp
 have m:(execOp a.eval ⟨some d,.call ⟨.value (.func f),xs.toArray,ts⟩,ty,pos,af,g⟩).run P w=.ok (.enter f vs.toArray) w:=by
  simp only[execOp,resolve,FK,F.evals i,Act.eval]
  simp[Deferred.ofValue,invoke,b,go_sem]
 rw[m,Oper.upon_enter]
 refine p.mono λe w' j=>?_
 obtain⟨v,rfl,c⟩:=K e w' j
 exact c _ (F.put q)
theorem Xi(b:∀(args:Array Value)(w:World),(callFunc f args).run P w=.ok (.enter f args) w)(F:Has N a env)(c:evL env xs=some vs)(j:Calls P f vs.toArray w R)(K:∀e w,R e w->∃v,e=.returned v/\∀a,Has N a ((d,v)::env)->wpList P l.toArray Q rest a w)(i:V2 l env g=true:=by exact rfl)(m:Nat.blt d N=true:=by exact rfl):wpList P l.toArray Q (⟨some d,.call ⟨.value (.func f),xs.toArray,ts⟩,ty,pos,af,g⟩::rest) a w:=XqU b F i m c j K
theorem Xbn{i c:List Value}(F:Has N a env)(m:V2 l env g=true)(p:Nat.blt d N=true)(n:ev env x=some (.func (.func f) i.toArray c.toArray))(b:∀(args:Array Value)(w:World),(callFunc f args).run P w=.ok (.enter f args) w)(r:evL env xs=some vs)(t:Calls P f (i++vs++c).toArray w R)(K:∀e w,R e w->∃v,e=.returned v/\∀a,Has N a ((d,v)::env)->wpList P l.toArray Q rest a w):wpList P l.toArray Q (⟨some d,.call ⟨.value x,xs.toArray,ts⟩,ty,pos,af,g⟩::rest) a w:=by
 unfold wpList
 rw[if_pos (UB (o:=⟨some d,.call ⟨.value x,xs.toArray,ts⟩,ty,pos,af,g⟩) F m)];refine .inl ?_
 unfold Oper.wp
 have j:(execOp a.eval ⟨some d,.call ⟨.value x,xs.toArray,ts⟩,ty,pos,af,g⟩).run P w=.ok (.enter f (i++vs++c).toArray) w:=by
  simp only[execOp,resolve,FK,F.evals r,F.eval n]
  simp[Deferred.ofValue,invoke,b,go_sem]
 rw[j,Oper.upon_enter]
 refine t.mono λe w' s=>?_
 obtain⟨v,rfl,q⟩:=K e w' s
 exact q _ (F.put p)
def JL(P:Program)(v:Value)(args:List Value)(w:World)(R:Ending->World->Prop):Prop:=
 ∃f c b,v=.func (.func f) (List.toArray c) (List.toArray b)/\(∀(args:Array Value)(w:World),(callFunc f args).run P w=.ok (.enter f args) w)/\Calls P f (c++args++b).toArray w R
theorem NL(F:Has N a env)(j:V2 l env g=true)(o:Nat.blt d N=true)(n:ev env x=some v)(b:evL env xs=some vs)(m:JL P v vs w R)(K:∀e w,R e w->∃v,e=.returned v/\∀a,Has N a ((d,v)::env)->wpList P l.toArray Q rest a w):wpList P l.toArray Q (⟨some d,.call ⟨.value x,xs.toArray,ts⟩,ty,pos,af,g⟩::rest) a w:=by
 obtain⟨f,q,p,rfl,i,c⟩:=m
 exact Xbn F j o n i b c K
/-! ### Code -/
theorem cReg(h:wpList P l.toArray Q l a w):(Code.region id l.toArray false).wp P Q a w:=wp_region_lit h
theorem qq0{α β γ:Type}{p:α->β->γ->Prop}:∀c a w,p c a w->p c a w:=λ_ _ _ h=>h
theorem cIfT{c:Operand}{x y:Code}(F:Has N a env)(b:ev env c=some (.bool true))(h:x.wp P Q a w):(Code.cond c x y).wp P Q a w:=wp_cond_true (F.eval b) h
theorem cIfF{c:Operand}{x y:Code}(F:Has N a env)(b:ev env c=some (.bool false))(h:y.wp P Q a w):(Code.cond c x y).wp P Q a w:=wp_cond_false (F.eval b) h
theorem cIf{c:Operand}{x y:Code}{b:Bool}(F:Has N a env)(e:ev env c=some (.bool b))(d:b=true->x.wp P Q a w)(g:b=false->y.wp P Q a w):(Code.cond c x y).wp P Q a w:=wp_cond_split (F.eval e) d g
theorem Has.split{G:Prop}(F:Has N a env)(k:Nat){b:Bool}(c:lk env k=some (.bool b))(d:b=true->Has N a ((k,.bool true)::env)->G)(e:b=false->Has N a ((k,.bool false)::env)->G):G:=by
 cases b
 ·exact e Z (F.add c)
 ·exact d Z (F.add c)
theorem bRet{t:Tmp}(b:fn.results=#[.tmp t])(F:Has N a env)(c:lk env t=some v)(h:R (.returned v) w):bodyPost P fn R .ret a w:=
 bodyPost_ret (v:=v) (by rw[results_tmp b,F.get t v c]) F.nod h
theorem Gy{t s:Tmp}(b:fn.results=#[.tmp t,.tmp s])(F:Has N a env)(c:lk env t=some u)(d:lk env s=some v)(h:R (.returned (.tuple #[u,v])) w):bodyPost P fn R .ret a w:=
 bodyPost_ret (v:=.tuple #[u,v]) (by rw[results_tmp2 b,F.get t u c,F.get s v d]) F.nod h
theorem bEnd(b:fn.results=#[])(F:Has N a env)(h:R (.returned (.tuple #[])) w):bodyPost P fn R .normal a w:=
 bodyPost_end (v:=.tuple #[]) (results_none b _ _ _) F.nod h
end
section
variable{P:Program}{l:List Oper}{Q:Exit->Act->World->Prop}{N:Nat}{a:Act}{env:List (Nat×Value)}{rest:List Oper}{d:Tmp}{ty:TypeId}{pos:String}{af:Array Edge}{g:Option (Nat×Bool)}{w0 w:World}{row:Option Nat}{rs:List Res}
theorem Le.nil{e:List (Nat×Value)}:Le [] e:=trivial
theorem Le.cons{r e:List (Nat×Value)}(h:lk e k=some v)(b:Le r e):Le ((k,v)::r) e:=⟨h,b⟩
theorem Has.tt{N:Nat}{a:Act}{env e:List (Nat×Value)}(F:Has N a env)(h:Le e env:=by repeat(first|exact trivial|refine Le.cons rfl ?_)):Has N a e:=F.to h
theorem VT(h:∀w,(sizeOf t).run P w=.ok n w):(P.info? t).map (·.size)=some n:=by
 have:=h default
 unfold sizeOf typeInfo at this
 cases b:P.info? t with
 |none=>simp[b,go_sem]at this
 |some i=>simp[b,go_sem]at this;simp[this]
abbrev b8(x:UInt8):Value:=.int .u8 (x.toNat:Int)
theorem Xoi(x:UInt8):IntKind.i64.wrap (x.toNat:Int)=(x.toNat:Int):=by have:=x.toNat_lt;rw[IntKind.wrap_i64];omega
theorem Xoh(h:n<=9223372036854775807):IntKind.i64.wrap (n:Int)=(n:Int):=by rw[IntKind.wrap_i64];omega
theorem wrap8(n:Nat):IntKind.u8.wrap (n:Int)=((UInt8.ofNat n).toNat:Int):=by
 have:IntKind.u8.wrap (n:Int)=(n:Int)%256:=by simp[IntKind.wrap,IntKind.signed,IntKind.bits]
 rw[this];simp
section
variable{t:TypeId}{x' y':Operand}{x y:UInt8}
theorem Xew(n:Int):IntKind.u8.wrap n=n%256:=by simp[IntKind.wrap,IntKind.signed,IntKind.bits]
theorem bAddB:Gu P .add t x' y' (b8 x) (b8 y) (b8 (x+y)):=λw=>by
 rw[bAdd w,Xew,b8,H6];simp
theorem bSubB:Gu P .sub t x' y' (b8 x) (b8 y) (b8 (x-y)):=λw=>by
 rw[bSub w,Xew,b8,UInt8.toNat_sub];have:=x.toNat_lt;have:=y.toNat_lt;congr 2;omega
theorem Nh(x y:UInt8):((x.toNat:Int)==(y.toNat:Int))=(x==y):=by
 rw[HE];simp only[beq_iff_eq,Int.ofNat_inj];exact HC
theorem bEqlB:Gu P .eql t x' y' (b8 x) (b8 y) (.bool (x==y)):=λw=>by rw[bEql w,Nh]
theorem bNeqB:Gu P .neq t x' y' (b8 x) (b8 y) (.bool (x != y)):=λw=>by rw[bNeq w,bne,Nh];rfl
theorem bLssB:Gu P .lss t x' y' (b8 x) (b8 y) (.bool (decide (x<y))):=λw=>by rw[bLss w];congr 2;simp[Aa]
theorem bLeqB:Gu P .leq t x' y' (b8 x) (b8 y) (.bool (decide (x<=y))):=λw=>by rw[bLeq w];congr 2;simp[Ai]
theorem bGtrB:Gu P .gtr t x' y' (b8 x) (b8 y) (.bool (decide (y<x))):=λw=>by rw[bGtr w];congr 2;simp[Aa]
theorem Xsd:Gu P .geq t x' y' (b8 x) (b8 y) (.bool (decide (y<=x))):=λw=>by rw[bGeq w];congr 2;simp[Ai]
theorem ED(x:UInt8):BitVec.ofInt 8 (x.toNat:Int)=x.toBitVec:=by
 rw[BitVec.ofInt_natCast];apply BitVec.eq_of_toNat_eq;simp
theorem bAndB:Gu P .and t x' y' (b8 x) (b8 y) (b8 (x&&&y)):=λw=>by
 have h:(x&&&y).toNat<256:=(x&&&y).toNat_lt
 simp only[eqGuard,binOp,Op.intBits,go_sem]
 show Result.ok (Value.int .u8 (IntKind.u8.wrap ((BitVec.ofInt 8 (x.toNat:Int)&&&BitVec.ofInt 8 (y.toNat:Int)).toNat:Int))) w=_
 rw[ED,ED,Xew]
 have e:(x.toBitVec&&&y.toBitVec).toNat=(x&&&y).toNat:=rfl
 rw[e,b8];congr 2;omega
theorem bXorB:Gu P .xor t x' y' (b8 x) (b8 y) (b8 (x^^^y)):=λw=>by
 have h:(x^^^y).toNat<256:=(x^^^y).toNat_lt
 simp only[eqGuard,binOp,Op.intBits,go_sem]
 show Result.ok (Value.int .u8 (IntKind.u8.wrap ((BitVec.ofInt 8 (x.toNat:Int)^^^BitVec.ofInt 8 (y.toNat:Int)).toNat:Int))) w=_
 rw[ED,ED,Xew]
 have e:(x.toBitVec^^^y.toBitVec).toNat=(x^^^y).toNat:=rfl
 rw[e,b8];congr 2;omega
end
theorem Xnm{o:Nat}(h:w.rangeAt b 0 cs)(k n:Nat)(d:o=k:=by rfl):w.rangeAt b o ((cs.drop k).take n):=λj v c=>by
 subst d;rw[FV]at c
 split at c
 ·rw[Fi]at c
  have:=h _ _ c
  rwa [As]at this
 ·cases c
theorem bEndR(b:fn.results=#[])(F:Has N a env)(h:R (.returned (.tuple #[])) w):bodyPost P fn R .ret a w:=
 bodyPost_ret (v:=.tuple #[]) (results_none b _ _ _) F.nod h
end
section
variable{P:Program}{l:List Oper}{Q:Exit->Act->World->Prop}{S:World->Prop}
def Bm(l:List Oper):Nat->Nat->Nat->Bool
 |0,_,_=>false
 |n+1,i,j=>match l[j]? with
  |some o=>o.after.any λe=>Region.binds .any e&&(e.on==i||Bm l n i e.on)
  |none=>false
def Xqf(l:List Oper)(j:Nat):Bool:=(List.range l.length).all λi=>i==j||Bm l l.length i j||Bm l l.length j i
def Closed(l:List Oper)(b:Array Bool):Prop:=∀k o,l[k]?=some o->b.getD k false=true->∀e∈o.after,Region.binds .any e=true->b.getD e.on false=true
theorem Jb{b:Array Bool}(q:Closed l b){i:Nat}:∀(n j:Nat)(o:Oper),l[j]?=some o->(∀e∈o.after,Region.binds .any e=true->b.getD e.on false=true)->Bm l n i j=true->b.getD i false=true
 |0,_,_,_,_,h=>by simp[Bm]at h
 |n+1,j,o,s,r,h=>by
  simp only[Bm,s]at h
  obtain⟨e,t,g⟩:=Array.any_eq_true'.1 h
  simp only[AJ,FM,beq_iff_eq]at g
  obtain⟨d,hb2⟩:=g
  have p:=r e t d
  rcases hb2 with rfl|hb2
  ·exact p
  ·cases c:l[e.on]? with
   |none=>
    cases n with
    |zero=>simp[Bm]at hb2
    |succ n=>simp[Bm,c]at hb2
   |some m=>exact Jb q n e.on m c (q e.on m c p) hb2
theorem Closed.list{b:Array Bool}(r:Closed l b)(q:i∈Region.ready .any l.toArray b):Closed l (b.setIfInBounds i true):=by
 intro k o j n e m p
 by_cases d:k=i
 ·subst d
  obtain⟨_,s,g,c⟩:=mem_ready.1 q
  have:o=s:=by simpa[j]using g
  subst this
  exact getD_set_true (c e m p)
 ·rw[getD_set_ne false (Ne.symm d)]at n
  exact getD_set_true (r k o j n e m p)
def wpS(P:Program)(l:List Oper)(Q:Exit->Act->World->Prop)(S:World->Prop):Nat->Array Bool->Act->World->Prop
 |0,b,a,w=>Region.ready .any l.toArray b=[]/\Q .normal a w
 |fuel+1,b,a,w=>
  (Region.ready .any l.toArray b=[]->Q .normal a w) /\
  ∀i∈Region.ready .any l.toArray b,wpOp P l.toArray Q i (λc w'=>wpAny P .any l.toArray Q fuel (b.setIfInBounds i true) c w'/\(Xqf l i=false->S w'/\wpS P l Q S fuel (b.setIfInBounds i true) c w')) a w
theorem Jv:∀(c:Nat)(b:Array Bool)(a:Act)(w:World),wpS P l Q S c b a w->wpAny P .any l.toArray Q c b a w
 |0,_,_,_,h=>h
 |_+1,_,_,_,h=>⟨h.1,λi e=>wpOp_mono (λ_ _ d=>d.1) (h.2 i e)⟩
theorem Xeq{d:World->Prop}(e:∀w,d w->S w):∀(fuel:Nat)(b:Array Bool)(a:Act)(w:World),wpS P l Q d fuel b a w->wpS P l Q S fuel b a w
 |0,_,_,_,h=>h
 |fuel+1,_,_,_,h=>⟨h.1,λi j=>wpOp_mono (λ_ _ c=>⟨c.1,λg=>⟨e _ (c.2 g).1,Xeq e fuel _ _ _ (c.2 g).2⟩⟩) (h.2 i j)⟩
theorem XlQ{b:Array Bool}(s:Closed l b)(v:i∈Region.ready .any l.toArray b)(w:j∈Region.ready .any l.toArray b)(e:j≠i):Xqf l j=false:=by
 cases t:Xqf l j with
 |false=>rfl
 |true=>
  exfalso
  obtain⟨q,u,d,p⟩:=mem_ready.1 v
  obtain⟨o,y,g,m⟩:=mem_ready.1 w
  have n:i<l.length:=by have:=(FJ.1 d).1;simpa using this
  have h1:=(Ah.1 t) i (Ab.2 n)
  simp only[FM,beq_iff_eq]at h1
  have c:∀k,b.getD k true=false->b.getD k false=true->False:=λk r h1=>by
   rcases AN k b.size with h|h
   ·simp[h]at r h1;rw[r]at h1;cases h1
   ·simp[HA h]at h1
  rcases h1 with(h1|h1)|h1
  ·exact e h1.symm
  ·exact c i q (Jb s _ j y (by simpa using g) m h1)
  ·exact c j o (Jb s _ i u (by simpa using d) p h1)
theorem Xa4{u:Oper}(V:l.toArray[i]?=some u)(r:∀(j:Nat)(o:Oper) cs b,l.toArray[j]?=some o->o.op ≠ .select cs b)(hQ:∀c a w,Q (.panic c) (a.put u.dst v) w->Q (.panic c) a w):
   ∀(g:Nat)(d:Array Bool)(a:Act)(w:World),Closed l d ->
     (∀j z,l.toArray[j]?=some z->j≠i->d.getD j true=false->(∀e∈z.after,Region.binds .any e=true->e.on≠i)->u.apart l.toArray z=true) ->
     i∈Region.ready .any l.toArray d->YieldsIf P l.toArray S u v a->S w ->
     wpS P l Q S g (d.setIfInBounds i true) (a.put u.dst v) w->wpS P l Q S (g+1) d a w:=by
 intro g
 induction g with
 |zero=>
  intro d a w X n s K I H
  refine⟨λh=>(by rw[h]at s;cases s),λj A=>?_⟩
  by_cases m:j=i
  ·subst m;exact K.wpOp V I ⟨Jv _ _ _ _ H,λ_=>⟨I,H⟩⟩
  ·have:=ready_mono A m
   rw[H.1]at this
   cases this
 |succ g ih=>
  intro d a w X n s K I H
  refine⟨λh=>(by rw[h]at s;cases s),λj A=>?_⟩
  by_cases m:j=i
  ·subst m;exact K.wpOp V I ⟨Jv _ _ _ _ H,λ_=>⟨I,H⟩⟩
  ·have W:=XlQ X s A m
   have y:=H.2 j (ready_mono A m)
   obtain⟨q,z,t,G⟩:=mem_ready.1 A
   have C:∀e∈z.after,Region.binds .any e=true->e.on≠i:=λe he hb R=>by
     have y:=G e he hb
     have h0:=(mem_ready.1 s).1
     rw[R]at y
     rcases AN i d.size with h'|h'
     ·simp[h']at h0 y;rw[h0]at y;cases y
     ·simp[HA h']at y
   have h2:=wpOp_putIf t (n j z t m q C) (λcs b=>r i u cs b V) (λcs b=>r j z cs b t) hQ K y
   have p:∀k D,l.toArray[k]?=some D->k≠i->(d.setIfInBounds j true).getD k true=false ->
       (∀e∈D.after,Region.binds .any e=true->e.on≠i)->u.apart l.toArray D=true:=λk D hk M E L=>by
     refine n k D hk M ?_ L
     by_cases B:j=k
     ·subst B;exact q
     ·rw[getD_set_ne true B]at E;exact E
   refine wpOp_mono (λa' w' h3=>?_) h2
   obtain⟨T,a1,N⟩:=h3
   obtain⟨J,U⟩:=N W
   have h4:wpS P l Q S (g+1) (d.setIfInBounds j true) a' w':=ih (d.setIfInBounds j true) a' w' (X.list A) p (ready_mono s (Ne.symm m)) T J (by
     rw[Iz _ _ m]
     exact U)
   exact⟨Jv _ _ _ _ h4,λ_=>⟨J,h4⟩⟩
/-! ### In the text's order -/
def XcQ(n k:Nat):Array Bool:=(List.replicate k true++List.replicate (n-k) false).toArray
theorem Xjk(n:Nat):Array.replicate n false=XcQ n 0:=by simp[XcQ]
theorem Xaf(h:k<n):(XcQ n k).setIfInBounds k true=XcQ n (k+1):=by
 apply Array.ext'
 simp only[XcQ,Array.toList_setIfInBounds]
 refine Ar λi=>?_
 rw[Am]
 simp only[AK,List.length_replicate]
 split
 ·rename_i e
  subst e;rw[if_pos O,AP (by simp),Fp,if_pos O]
 ·rename_i e
  rcases AN i k with h1|h1
  ·rw[AP (by simpa using h1),AP (by simp;omega),Fp,Fp,if_pos h1,if_pos O]
  ·rw[AQ (by simpa using h1),AQ (by simp;omega)]
   simp only[List.length_replicate,Fp]
   have:(i-k<n-k)↔(i-(k+1)<n-(k+1)):=O
   simp[this]
theorem XlY:(XcQ n k).getD i false=decide (i<k):=by
 simp only[XcQ,Fk,Im]
 rcases AN i k with h1|h1
 ·rw[AP (by simpa using h1),Fp,if_pos h1];simp[h1]
 ·rw[AQ (by simpa using h1)]
  simp only[List.length_replicate,Fp]
  split<;>simp[Nat.not_lt.2 h1]
def XcC(l:List Oper):Bool:=((List.range l.length).all λk=>match l[k]? with|some o=>o.after.all λe=>decide (e.on<k)|none=>true)&&Region.noSelect l.toArray
theorem D4(hb:XcC l=true):Closed l (XcQ l.length k):=by
 intro j o b c e g _
 rw[XlY]at c⊢
 simp only[decide_eq_true_eq]at c⊢
 have i:=(Hy.1 hb).1
 have d:=(Ah.1 i) j (Ab.2 (AB.1 b).1)
 simp only[b]at d
 have m:=(Array.all_eq_true_iff_forall_mem.1 d) e g
 simp only[decide_eq_true_eq]at m
 omega
def Xc6(l:List Oper)(k:Nat):Bool:=(Region.ready .any l.toArray (XcQ l.length k)).contains k&&Region.free .any l.toArray (XcQ l.length k) k
def XrM(l:List Oper)(k:Nat):Bool:=match Region.ready .any l.toArray (XcQ l.length k)with | [j]=>Nat.beq j k|_=>false
variable{N:Nat}{a:Act}{env:List (Nat×Value)}{w:World}
def wpD(P:Program)(l:List Oper)(Q:Exit->Act->World->Prop)(S:World->Prop)(k:Nat)(rest:List Oper)(a:Act)(w:World):Prop:=
 l.drop k=rest->k<=l.length->wpS P l Q S (l.length-k) (XcQ l.length k) a w
theorem cRegD(hm:P.follows .mixedOrders=true)(S:World->Prop)(h:wpD P l Q S 0 l a w.drew):(Code.region id l.toArray true).wp P Q a w:=by
 refine wp_region_any hm ?_
 have:=Jv _ _ _ _ (h Z (AU _))
 rw[Fr,Xjk]
 exact this
theorem DV(h:l.drop k=o::rest):l[k]?=some o/\l.drop (k+1)=rest/\k<l.length:=by
 have b:l[k]?=some o:=by
  have:(l.drop k)[0]?=some o:=by rw[h];rfl
  simpa using this
 refine⟨b,?_,(AB.1 b).1⟩
 have:l.drop (k+1)=(l.drop k).tail:=by rw[List.tail_drop]
 rw[this,h];rfl
theorem Xr2(hb:XcC l=true)(p:Xc6 l k=true)(F:Has N a env)(r:V2 l env o.guard=true)(hd:o.dst=some d)(y:Nat.blt d N=true)(t:∀w,S w->(execOp a.eval o).run P w=.ok (.value v) w)(u:S w)(q:∀c a w,Q (.panic c) (a.put (some d) v) w->Q (.panic c) a w)(K:∀a,Has N a ((d,v)::env)->wpD P l Q S (k+1) rest a w):wpD P l Q S k (o::rest) a w:=by
 intro b z
 obtain⟨s,n,g⟩:=DV b
 have j:=K _ (F.put y) n g
 rw[<-Xaf g]at j
 have e:l.length-k=(l.length-(k+1))+1:=O
 rw[e]
 have i:=Hy.1 p
 have m:l.toArray[k]?=some o:=by simpa using s
 refine Xa4 m (Region.noSelect_spec (Hy.1 hb).2) (by rw[hd];exact q) _ _ _ _ (D4 hb) (Region.free_spec m i.2) (by simpa using i.1) (.inl ⟨UB F r,t⟩) u (by rw[hd];exact j)
theorem Xj(F:Has N a env)(hd:o.dst=some d)(e:∀w,S w->(execOp a.eval o).run P w=.ok (.value v) w)(b:S w)(j:∀c a w,Q (.panic c) (a.put (some d) v) w->Q (.panic c) a w)(K:∀a,Has N a ((d,v)::env)->wpD P l Q S (k+1) rest a w)(hb:XcC l=true:=by kernel_rfl)(i:Xc6 l k=true:=by kernel_rfl)(g:V2 l env o.guard=true:=by exact rfl)(m:Nat.blt d N=true:=by exact rfl):wpD P l Q S k (o::rest) a w:=Xr2 hb i F g hd m e b j K
theorem qDT(hb:XcC l=true)(i:Xc6 l k=true)(j:V2 l env o.guard=true)(hd:o.dst=some d)(m:Nat.blt d N=true)(g:∀a,Has N a env->∀w,S w->(execOp a.eval o).run P w=.ok (.value v) w)(e:S w)(b:∀c a w,Q (.panic c) (a.put (some d) v) w->Q (.panic c) a w)(K:∀a,Has N a ((d,v)::env)->wpD P l Q S (k+1) rest a w):∀a,Has N a env->wpD P l Q S k (o::rest) a w:=λa F=>Xr2 hb i F j hd m (g a F) e b K
theorem Xk(hd:o.dst=some d)(g:∀a,Has N a env->∀w,S w->(execOp a.eval o).run P w=.ok (.value v) w)(e:S w)(b:∀c a w,Q (.panic c) (a.put (some d) v) w->Q (.panic c) a w)(K:∀a,Has N a ((d,v)::env)->wpD P l Q S (k+1) rest a w)(hb:XcC l=true:=by kernel_rfl)(i:Xc6 l k=true:=by kernel_rfl)(j:V2 l env o.guard=true:=by exact rfl)(m:Nat.blt d N=true:=by exact rfl):∀a,Has N a env->wpD P l Q S k (o::rest) a w:=qDT hb i j hd m g e b K
theorem Xg0(hb:XcC l=true)(p:Xc6 l k=true)(F:Has N a env)(r:CI l env o.guard=true)(hd:o.dst=some d)(t:Nat.blt d N=true)(u:S w)(q:∀c a w,Q (.panic c) (a.put (some d) undef) w->Q (.panic c) a w)(K:∀a,Has N a ((d,undef)::env)->wpD P l Q S (k+1) rest a w):wpD P l Q S k (o::rest) a w:=by
 intro b v
 obtain⟨s,n,g⟩:=DV b
 have j:=K _ (F.put t) n g
 rw[<-Xaf g]at j
 have e:l.length-k=(l.length-(k+1))+1:=O
 rw[e]
 have i:=Hy.1 p
 have m:l.toArray[k]?=some o:=by simpa using s
 refine Xa4 m (Region.noSelect_spec (Hy.1 hb).2) (by rw[hd];exact q) _ _ _ _ (D4 hb) (Region.free_spec m i.2) (by simpa using i.1) (.inr ⟨Lr F r,Z⟩) u (by rw[hd];exact j)
theorem qDS(hb:XcC l=true)(g:Xc6 l k=true)(i:CI l env o.guard=true)(hd:o.dst=some d)(j:Nat.blt d N=true)(e:S w)(b:∀c a w,Q (.panic c) (a.put (some d) undef) w->Q (.panic c) a w)(K:∀a,Has N a ((d,undef)::env)->wpD P l Q S (k+1) rest a w):∀a,Has N a env->wpD P l Q S k (o::rest) a w:=λa F=>Xg0 hb g F i hd j e b K
theorem Xl(hd:o.dst=some d)(e:S w)(b:∀c a w,Q (.panic c) (a.put (some d) undef) w->Q (.panic c) a w)(K:∀a,Has N a ((d,undef)::env)->wpD P l Q S (k+1) rest a w)(hb:XcC l=true:=by kernel_rfl)(g:Xc6 l k=true:=by kernel_rfl)(i:CI l env o.guard=true:=by exact rfl)(j:Nat.blt d N=true:=by exact rfl):∀a,Has N a env->wpD P l Q S k (o::rest) a w:=qDS hb g i hd j e b K
def Kd(P:Program)(l:List Oper)(Q:Exit->Act->World->Prop)(S:World->Prop)(j:Nat)(rest:List Oper)(a:Act)(w:World):Prop:=
 wpAny P .any l.toArray Q (l.length-(j+1)) (XcQ l.length (j+1)) a w/\(Xqf l j=false->S w/\wpD P l Q S (j+1) rest a w)
theorem dOne(g:XrM l k=true)(F:Has N a env)(t:V2 l env o.guard=true)(h:o.wp P a w (Kd P l Q S k rest) Q):wpD P l Q S k (o::rest) a w:=by
 intro c z
 obtain⟨u,s,d⟩:=DV c
 have e:l.length-k=(l.length-(k+1))+1:=O
 rw[e]
 have q:Region.ready .any l.toArray (XcQ l.length k)=[k]:=by
  unfold XrM at g
  split at g
  ·rename_i j y;rw[y,FP g]
  ·cases g
 refine⟨λp=>(by rw[q]at p;cases p),λi r=>?_⟩
 rw[q]at r
 have n:i=k:=by simpa using r
 subst n
 have v:l.toArray[i]?=some o:=by simpa using u
 unfold wpOp
 simp only[v,UB F t,if_true]
 refine .inl (Oper.wp_mono (λA w' m=>?_) h)
 rw[Xaf d]
 exact⟨m.1,λb=>⟨(m.2 b).1,(m.2 b).2 s d⟩⟩
theorem Xhg(K:Q .normal a w)(d:Nat.beq k l.length=true):wpD P l Q S k [] a w:=by
 intro _ _
 have b:=FP d
 subst b;rw[Ih]
 refine⟨?_,K⟩
 unfold Region.ready
 refine F3.2 λi c=>?_
 rw[Fr,Ab]at c
 have:(XcQ l.length l.length).getD i true=true:=by
  simp[XcQ,Fk,c]
 simp[this]
theorem dPart{d:World->Prop}(b:l.drop (j+1)=rest)(e:Nat.ble (j+1) l.length=true)(hb:Xqf l j=true)(h:wpD P l Q d (j+1) rest a w):
 Kd P l Q S j rest a w:=
 ⟨Jv _ _ _ _ (h b (FG e)),λc=>by rw[hb]at c;cases c⟩
theorem dOn{d:World->Prop}(b:l.drop (j+1)=rest)(e:Nat.ble (j+1) l.length=true)(i:S w)(c:∀w,d w->S w)(h:wpD P l Q d (j+1) rest a w):
 Kd P l Q S j rest a w:=
 ⟨Jv _ _ _ _ (h b (FG e)),λ_=>⟨i,λm g=>Xeq c _ _ _ _ (h m g)⟩⟩
/-! ### Single operations, whatever comes behind -/
variable{Kt:Act->World->Prop}{w0:World}{row:Option Nat}{rs:List Res}{d:Tmp}{ty:TypeId}{pos:String}{af:Array Edge}{g:Option (Nat×Bool)}
theorem oV(F:Has N a env)(hd:o.dst=some d)(c:Nat.blt d N=true)(e:(execOp a.eval o).run P w=.ok (.value v) w')(K:∀b,Has N b ((d,v)::env)->Kt b w'):o.wp P a w Kt Q:=by
 unfold Oper.wp
 rw[e,Oper.upon_value,hd]
 exact K _ (F.put c)
theorem UK(b:∀(args:Array Value)(w:World),(callFunc f args).run P w=.ok (.enter f args) w)(F:Has N a env)(n:Nat.blt d N=true)(i:evL env xs=some vs)(o:Calls P f vs.toArray w R)(K:∀e w,R e w->∃v,e=.returned v/\∀a,Has N a ((d,v)::env)->Kt a w):(Oper.mk (some d) (.call ⟨.value (.func f),xs.toArray,ts⟩) ty pos af g).wp P a w Kt Q:=by
 unfold Oper.wp
 have m:(execOp a.eval ⟨some d,.call ⟨.value (.func f),xs.toArray,ts⟩,ty,pos,af,g⟩).run P w=.ok (.enter f vs.toArray) w:=by
  simp only[execOp,resolve,FK,F.evals i,Act.eval]
  simp[Deferred.ofValue,invoke,b,go_sem]
 rw[m,Oper.upon_enter]
 refine o.mono λe w' j=>?_
 obtain⟨v,rfl,c⟩:=K e w' j
 exact c _ (F.put n)
theorem Xrx{i c:List Value}(F:Has N a env)(n:Nat.blt d N=true)(m:ev env x=some (.func (.func f) i.toArray c.toArray))(b:∀(args:Array Value)(w:World),(callFunc f args).run P w=.ok (.enter f args) w)(p:evL env xs=some vs)(r:Calls P f (i++vs++c).toArray w R)(K:∀e w,R e w->∃v,e=.returned v/\∀a,Has N a ((d,v)::env)->Kt a w):(Oper.mk (some d) (.call ⟨.value x,xs.toArray,ts⟩) ty pos af g).wp P a w Kt Q:=by
 unfold Oper.wp
 have j:(execOp a.eval ⟨some d,.call ⟨.value x,xs.toArray,ts⟩,ty,pos,af,g⟩).run P w=.ok (.enter f (i++vs++c).toArray) w:=by
  simp only[execOp,resolve,FK,F.evals p,F.eval m]
  simp[Deferred.ofValue,invoke,b,go_sem]
 rw[j,Oper.upon_enter]
 refine r.mono λe w' q=>?_
 obtain⟨v,rfl,o⟩:=K e w' q
 exact o _ (F.put n)
theorem oAl(H:Own w0 row w rs)(i:∀w,(zeroValue t).run P w=.ok z w)(F:Has N a env)(e:Nat.blt d N=true)(K:∀b a w,Has N a ((d,.pointer (some ⟨b,0,none⟩))::env)->Own w0 row w (.blk b z.cells.toList t::rs)->Kt a w):(Oper.mk (some d) (.alloc t) ty pos af g).wp P a w Kt Q:=
 oV F Z e (v:=.pointer (some ⟨w.heap.size,0,none⟩)) (w':=w.alloc (.cells z.cells t)) (by simp[execOp,Instr.alloc,i,newVar,newRow,go_sem]) (λj c=>K _ _ _ c (H.alloc _ _))
theorem D8(hm:P.follows .mixedOrders=true)(_H:Own w0 row w rs)(h:wpD P l Q (λw=>Own w0 row w rs) 0 l a w.drew):(Code.region id l.toArray true).wp P Q a w:=cRegD hm _ h
theorem Xkh(b:l.drop (j+1)=rest)(c:Nat.ble (j+1) l.length=true)(hb:Xqf l j=true)(_H:Own w0 row w rs)(h:wpD P l Q (λw=>Own w0 row w rs) (j+1) rest a w):
 Kd P l Q S j rest a w:=dPart b c hb h
theorem dOnO(b:l.drop (j+1)=rest)(d:Nat.ble (j+1) l.length=true)(_H:Own w0 row w rs)(e:S w)(c:∀w,Own w0 row w rs->S w)(h:wpD P l Q (λw=>Own w0 row w rs) (j+1) rest a w):
 Kd P l Q S j rest a w:=dOn b d e c h
/-! ### Where the ways of a test meet again -/
inductive SubR (env:List (Nat×Value)):List Nat->List (Nat×Value)->Prop where
 |nil:SubR env [] []
 |cons {k:Nat} {v:Value} {ks:List Nat} {e:List (Nat×Value)} (h:lk env k=some v) (r:SubR env ks e):SubR env (k::ks) ((k,v)::e)
theorem SubR.le{c:List Nat}{e:List (Nat×Value)}(h:SubR env c e):Le e env:=by
 induction h with
 |nil=>exact trivial
 |cons h _ b=>exact⟨h,b⟩
theorem cSeqJ{x y:Code}(i:List Nat)(I:List (Nat×Value)->World->Prop)(_F:Has N a env){e:List (Nat×Value)}(_hs:SubR env i e)(j:x.wp P (Exit.then (λc w'=>∃b,I b w'/\Has N c (b++e)) Q) a w)(g:∀b a w,I b w->Has N a (b++e)->y.wp P Q a w):(Code.seq x y).wp P Q a w:=
 wp_seq (wp_mono j (λe c w' h=>by
  cases e with
  |normal=>obtain⟨b,d,m⟩:=h;exact g b c w' d m
  |_=>exact h))
theorem cSeqS{x y:Code}(c:List Nat)(I:List (Nat×Value)->World->Prop)(_F:Has N a env){e:List (Nat×Value)}(i:x.wp P (Exit.then (λg w'=>∃b,I b w'/\Has N g (b++e)) Q) a w)(d:∀b a w,I b w->Has N a (b++e)->y.wp P Q a w)(_hs:SubR env c e:=by repeat(first|exact SubR.nil|(apply SubR.cons;· rfl))):(Code.seq x y).wp P Q a w:=cSeqJ c I _F _hs i d
theorem cLoopR{c:Code}(J:List Nat)(I:Nat->List (Nat×Value)->World->Prop)(F:Has N a env)(D:Nat)(g:List (Nat×Value)){e:List (Nat×Value)}(hs:SubR env J e)(G:I D g w)(R:Le g env)(round:∀m g a w,I m g w->Has N a (g++e)->c.wp P (Exit.then (λq w'=>∃u,u<m/\∃i,I u i w'/\Has N q (i++e)) Q) a w):(Code.loop c).wp P Q a w:=by
 have C:∀l:List (Nat×Value),Le l env->Le (l++e) env:=λl E=>by
  induction l with
  |nil=>exact hs.le
  |cons p r B=>exact⟨E.1,B E.2⟩
 have t:∀(b:Frame)(k:List Item)(cs:List Frame) m g a w,I m g w->Has N a (g++e)->∃e q w',Q e q w'/\Arrives P (lone (b.at a (.code c:: .inLoop c::k)) cs w) b k cs e q w':=by
  intro b k cs m
  induction m using Nat.strongRecOn with
  |_ m B=>
   intro g a w M L
   obtain⟨x,s,o,j,d⟩:=round m g a w M L b (.inLoop c::k) cs
   cases x with
   |normal=>
    obtain⟨u,v,i,z,y⟩:=j
    obtain⟨K,S,T,A,n⟩:=B u v i s o z y
    exact⟨K,S,T,A,.of_steps (Steps.trans d (.one step_inLoop)) n⟩
   |exit id=>exact⟨_,s,o,j,.pass (x:=.inLoop c) Z (λ_ _=>.inl (by simp)) d⟩
   |goto id=>exact⟨_,s,o,j,.pass (x:=.inLoop c) Z (λ_ _=>.inl (by simp)) d⟩
   |ret=>exact⟨_,s,o,j,.pass (x:=.inLoop c) Z (λ_ _=>.inl (by simp)) d⟩
   |panic U=>exact⟨_,s,o,j,.pass (x:=.inLoop c) Z (λ_ _=>.inl (by simp)) d⟩
   |outgrown=>exact⟨_,s,o,j,.pass (x:=.inLoop c) Z (λ_ _=>.inl (by simp)) d⟩
 intro b k cs
 obtain⟨x,q,w',j,d⟩:=t b k cs D g a w G (F.to (C g R))
 exact⟨x,q,w',j,.of_steps (.one step_loop) d⟩
theorem cLoopS{c:Code}(j:List Nat)(I:Nat->List (Nat×Value)->World->Prop)(F:Has N a env)(g:Nat)(b:List (Nat×Value)){e:List (Nat×Value)}(o:I g b w)(round:∀m b a w,I m b w->Has N a (b++e)->c.wp P (Exit.then (λn w'=>∃i,i<m/\∃d,I i d w'/\Has N n (d++e)) Q) a w)(hs:SubR env j e:=by repeat(first|exact SubR.nil|(apply SubR.cons;· rfl)))(p:Le b env:=by repeat(first|exact trivial|refine Le.cons rfl ?_)):(Code.loop c).wp P Q a w:=cLoopR j I F g b hs o p round
/-! ### What a test says -/
theorem notT{b:Bool}(h:(!b)=true):b=false:=by simpa using h
theorem notF{b:Bool}(h:(!b)=false):b=true:=by simpa using h
theorem beqT{α:Type}[BEq α][LawfulBEq α]{x y:α}(h:(x==y)=true):x=y:=eq_of_beq h
theorem beqF{α:Type}[BEq α][LawfulBEq α]{x y:α}(h:(x==y)=false):x≠y:=ne_of_beq_false h
theorem bneT{α:Type}[BEq α][LawfulBEq α]{x y:α}(h:(x != y)=true):x≠y:=by simpa using h
theorem bneF{α:Type}[BEq α][LawfulBEq α]{x y:α}(h:(x != y)=false):x=y:=by simpa using h
end
section
variable{P:Program}{l:List Oper}{Q:Exit->Act->World->Prop}{N:Nat}{a:Act}{env:List (Nat×Value)}{rest:List Oper}{d:Tmp}{ty:TypeId}{pos:String}{af:Array Edge}{g:Option (Nat×Bool)}{w0 w:World}{row:Option Nat}{rs:List Res}{Kt:Act->World->Prop}
def evP(env:List (Nat×Value)):List (Nat×Operand)->Option (List (Nat×Value))
 | []=>some []
 |(i,x)::r=>match ev env x,evP env r with
  |some v,some vs=>some ((i,v)::vs)
  |_,_=>none
theorem Has.parts(F:Has N a env):∀{xs:List (Nat×Operand)} {vs:List (Nat×Value)},evP env xs=some vs->xs.map (λ(i,x)=>(i,a.eval x))=vs
 | [],vs,h=>by simp[evP]at h;subst h;rfl
 |(i,x)::r,vs,h=>by
  unfold evP at h
  split at h
  ·rename_i v d b c
   cases h
   rw[FH,F.parts c]
   simp only[F.eval b]
  ·cases h
def JF(b:Nat->Option (Nat×Nat)):List Value->List (Nat×Value)->Option (List Value)
 |cells,[]=>some cells
 |cells,(i,v)::r=>match b i with
  |none=>none
  |some (c,size)=>bif Nat.beq v.cells.toList.length size&&Nat.ble (c+v.cells.toList.length) cells.length then JF b (VZ cells c v.cells.toList) r else none
theorem E5(b:Nat):∀(vs:List Value)(k:Nat)(cs:Array Value),(vs.zipIdx k).foldl (λcs (x:Value×Nat)=>cs.setIfInBounds (b+x.2) x.1) cs=(VZ cs.toList (b+k) vs).toArray
 | [],k,cs=>by simp[VZ]
 |v::r,k,cs=>by
  simp only[List.zipIdx_cons,Fa,VZ]
  rw[E5 b r (k+1)]
  congr 1
  simp[FY]
theorem GE:∀(vs:List Value)(cs:List Value)(o:Nat),(VZ cs o vs).length=cs.length
 | [],_,_=>rfl
 |v::r,cs,o=>by simp only[VZ];rw[GE r];simp
theorem Jq(b:Nat->Option (Nat×Nat)):∀(ps:List (Nat×Value)) (cs c:List Value),JF b cs ps=some c->Instr.fill b cs.toArray ps=some c.toArray
 | [],cs,c,h=>by simp[JF]at h;subst h;rfl
 |(i,v)::r,cs,c,h=>by
  unfold JF at h
  unfold Instr.fill
  cases m:b i with
  |none=>simp[m]at h
  |some q=>
   obtain⟨d,size⟩:=q
   simp only[m]at h⊢
   cases g:(Nat.beq v.cells.toList.length size&&Nat.ble (d+v.cells.toList.length) cs.length)with
   |false=>rw[g]at h;cases h
   |true=>
    rw[g]at h
    obtain⟨j,e⟩:=Hy.1 g
    have j:=FP j
    have e:=FG e
    rw[K0]at j e;rw[if_neg (by simp;omega)]
    have o:v.cells.zipIdx.foldl (λcs (x:Value×Nat)=>cs.setIfInBounds (d+x.2) x.1) cs.toArray=(VZ cs d v.cells.toList).toArray:=by
     have:=E5 d v.cells.toList 0 cs.toArray
     rw[FF]at this;rw[<-this,<-Array.foldl_toList,Array.toList_zipIdx]
    have n:=Jq b r _ c h
    rw[<-n]
    congr 1
theorem rBd{b:List (Nat×Operand)}{places:List (Nat×Nat)}(q:∀w,(zeroValue t).run P w=.ok (.agg zs) w)(p:P.underlying t=some (.struct fs))(e:fs.toList.mapM (λf=>(P.info? f.type).map λi=>(f.offset,i.size))=some places)(F:Has N a env)(m:evP env b=some ps)(j:JF (λi=>places[i]?) zs.toList ps=some cs):
 (execOp a.eval ⟨some d,.build t b.toArray,ty,pos,af,g⟩).run P w=.ok (.value (.agg cs.toArray)) w:=by
 have o:=Jq _ _ _ _ j
 have n:(Instr.build t (b.toArray.map λ(i,x)=>(i,a.eval x))).run P w=.ok (.agg cs.toArray) w:=by
  rw[FK,F.parts m]
  have c:Instr.fill (λi=>places[i]?) zs ps=some cs.toArray:=by simpa using o
  simp[Instr.build,run_underlying p,q,IY,run_places w _ _ e,c,Value.cells,go_sem]
 simp only[execOp,Sem.run_bind,n]
 rfl
theorem sBd{b:List (Nat×Operand)}{places:List (Nat×Nat)}(p:∀w,(zeroValue t).run P w=.ok (.agg zs) w)(m:P.underlying t=some (.struct fs))(c:fs.toList.mapM (λf=>(P.info? f.type).map λi=>(f.offset,i.size))=some places)(F:Has N a env)(n:V2 l env g=true)(o:Nat.blt d N=true)(j:evP env b=some ps)(e:JF (λi=>places[i]?) zs.toList ps=some cs)(K:∀a,Has N a ((d,.agg cs.toArray)::env)->wpList P l.toArray Q rest a w):wpList P l.toArray Q (⟨some d,.build t b.toArray,ty,pos,af,g⟩::rest) a w:=
 UV F n Z o (rBd p m c F j e) K
theorem qBd{b:List (Nat×Operand)}{places:List (Nat×Nat)}(p:∀w,(zeroValue t).run P w=.ok (.agg zs) w)(n:P.underlying t=some (.struct fs))(c:fs.toList.mapM (λf=>(P.info? f.type).map λi=>(f.offset,i.size))=some places)(m:V2 l env g=true)(o:Nat.blt d N=true)(j:evP env b=some ps)(e:JF (λi=>places[i]?) zs.toList ps=some cs)(K:∀a,Has N a ((d,.agg cs.toArray)::env)->wpList P l.toArray Q rest a w):∀a,Has N a env->wpList P l.toArray Q (⟨some d,.build t b.toArray,ty,pos,af,g⟩::rest) a w:=λa F=>sBd p n c F m o j e K
def rep:Nat->List Value->List Value
 |0,_=>[]
 |n+1,zs=>zs++rep n zs
theorem Nm(zs:List Value):∀n,(rep n zs).length=n*zs.length
 |0=>by simp[rep]
 |n+1=>by simp[rep,Nm zs n,FB,Ij]
theorem XiA(zs:List Value):∀(n i:Nat),i<n*zs.length->(rep n zs)[i]?=zs[i%zs.length]?
 |0,i,h=>by simp at h
 |n+1,i,h=>by
  unfold rep
  rcases AN i zs.length with h1|h1
  ·rw[AP h1,Fg h1]
  ·rw[AQ h1,XiA zs n (i-zs.length) (by rw[FB,Ht]at h;omega)]
   congr 1
   exact(Nat.mod_eq_sub_mod h1).symm
theorem XkY(cs:Array Value)(n size:Nat)(h:cs.toList.length=size):(Array.map (λx=>cs[x%cs.size]!) (Array.range (n*size)))=(rep n cs.toList).toArray:=by
 apply Array.ext'
 refine Ar λi=>?_
 have d:cs.size=size:=by simpa using h
 simp only[Array.toList_map,Array.toList_range,AD]
 rcases AN i (n*size)with hi|hi
 ·rw[XiA cs.toList n i (by rw[h];exact hi),Av hi,h,H7,d]
  have c:0<size:=by rcases Aw size with h0|h0;(subst h0;simp at hi);exact h0
  have b:i%size<cs.size:=by rw[d];exact IW _ c
  rw[F8,FX b,getElem!_pos cs (i%size) b]
 ·rw[AV (by simp;exact hi),AV (by rw[Nm,h];exact hi)];rfl
theorem rBs{b:List (Nat×Operand)}(p:P.underlying t=some (.slice e))(hs:∀w,(sizeOf e).run P w=.ok size w)(A:∀w,(zeroValue e).run P w=.ok z w)(c:z.cells.toList.length=size)(F:Has N a env)(u:evP env b=some ps)(y:Nat.ble (n*size) 16777216=true)(q:JF (λi=>some (i*size,size)) (rep n z.cells.toList) ps=some cs):
 (execOp a.eval ⟨some d,.buildSlice t n b.toArray,ty,pos,af,g⟩).run P w=.ok (.value (.slice (some ⟨w.heap.size,0,none⟩) n n)) (w.alloc (.cells cs.toArray e)):=by
 have j:=Jq _ _ _ _ q
 have r:=FG y
 have v:(Instr.buildSlice t n (b.toArray.map λ(i,x)=>(i,a.eval x))).run P w=.ok (.slice (some ⟨w.heap.size,0,none⟩) n n) (w.alloc (.cells cs.toArray e)):=by
  rw[FK,F.parts u]
  generalize m:z.cells=zc at *
  by_cases o:n*size=0
  ·have s:rep n zc.toList=[]:=Al (by rw[Nm,c];exact o)
   rw[s]at j
   unfold Instr.buildSlice
   simp only[Sem.run_bind,run_underlying p,hs,Result.andThen_ok]
   rw[if_neg O]
   simp only[o,if_true]
   simp[j,newRow,go_sem]
  ·unfold Instr.buildSlice
   simp only[Sem.run_bind,run_underlying p,hs,Result.andThen_ok]
   rw[if_neg O]
   simp only[o,if_false,Sem.run_bind,A,Result.andThen_ok,Sem.run_pure,m]
   rw[XkY zc n size c,j]
   simp[newRow,go_sem]
 simp only[execOp,Sem.run_bind,v]
 rfl
theorem sBs{parts:List (Nat×Operand)}(H:Own w0 row w rs)(m:P.underlying t=some (.slice e))(hs:∀w,(sizeOf e).run P w=.ok size w)(u:∀w,(zeroValue e).run P w=.ok z w)(c:z.cells.toList.length=size)(F:Has N a env)(o:V2 l env g=true)(s:Nat.blt d N=true)(r:evP env parts=some ps)(p:Nat.ble (n*size) 16777216=true)(j:JF (λi=>some (i*size,size)) (rep n z.cells.toList) ps=some cs)(K:∀b a w,Has N a ((d,.slice (some ⟨b,0,none⟩) n n)::env)->Own w0 row w (.blk b cs e::rs)->wpList P l.toArray Q rest a w):wpList P l.toArray Q (⟨some d,.buildSlice t n parts.toArray,ty,pos,af,g⟩::rest) a w:=
 UV F o Z s (rBs m hs u c F r p j) (λ_ q=>K _ _ _ q (H.alloc _ _))
theorem oBs{parts:List (Nat×Operand)}(H:Own w0 row w rs)(p:P.underlying t=some (.slice e))(hs:∀w,(sizeOf e).run P w=.ok size w)(s:∀w,(zeroValue e).run P w=.ok z w)(c:z.cells.toList.length=size)(F:Has N a env)(q:Nat.blt d N=true)(o:evP env parts=some ps)(r:Nat.ble (n*size) 16777216=true)(j:JF (λi=>some (i*size,size)) (rep n z.cells.toList) ps=some cs)(K:∀b a w,Has N a ((d,.slice (some ⟨b,0,none⟩) n n)::env)->Own w0 row w (.blk b cs e::rs)->Kt a w):(Oper.mk (some d) (.buildSlice t n parts.toArray) ty pos af g).wp P a w Kt Q:=
 oV F Z q (rBs p hs s c F o r j) (λ_ m=>K _ _ _ m (H.alloc _ _))
theorem XiW{c:Bool}(d:u.oneCell'=true)(b:v.oneCell'=true):(bif c then u else v).oneCell'=true:=by cases c<;>assumption
theorem XiV:(([]:List Value).all (·.oneCell'))=true:=rfl
theorem Xe3{r:List Value}(h:v.oneCell'=true)(b:(r.all (·.oneCell'))=true):((v::r).all (·.oneCell'))=true:=by simp only[List.all_cons,h,b,Bool.and_self]
theorem Da{t:Tmp}{g:TypeId}{d:TypeDesc}(c:fn.results=#[.cell t g])(F:Has N a env)(i:lk env t=some (.pointer (some ⟨b,0,none⟩)))(j:P.underlying g=some d)(e:d.isRow=true)(m:(P.info? g).map (·.size)=some cs.length)(hb:Blk w b cs bt):(results fn a.tmps).run P w=.ok (.agg cs.toArray) w:=by
 exact results_cell_row c a.tmps w b bt cs.toArray (0,0) d (F.get t _ i) hb j (by cases d<;>first|rfl|exact e) (by simpa using m)
theorem QW{t u:Tmp}{d:TypeId}{g:TypeDesc}{y:Value}(c:fn.results=#[.cell t d,.tmp u])(F:Has N a env)(r:lk env t=some (.pointer (some ⟨b,0,none⟩)))(n:lk env u=some y)(p:P.underlying d=some g)(e:g.isRow=true)(q:(P.info? d).map (·.size)=some cs.length)(hb:Blk w b cs bt):(results fn a.tmps).run P w=.ok (.tuple #[.agg cs.toArray,y]) w:=by
 have o:w.rangeAt b 0 cs:=λj v s=>by rw[As];exact hb.cell j s
 rw[results_cell_tmp c,F.get t _ r,F.get u _ n]
 have m:=run_loadVar_mid (P:=P) w b 0 d cs g o p e q
 have i:(asAddr (.pointer (some ⟨b,0,none⟩))).run P w=.ok ⟨b,0,none⟩ w:=rfl
 rw[i]
 simp only[Result.andThen_ok,m]
end
section
variable{P:Program}{l:List Oper}{Q:Exit->Act->World->Prop}{N:Nat}{a:Act}{env:List (Nat×Value)}{rest:List Oper}{d:Tmp}{ty:TypeId}{pos:String}{af:Array Edge}{g:Option (Nat×Bool)}{w0 w:World}{row:Option Nat}{rs:List Res}{Kt:Act->World->Prop}
theorem LM(b:P.underlying t=some (.slice e)):P.underlying t=some (.slice (P.elem t)):=by rw[b];simp[Program.elem,b]
theorem LG{b:TypeInfo}(h:∀w,(typeInfo e).run P w=.ok b w):P.info? e=some b:=by
 have:=h default
 unfold typeInfo at this
 cases c:P.info? e with
 |none=>simp[c,go_sem]at this
 |some i=>simp[c,go_sem]at this;simp[this]
theorem rSlH{o:Operand}{k:IntKind}(b:P.underlying t=some (.slice e))(i:∀w,∃sz,(sizeOf e).run P w=.ok sz w)(F:Has N a env)(v:ev env x=some (.slice A n c))(s:ev env o=some (.int k (j:Int)))(y:j<=c):
 (execOp a.eval ⟨some d,.slice t x none (some o) none,ty,pos,af,g⟩).run P w=.ok (.value (.slice A j c)) w:=by
 obtain⟨sz,i⟩:=i w
 have q:P.elem t=e:=by simp[Program.elem,b]
 have m:=run_slice_h (P:=P) w t A n c (LM b) k (j:Int) O O
 rw[q,i]at m
 have r:(if c=0 then A else Option.map (λx=>x.add (0*sz)) A)=A:=by
  split
  ·rfl
  ·cases A with
   |none=>rfl
   |some p=>simp[Addr.add]
 have u:(Instr.slice t (.slice A n c) none (some (.int k (j:Int))) none).run P w=.ok (.slice A j c) w:=by
  rw[m]
  simp only[Result.andThen_ok,sliced,r,FU,Iw]
 simp only[execOp,H7,IU,F.eval v,F.eval s,Sem.run_bind,run_sliceAt_slice w t _ none _ none (LM b),u]
 rfl
theorem XqN{b:Operand}{k:IntKind}(p:P.underlying t=some (.slice e))(s:∀w,∃sz,(sizeOf e).run P w=.ok sz w)(F:Has N a env)(o:V2 l env g=true)(q:Nat.blt d N=true)(r:ev env x=some (.slice A n c))(m:ev env b=some (.int k (j:Int)))(i:j<=c)(K:∀a,Has N a ((d,.slice A j c)::env)->wpList P l.toArray Q rest a w):wpList P l.toArray Q (⟨some d,.slice t x none (some b) none,ty,pos,af,g⟩::rest) a w:=
 UV F o Z q (rSlH p s F r m i) K
def Res.arr(e:TypeId)(sz:Nat)(v:Value)(n:Nat)(xs:List Value):Res where
 foot:=λb=>v.ownBlock=some b
 pred:=λw=>w.ownsRow 0 e sz v n xs
 loc:=λw w' h hp=>by
  refine⟨hp.1,?_⟩
  rcases hp.2 with c|⟨g,i,d,c,j,o,m⟩
  ·exact .inl c
  ·exact .inr ⟨g,i,d,c,j,(h g (by rw[c];rfl)).trans o,m⟩
theorem Own.nilArr(H:Own w0 row w rs)(e:TypeId)(sz:Nat):Own w0 row w (.arr e sz (.slice none 0 0) 0 []::rs):=
 H.add _ (Below.refl _ _) (World.ownsRow_nil _ _ _ _) (λb c=>by simp[Res.arr,Value.ownBlock]at c)
theorem Own.arr(H:Own w0 row w rs)(i:Nat){xs:List Value}(b:rs[i]?=some (.arr e sz v n xs)):w.ownsRow 0 e sz v n xs:=H.pred i _ b
theorem RowsAt.ofArr{b:List (List Value)}(h:w.ownsRow 0 e sz (.slice A n c) n b.flatten)(d:∀r∈b,r.length=sz)(t:0<sz):RowsAt w A sz b:=by
 intro j cs i
 have D:j<b.length:=(AB.1 i).1
 have u:∀(b:List (List Value)),(∀r∈b,r.length=sz)->∀j cs,b[j]?=some cs->∀k v,cs[k]?=some v->b.flatten[j*sz+k]?=some v:=by
  intro b d
  induction b with
  |nil=>intro j cs i;simp at i
  |cons q rest z=>
   intro j cs i k v o
   have B:q.length=sz:=d q (by simp)
   cases j with
   |zero=>
    simp at i;subst i
    have:k<q.length:=(AB.1 o).1
    rw[FO,AP O];simpa using o
   |succ j=>
    have L:cs.length=sz:=d cs (by have:=AF i;exact this)
    rw[FO,AQ (by rw[B,FB];omega),B]
    have K:(j+1)*sz+k-sz=j*sz+k:=by rw[FB];omega
    rw[K]
    exact z (λr y=>d r (by simp[y])) j cs (by simpa using i) k v o
 have s:∀(b:List (List Value)),(∀r∈b,r.length=sz)->b.flatten.length=b.length*sz:=by
  intro b d
  induction b with
  |nil=>simp
  |cons q rest z=>rw[FO,AK,z (λr y=>d r (by simp[y])),d q (by simp),AY,FB];omega
 obtain⟨I,m|⟨g,E,G,m,_,C,P,M,N,J⟩⟩:=h
 ·obtain⟨_,m⟩:=m
  subst m;rw[IZ,s b d]at I
  have:=Nat.mul_pos (by omega:0<b.length) t
  omega
 ·simp only[Value.slice.injEq]at m
  obtain⟨rfl,_,rfl⟩:=m
  refine⟨g,0,Z,λk v o=>?_⟩
  have p:=u b d j cs i k v o
  rw[<-J]at p;rw[FV]at p
  split at p
  ·simp[World.cell?,C]
   simpa using p
  ·cases p
end
end Go.Proofs.YtajfpcgbnflceaaGreatDoor
