/-
  Plain Lean: what Follow answers: too few reads, too many, or just enough. Conditions: none.
-/
import Derived.Test.YtagnefpgidbhnaaGreatDoorJn10
import Derived.Test.YtagnefpgidbhnaaGreatDoorJn1
import Derived.Test.YtagnefpgidbhnaaGreatDoorCkK
import Derived.Test.YtagnefpgidbhnaaGreatDoorJn9
set_option linter.unusedSimpArgs false
set_option linter.unusedVariables false
namespace Go.Proofs.YtagnefpgidbhnaaGreatDoor
-- SqN
set_option maxRecDepth 100000
inductive Path8 (l:List Ins):RunP→List UInt8→RunP→Prop where
 | stop {r:RunP}:l[r.pc]? = none→Path8 l r [] r
 | read {r z:RunP} {x:Ins} {v:UInt8} {vs:List UInt8}:l[r.pc]? = some x→XU x.op=true→Path8 l (X8 x v r) vs z→Path8 l r (v :: vs) z
 | pass {r z:RunP} {x:Ins} {vs:List UInt8}:l[r.pc]? = some x→XU x.op=false→Path8 l (X8 x 0 r) vs z→Path8 l r vs z
theorem Me {l:List Ins} {r:RunP} (hx:l[r.pc]? = none) (v:UInt8) (vs:List UInt8):goP l (v :: vs) r = .many:=by
 have e:XD l r=r:=XV (.inr hx)
 exact Mf (by rw [e];exact Ga hx)
theorem Path8.go {l:List Ins} {r z:RunP} {vs:List UInt8} (h:Path8 l r vs z):goP l vs r = .done z:=by
 induction h with
 | stop hx=>exact Qb hx
 | read hx hr _ ih=>rw [GE hx hr];exact ih
 | pass hx hr _ ih=>rw [GF hx hr];exact ih
theorem Xbe {l:List Ins}:∀ (n:Nat) (r:RunP) (vs:List UInt8) (z:RunP),l.length - r.pc≤n→goP l vs r = .done z→Path8 l r vs z:=by
 intro n
 induction n with
 | zero=>
   intro r vs z hn h
   have hx:l[r.pc]? = none:=List.getElem?_eq_none (by omega)
   cases vs with
   | nil=>rw [Qb hx] at h;cases h;exact .stop hx
   | cons v vs=>rw [Me hx] at h;cases h
 | succ n ih=>
   intro r vs z hn h
   cases hx:l[r.pc]? with
   | none=>
     cases vs with
     | nil=>rw [Qb hx] at h;cases h;exact .stop hx
     | cons v vs=>rw [Me hx] at h;cases h
   | some x=>
     have hp:=(List.getElem?_eq_some_iff.1 hx).1
     cases hr:XU x.op with
     | false=>
       rw [GF hx hr] at h
       exact .pass hx hr (ih _ _ _ (by have:=Y2 x 0 r;omega) h)
     | true=>
       cases vs with
       | nil=>rw [DW hx hr] at h;cases h
       | cons v vs=>
         rw [GE hx hr] at h
         exact .read hx hr (ih _ _ _ (by have:=Y2 x v r;omega) h)
theorem Path8.less {l:List Ins} {r z:RunP} {vs:List UInt8} (h:Path8 l r vs z):∀ k,k < vs.length→goP l (vs.take k) r = .wants:=by
 induction h with
 | stop hx=>intro k hk;simp at hk
 | read hx hr _ ih=>
   intro k hk
   cases k with
   | zero=>rw [List.take_zero];exact DW hx hr
   | succ k=>rw [List.take_succ_cons,GE hx hr];exact ih k (by simpa using hk)
 | pass hx hr _ ih=>intro k hk;rw [GF hx hr];exact ih k hk
theorem Path8.more {l:List Ins} {r z:RunP} {vs:List UInt8} (h:Path8 l r vs z) (v:UInt8) (ws:List UInt8):goP l (vs++v :: ws) r = .many:=by
 induction h with
 | stop hx=>exact Me hx v ws
 | read hx hr _ ih=>rw [List.cons_append,GE hx hr];exact ih
 | pass hx hr _ ih=>rw [GF hx hr];exact ih
theorem Path8.rd {l:List Ins} {r z:RunP} {vs:List UInt8} (h:Path8 l r vs z):rdL (Yw z)=rdL (Yw r)++vs:=by
 induction h with
 | stop hx=>simp
 | read hx hr _ ih=>rw [ih,Xa8 hr,List.append_assoc];rfl
 | pass hx hr _ ih=>rw [ih,Xa9 hr]
theorem Path8.inv {l:List Ins} {r z:RunP} {vs:List UInt8} (hl:XH 6 l=true) (h:Path8 l r vs z):InvR l r→InvR l z:=by
 induction h with
 | stop hx=>exact id
 | read hx hr _ ih=>intro hi;exact ih (ZJ _ hi hl hx)
 | pass hx hr _ ih=>intro hi;exact ih (ZJ _ hi hl hx)
structure Done8 (l:List Ins) (reads:List UInt8) (z:RunP):Prop where
 path:Path8 l zRun reads z
 fol:X0 l reads=⟨XX z,false,0⟩
theorem Done8.of {l:List Ins} {reads:List UInt8} {z:RunP} (hl:XH 6 l=true) (h:Path8 l zRun reads z):Done8 l reads z:=⟨h,fol_doneQ hl h.go⟩
 where fol_doneQ {l:List Ins} {reads:List UInt8} {r:RunP} (hl:XH 6 l=true) (h:UE l reads = .done r):X0 l reads=⟨XX r,false,0⟩:=by rw [Zb hl h];rfl
theorem Done8.reads {l:List Ins} {reads:List UInt8} {z:RunP} (h:Done8 l reads z):Ye (X0 l reads).path.evs=reads:=by
 rw [h.fol]
 have e:=h.path.rd
 have:rdL (Yw zRun)=[]:=rfl
 rw [this,List.nil_append] at e
 exact e
theorem DZ {l:List Ins} (hl:XH 6 l=true) (reads:List UInt8):(∃ z,Done8 l reads z)∨X0 l reads=⟨ZZ,true,0⟩∨X0 l reads=⟨ZZ,false,5⟩:=by
 cases h:UE l reads with
 | wants=>exact .inr (.inl (by rw [Zb hl h];rfl))
 | many=>exact .inr (.inr (by rw [Zb hl h];rfl))
 | done z=>exact .inl ⟨z,.of hl (Xbe l.length zRun reads z (by omega) h)⟩
theorem Done8.less {l:List Ins} {reads:List UInt8} {z:RunP} (hl:XH 6 l=true) (h:Done8 l reads z) {k:Nat} (hk:k < reads.length):X0 l (reads.take k)=⟨ZZ,true,0⟩:=by
 rw [Zb hl (h.path.less k hk)];rfl
theorem Done8.more {l:List Ins} {reads:List UInt8} {z:RunP} (hl:XH 6 l=true) (h:Done8 l reads z) (v:UInt8):X0 l (reads++[v])=⟨ZZ,false,5⟩:=by
 rw [Zb hl (h.path.more v [])];rfl
theorem QG {l:List Ins} {r:RunP} (hl:XH 6 l=true) (h:InvR l r):Za (XX r)=true:=by
 have hm:r.many≤24:=by have:=h.many;have:=h.pc;have:=Z4 hl;omega
 have hp:∀ f:Nat→Nat,(∀ k,f k < 4294967296)→(XK f r.many).length≤1000000000000:=fun f hf=>by
   have:=Wh hf r.many
   have h2:4294967296 * r.many≤4294967296 * 24:=Nat.mul_le_mul_left _ hm
   omega
 simp only [Za,Bool.and_eq_true,decide_eq_true_eq]
 refine ⟨⟨⟨?_,hp _ h.sets.data⟩,hp _ h.sets.ctrl⟩,hp _ h.sets.att⟩
 show (Yw r).length≤1000000
 rw [VE];omega
theorem QH (l:List Ins) (reads:List UInt8):Za (X0 l reads).path=true:=by
 cases hl:XH 6 l with
 | false=>rw [GI hl];rfl
 | true=>
   rcases DZ hl reads with ⟨z,hz⟩ | h | h
   · rw [hz.fol];exact QG hl (hz.path.inv hl (WD l))
   · rw [h];rfl
   · rw [h];rfl
theorem Gh (p:PathP):WK p p=true:=Xao rfl (same_iff.2 fun _ _=>rfl) (by simp) (by simp) (by simp)
-- SqW
set_option maxRecDepth 100000
/-! ### Bits -/
theorem Ue (a k:Nat):(2 * a).testBit (k+1)=a.testBit k:=by rw [Nat.testBit_succ,show 2 * a / 2=a by omega]
theorem Nq (a k:Nat):(2 * a+1).testBit (k+1)=a.testBit k:=by rw [Nat.testBit_succ,show (2 * a+1) / 2=a by omega]
theorem GX (a:Nat):(2 * a).testBit 0=false:=by rw [Nat.testBit_zero];exact decide_eq_false (by omega)
theorem Bw (a:Nat):(2 * a+1).testBit 0=true:=by rw [Nat.testBit_zero];exact decide_eq_true (by omega)
theorem EF:∀ (w n:Nat),0 < n→n < 2 ^ w→n.testBit (tzF w n)=true∧(∀ k,k < tzF w n→n.testBit k=false)∧∀ k,(n &&& (n - 1)).testBit k=(n.testBit k && decide (k ≠ tzF w n))
 | 0,n,h0,h=>by simp at h;omega
 | w+1,n,h0,h=>by
   have hp:2 ^ (w+1)=2 * 2 ^ w:=by rw [Nat.pow_succ,Nat.mul_comm]
   rw [hp] at h
   unfold tzF
   split
   next ho=>
     obtain ⟨m,rfl⟩:∃ m,n=2 * m+1:=⟨n / 2,by omega⟩
     refine ⟨Bw m,fun k hk=>by omega,fun k=>?_⟩
     rw [Nat.testBit_and,show 2 * m+1 - 1=2 * m by omega]
     cases k with
     | zero=>rw [GX,Bool.and_false];simp
     | succ k=>rw [Nq,Ue,Bool.and_self];simp
   next ho=>
     obtain ⟨m,rfl⟩:∃ m,n=2 * m:=⟨n / 2,by omega⟩
     obtain ⟨i1,i2,i3⟩:=EF w m (by omega) (by omega)
     rw [show 2 * m / 2=m by omega]
     refine ⟨by rw [Ue];exact i1,fun k hk=>?_,fun k=>?_⟩
     · cases k with
       | zero=>exact GX m
       | succ k=>rw [Ue];exact i2 k (by omega)
     · rw [show 2 * m - 1=2 * (m - 1)+1 by omega,Nat.testBit_and]
       cases k with
       | zero=>rw [GX,Bool.false_and,Bool.false_and]
       | succ k=>
         rw [Ue,Nq,← Nat.testBit_and,i3 k]
         have e:decide (k ≠ tzF w m)=decide (k+1 ≠ tzF w m+1):=decide_eq_decide.2 (by omega)
         rw [e]
theorem ZK:∀ (n:Nat),n < 4294967296→(∀ k,k ∈ WM n ↔ n.testBit k=true)∧(WM n).Pairwise (· < ·):=by
 intro n
 induction n using Nat.strongRecOn with
 | _ n ih=>
   intro hn
   rcases Nat.eq_zero_or_pos n with h0 | h0
   · subst h0
     rw [Bv]
     exact ⟨fun k=>by rw [Nat.zero_testBit];simp,.nil⟩
   · have h1:=Vf n
     obtain ⟨t1,t2,t3⟩:=EF 32 n h0 hn
     obtain ⟨m1,m2⟩:=ih (n &&& (n - 1)) (by omega) (by omega)
     rw [Qt h0]
     refine ⟨fun k=>?_,List.pairwise_cons.2 ⟨fun k hk=>?_,m2⟩⟩
     · rw [List.mem_cons,m1 k,t3 k,Bool.and_eq_true,decide_eq_true_eq]
       constructor
       · rintro (rfl | h)
         · exact t1
         · exact h.1
       · intro h
         by_cases e:k=tzN n
         · exact .inl e
         · exact .inr ⟨h,e⟩
     · have hk:=(m1 k).1 hk
       rw [t3 k,Bool.and_eq_true,decide_eq_true_eq] at hk
       rcases Nat.lt_trichotomy k (tzN n) with h | h | h
       · rw [t2 k h] at hk;exact absurd hk.1 Bool.noConfusion
       · exact absurd h hk.2
       · exact h
theorem GB {f:Nat→Nat} (hf:∀ k,f k < 4294967296) {x:Pr}:∀ n,x ∈ XK f n ↔ ∃ i k,i < n∧(f i).testBit k=true∧x=Vm i k
 | 0=>by
   constructor
   · intro h;exact absurd h (List.not_mem_nil)
   · rintro ⟨i,k,h,_⟩;omega
 | n+1=>by
   unfold XK
   rw [List.mem_append,GB hf n]
   unfold Qw
   constructor
   · rintro (⟨i,k,h1,h2,h3⟩ | h)
     · exact ⟨i,k,by omega,h2,h3⟩
     · obtain ⟨k,hk,rfl⟩:=List.mem_map.1 h
       exact ⟨n,k,by omega,((ZK (f n) (hf n)).1 k).1 hk,rfl⟩
   · rintro ⟨i,k,h1,h2,rfl⟩
     by_cases e:i=n
     · subst e
       exact .inr (List.mem_map.2 ⟨k,((ZK (f i) (hf i)).1 k).2 h2,rfl⟩)
     · exact .inl ⟨i,k,by omega,h2,rfl⟩
def PrLt (a b:Pr):Prop:=a.2.toNat < b.2.toNat∨a.2=b.2∧a.1.toNat < b.1.toNat
theorem ofN {i:Nat} (h:i < 256):(UInt8.ofNat i).toNat=i:=by rw [UInt8.toNat_ofNat'];omega
theorem Gv {f:Nat→Nat} (hf:∀ k,f k < 4294967296) (hb:∀ i k,(f i).testBit k=true→k < 256):∀ n,n≤256→(XK f n).Pairwise PrLt
 | 0,_=>.nil
 | n+1,hn=>by
   unfold XK
   refine List.pairwise_append.2 ⟨Gv hf hb n (by omega),?_,fun a ha b hbm=>?_⟩
   · unfold Qw
     rw [List.pairwise_map]
     refine List.Pairwise.imp_of_mem (fun {a b} ha hb2 hab=>?_) (ZK (f n) (hf n)).2
     have h1:=hb n a (((ZK (f n) (hf n)).1 a).1 ha)
     have h2:=hb n b (((ZK (f n) (hf n)).1 b).1 hb2)
     refine .inr ⟨rfl,?_⟩
     show (UInt8.ofNat a).toNat < (UInt8.ofNat b).toNat
     rw [ofN h1,ofN h2];exact hab
   · obtain ⟨i,k,hi,_,rfl⟩:=(GB hf n).1 ha
     unfold Qw at hbm
     obtain ⟨k2,_,rfl⟩:=List.mem_map.1 hbm
     refine .inl ?_
     show (UInt8.ofNat i).toNat < (UInt8.ofNat n).toNat
     rw [ofN (by omega),ofN (by omega)];exact hi
/-! ### What the sets of a run point at -/
def Rd (r:RunP) (k:Nat):Prop:=k < r.many∧(r.ev k).kind=1
structure InvH (r:RunP):Prop where
 pos:∀ i,i < r.many→(r.ev i).pos=UInt8.ofNat i
 deps:∀ d k,(r.deps d).testBit k=true→Rd r k
 control:∀ k,r.control.testBit k=true→Rd r k
 data:∀ i,i < r.many→∀ k,(r.data i).testBit k=true→k < i∧(r.ev k).kind=1∧(r.ev i).kind=2
 ctrl:∀ i,i < r.many→∀ k,(r.ctrl i).testBit k=true→k < i∧(r.ev k).kind=1
 att:∀ i k,(r.att i).testBit k=true→i < r.many∧k < i∧(r.ev k).kind=1∧(r.ev i).kind=2∧(r.ev k).loc=(r.ev i).loc
theorem Vl {α:Type} (f:Nat→α) (j:Nat) (v:α):YO f j v j=v:=by unfold YO;rw [if_pos rfl]
theorem V0 {α:Type} {f:Nat→α} {i j:Nat} {v:α} (h:i ≠ j):YO f j v i=f i:=by unfold YO;rw [if_neg h]
theorem Dv {k:Nat} (h:(0:Nat).testBit k=true):False:=by rw [Nat.zero_testBit] at h;cases h
theorem Bz {m k:Nat} (h:(Y3 m).testBit k=true):k=m:=by
 unfold Y3 at h
 rw [Nat.testBit_two_pow] at h
 exact (of_decide_eq_true h).symm
theorem InvH.arg {r:RunP} (h:InvH r) {b:Bool} {n:UInt8} {k:Nat} (hk:(XY b n r).testBit k=true):Rd r k:=by
 unfold XY at hk
 cases b with
 | true=>exact h.deps _ _ hk
 | false=>exact (Dv hk).elim
theorem InvH.set {r:RunP} (h:InvH r) (d v:UInt8) {n:Nat} (hn:∀ k,n.testBit k=true→Rd r k):InvH (setP d v n r):=
 ⟨h.pos,fun e k hk=>by
   have hk:(YO r.deps d.toNat n e).testBit k=true:=hk
   by_cases he:e=d.toNat
   · rw [he,Vl] at hk;exact hn k hk
   · rw [V0 he] at hk;exact h.deps e k hk,h.control,h.data,h.ctrl,h.att⟩
theorem InvH.pc {r:RunP} (h:InvH r) (n:Nat):InvH (r.wPc n):=⟨h.pos,h.deps,h.control,h.data,h.ctrl,h.att⟩
theorem InvH.ctl {r:RunP} (h:InvH r) {n:Nat} (hn:∀ k,n.testBit k=true→Rd r k):InvH (r.wControl n):=⟨h.pos,h.deps,hn,h.data,h.ctrl,h.att⟩
theorem InvH.dat {r:RunP} (h:InvH r) {i n:Nat} (hn:∀ k,n.testBit k=true→k < i∧(r.ev k).kind=1∧(r.ev i).kind=2):InvH (r.wData i n):=
 ⟨h.pos,h.deps,h.control,fun j hj k hk=>by
   have hk:(YO r.data i n j).testBit k=true:=hk
   by_cases e:j=i
   · subst e;rw [Vl] at hk;exact hn k hk
   · rw [V0 e] at hk;exact h.data j hj k hk,h.ctrl,h.att⟩
theorem InvH.ctr {r:RunP} (h:InvH r) {i n:Nat} (hn:∀ k,n.testBit k=true→k < i∧(r.ev k).kind=1):InvH (r.wCtrl i n):=
 ⟨h.pos,h.deps,h.control,h.data,fun j hj k hk=>by
   have hk:(YO r.ctrl i n j).testBit k=true:=hk
   by_cases e:j=i
   · subst e;rw [Vl] at hk;exact hn k hk
   · rw [V0 e] at hk;exact h.ctrl j hj k hk,h.att⟩
theorem InvH.emit {r:RunP} (h:InvH r) (kind loc val mode:UInt8) {n:Nat} (hn:∀ k,n.testBit k=true→Rd r k∧kind=2):InvH (Yy kind loc val mode n r):=by
 have hev:∀ k,k < r.many→(Yy kind loc val mode n r).ev k=r.ev k:=fun k hk=>V0 (by omega)
 have hem:(Yy kind loc val mode n r).ev r.many=⟨kind,loc,val,mode,UInt8.ofNat r.pc,UInt8.ofNat r.many⟩:=Vl _ _ _
 have hrd:∀ k,Rd r k→Rd (Yy kind loc val mode n r) k:=fun k hk=>⟨Nat.lt_succ_of_lt hk.1,by rw [hev k hk.1];exact hk.2⟩
 refine ⟨fun i hi=>?_,fun d k hk=>hrd k (h.deps d k hk),fun k hk=>hrd k (h.control k hk),fun i hi k hk=>?_,fun i hi k hk=>?_,fun i k hk=>?_⟩
 · have hi:i < r.many+1:=hi
   by_cases e:i=r.many
   · rw [e,hem]
   · rw [hev i (by omega)];exact h.pos i (by omega)
 · have hi:i < r.many+1:=hi
   have hk:(YO r.data r.many n i).testBit k=true:=hk
   by_cases e:i=r.many
   · subst e
     rw [Vl] at hk
     obtain ⟨h1,h2⟩:=hn k hk
     rw [hev k h1.1,hem]
     exact ⟨h1.1,h1.2,h2⟩
   · rw [V0 e] at hk
     obtain ⟨h1,h2,h3⟩:=h.data i (by omega) k hk
     rw [hev k (by omega),hev i (by omega)]
     exact ⟨h1,h2,h3⟩
 · have hi:i < r.many+1:=hi
   have hk:(YO r.ctrl r.many r.control i).testBit k=true:=hk
   by_cases e:i=r.many
   · subst e
     rw [Vl] at hk
     have h1:=h.control k hk
     rw [hev k h1.1]
     exact ⟨h1.1,h1.2⟩
   · rw [V0 e] at hk
     obtain ⟨h1,h2⟩:=h.ctrl i (by omega) k hk
     rw [hev k (by omega)]
     exact ⟨h1,h2⟩
 · obtain ⟨h1,h2,h3⟩:=h.att i k hk
   rw [hev k (by omega),hev i h1]
   exact ⟨Nat.lt_succ_of_lt h1,h2,h3⟩
theorem InvH.exch {r:RunP} (h:InvH r) (x:Ins) (old val:UInt8) {n:Nat} (hn:∀ k,n.testBit k=true→Rd r k):InvH (Zu x old val n r):=by
 have h1:=h.emit 1 x.loc old 3 (n:=0) fun k hk=>(Dv hk).elim
 have e1:(Yy 1 x.loc old 3 0 r).ev r.many=⟨1,x.loc,old,3,UInt8.ofNat r.pc,UInt8.ofNat r.many⟩:=Vl _ _ _
 have hrd:∀ k,Rd r k→Rd (Yy 1 x.loc old 3 0 r) k:=fun k hk=>⟨Nat.lt_succ_of_lt hk.1,by rw [show (Yy 1 x.loc old 3 0 r).ev k=r.ev k from V0 (by have:=hk.1;omega)];exact hk.2⟩
 have h2:=h1.emit 2 x.loc val 3 (n:=n) fun k hk=>⟨hrd k (hn k hk),rfl⟩
 have e2:(Yy 2 x.loc val 3 n (Yy 1 x.loc old 3 0 r)).ev r.many=⟨1,x.loc,old,3,UInt8.ofNat r.pc,UInt8.ofNat r.many⟩:=(V0 (show r.many ≠ r.many+1 by omega)).trans e1
 have e3:(Yy 2 x.loc val 3 n (Yy 1 x.loc old 3 0 r)).ev (r.many+1)=⟨2,x.loc,val,3,UInt8.ofNat r.pc,UInt8.ofNat (r.many+1)⟩:=Vl _ _ _
 have h3:InvH ((Yy 2 x.loc val 3 n (Yy 1 x.loc old 3 0 r)).wAtt (r.many+1) (Y3 r.many)):=⟨h2.pos,h2.deps,h2.control,h2.data,h2.ctrl,fun i k hk=>by
   have hk:(YO (Yy 2 x.loc val 3 n (Yy 1 x.loc old 3 0 r)).att (r.many+1) (Y3 r.many) i).testBit k=true:=hk
   show i < r.many+1+1∧_
   by_cases e:i=r.many+1
   · subst e
     rw [Vl] at hk
     obtain rfl:=Bz hk
     refine ⟨by omega,by omega,?_⟩
     show ((Yy 2 x.loc val 3 n (Yy 1 x.loc old 3 0 r)).ev r.many).kind=1∧((Yy 2 x.loc val 3 n (Yy 1 x.loc old 3 0 r)).ev (r.many+1)).kind=2∧((Yy 2 x.loc val 3 n (Yy 1 x.loc old 3 0 r)).ev r.many).loc=((Yy 2 x.loc val 3 n (Yy 1 x.loc old 3 0 r)).ev (r.many+1)).loc
     rw [e2,e3]
     exact ⟨rfl,rfl,rfl⟩
   · rw [V0 e] at hk
     exact h2.att i k hk⟩
 refine h3.set _ _ fun k hk=>?_
 obtain rfl:=Bz hk
 refine ⟨show r.many < r.many+1+1 by omega,?_⟩
 show ((Yy 2 x.loc val 3 n (Yy 1 x.loc old 3 0 r)).ev r.many).kind=1
 rw [e2]
theorem InvH.load {r:RunP} (h:InvH r) (d loc v mode:UInt8):InvH (setP d v (Y3 r.many) (Yy 1 loc v mode 0 r)):=by
 refine (h.emit 1 loc v mode (n:=0) fun k hk=>(Dv hk).elim).set _ _ fun k hk=>?_
 obtain rfl:=Bz hk
 refine ⟨Nat.lt_succ_self _,?_⟩
 rw [show (Yy 1 loc v mode 0 r).ev r.many=⟨1,loc,v,mode,UInt8.ofNat r.pc,UInt8.ofNat r.many⟩ from Vl _ _ _]
structure PairOk (j:Nat) (evs:List Ev) (x:Pr):Prop where
 hi:x.2.toNat < evs.length
 lt:x.1.toNat < x.2.toNat
 rd:∀ e,evs[x.1.toNat]? = some e→e.kind=1
 wr:j ≠ 1→∀ e,evs[x.2.toNat]? = some e→e.kind=2
 lc:j=2→∀ e e',evs[x.1.toNat]? = some e→evs[x.2.toNat]? = some e'→e.loc=e'.loc
theorem Lg {r:RunP} {i:Nat} {e:Ev} (h:(Yw r)[i]? = some e):i < r.many∧e=r.ev i:=by
 unfold Yw at h
 rw [List.getElem?_map] at h
 rcases Nat.lt_or_ge i r.many with hi | hi
 · rw [List.getElem?_range hi] at h
   exact ⟨hi,(Option.some.inj h).symm⟩
 · rw [List.getElem?_eq_none (by rw [List.length_range];exact hi)] at h;cases h
structure PairsOk (j:Nat) (evs:List Ev) (l:List Pr):Prop where
 mem:∀ x ∈ l,PairOk j evs x
 ord:l.Pairwise PrLt
theorem JX {r:RunP} {f:Nat→Nat} {j:Nat} (hm:r.many≤24) (hf:∀ k,f k < 4294967296) (h:∀ i,i < r.many→∀ k,(f i).testBit k=true→k < i∧(r.ev k).kind=1∧(j ≠ 1→(r.ev i).kind=2)∧(j=2→(r.ev k).loc=(r.ev i).loc)):PairsOk j (Yw r) (XK f r.many):=by
 refine ⟨fun x hx=>?_,Gv hf (fun i k hk=>?_) _ (by omega)⟩
 · obtain ⟨i,k,hi,hk,rfl⟩:=(GB hf _).1 hx
   obtain ⟨h1,h2,h3,h4⟩:=h i hi k hk
   have e1:(Vm i k).1.toNat=k:=ofN (by omega)
   have e2:(Vm i k).2.toNat=i:=ofN (by omega)
   refine ⟨by rw [e2,VE];exact hi,by rw [e1,e2];exact h1,fun e he=>?_,fun hj e he=>?_,fun hj e e' he he'=>?_⟩
   · rw [e1] at he;rw [(Lg he).2];exact h2
   · rw [e2] at he;rw [(Lg he).2];exact h3 hj
   · rw [e1] at he;rw [e2] at he';rw [(Lg he).2,(Lg he').2];exact h4 hj
 · rcases Nat.lt_or_ge k 256 with h | h
   · exact h
   · have:(f i).testBit k=false:=Nat.testBit_lt_two_pow (Nat.lt_of_lt_of_le (hf i) (show 2 ^ 32≤2 ^ k from Nat.pow_le_pow_right (by decide) (by omega)))
     rw [this] at hk;cases hk
theorem InvH.pairs {r:RunP} (h:InvH r) (hm:r.many≤24) (hs:SetsOk r):PairsOk 0 (XX r).evs (XX r).data∧PairsOk 1 (XX r).evs (XX r).ctrl∧PairsOk 2 (XX r).evs (XX r).rmw:=by
 refine ⟨JX hm hs.data fun i hi k hk=>?_,JX hm hs.ctrl fun i hi k hk=>?_,JX hm hs.att fun i hi k hk=>?_⟩
 · obtain ⟨h1,h2,h3⟩:=h.data i hi k hk
   exact ⟨h1,h2,fun _=>h3,fun e=>by cases e⟩
 · obtain ⟨h1,h2⟩:=h.ctrl i hi k hk
   exact ⟨h1,h2,fun e=>absurd rfl e,fun e=>by cases e⟩
 · obtain ⟨_,h1,h2,h3,h4⟩:=h.att i k hk
   exact ⟨h1,h2,fun _=>h3,fun _=>h4⟩
theorem PairsOk.at {j:Nat} {evs:List Ev} {l:List Pr} (h:PairsOk j evs l) {i:Nat} {x:Pr} (hx:l[i]? = some x):PairOk j evs x:=h.mem x (List.mem_of_getElem? hx)
theorem PairsOk.next {j:Nat} {evs:List Ev} {l:List Pr} (h:PairsOk j evs l) {i:Nat} {a b:Pr} (ha:l[i - 1]? = some a) (hb:l[i]? = some b) (hi:0 < i):PrLt a b:=by
 obtain ⟨h1,rfl⟩:=List.getElem?_eq_some_iff.1 ha
 obtain ⟨h2,rfl⟩:=List.getElem?_eq_some_iff.1 hb
 exact List.pairwise_iff_getElem.1 h.ord _ _ h1 h2 (by omega)
-- TrQ
open Go.RowKit
set_option maxRecDepth 100000
def TreeIn (S:Nat→Prop) (w:World):Nat→List Value→Cnd→Prop
 | 0,_,_=>False
 | h+1,cs,.mk k t n v kids=>∃ A C,cs=[b8 k,b8 t,b8 n,b8 v,.slice A kids.length C]∧kids.length≤9223372036854775807 ∧
     ∀ j kid,kids[j]? = some kid→∃ b off cs',A=some ⟨b,off,none⟩∧S b∧w.rangeAt b (off+j * 5) cs'∧TreeIn S w h cs' kid
theorem TreeIn.at {S:Nat→Prop} {w:World}:∀ {h:Nat} {cs:List Value} {c:Cnd},TreeIn S w h cs c→CondAt w h cs c
 | 0,_,_,hc=>hc
 | h+1,cs,.mk k t n v kids,⟨A,C,h1,h2,h3⟩=>⟨A,C,h1,h2,fun j kid hj=>by
   obtain ⟨b,off,cs',h4,_,h6,h7⟩:=h3 j kid hj
   exact ⟨b,off,cs',h4,h6,h7.at⟩⟩
theorem Uw {w w':World} {b o:Nat} {cs:List Value} (h:w'.heap[b]? = w.heap[b]?) (hr:w.rangeAt b o cs):w'.rangeAt b o cs:=fun k v hk=>by
 have:=hr k v hk
 unfold World.cell? at this ⊢
 simp only [h]
 exact this
theorem TreeIn.loc {S T:Nat→Prop} {w w':World} (hs:∀ b,S b→w'.heap[b]? = w.heap[b]?) (hT:∀ b,S b→T b):∀ {h:Nat} {cs:List Value} {c:Cnd},TreeIn S w h cs c→TreeIn T w' h cs c
 | 0,_,_,hc=>hc
 | h+1,cs,.mk k t n v kids,⟨A,C,h1,h2,h3⟩=>⟨A,C,h1,h2,fun j kid hj=>by
   obtain ⟨b,off,cs',h4,h5,h6,h7⟩:=h3 j kid hj
   exact ⟨b,off,cs',h4,hT b h5,Uw (hs b h5) h6,h7.loc hs hT⟩⟩
def Res.tree (S:Nat→Prop) (h:Nat) (cs:List Value) (c:Cnd):Res:=⟨S,fun w=>TreeIn S w h cs c,fun _ _ hb hp=>hp.loc hb (fun _ h=>h)⟩
theorem TreeIn.deeper {S:Nat→Prop} {w:World}:∀ {h:Nat} (m:Nat) {cs:List Value} {c:Cnd},TreeIn S w h cs c→TreeIn S w (h+m) cs c
 | 0,_,_,_,hc=>hc.elim
 | h+1,m,cs,.mk k t n v kids,⟨A,C,h1,h2,h3⟩=>by
   rw [show h+1+m=(h+m)+1 by omega]
   exact ⟨A,C,h1,h2,fun j kid hj=>by
     obtain ⟨b,off,cs',h4,h5,h6,h7⟩:=h3 j kid hj
     exact ⟨b,off,cs',h4,h5,h6,h7.deeper m⟩⟩
theorem Own.deeper {w0 w:World} {row:Option Nat} {S:Nat→Prop} {h:Nat} {cs:List Value} {c:Cnd} {rs:List Res} (m:Nat) (H:Own w0 row w (.tree S h cs c :: rs)):Own w0 row w (.tree S (h+m) cs c :: rs):=
 H.seen (.tree S (h+m) cs c) ((H.pred 0 _ rfl:TreeIn S w h cs c).deeper m) (fun _ hb=>hb)
def Res.held (S:Nat→Prop) (A:Option Addr) (sz:Nat) (rows:List (List Value)):Res:=
 ⟨S,fun w=>∀ (j:Nat) (cs:List Value),rows[j]? = some cs→∃ b off,A=some ⟨b,off,none⟩∧S b∧w.rangeAt b (off+j * sz) cs,fun _ _ hb hp j cs h=>by
   obtain ⟨b,off,h1,h2,h3⟩:=hp j cs h
   exact ⟨b,off,h1,h2,Uw (hb b h2) h3⟩⟩
theorem Own.held {w0 w:World} {row:Option Nat} {S:Nat→Prop} {A:Option Addr} {sz:Nat} {rows:List (List Value)} {rs:List Res} (H:Own w0 row w rs) (i:Nat) (hi:rs[i]? = some (.held S A sz rows)):RowsAt w A sz rows:=fun j cs h=>by
 obtain ⟨b,off,h1,_,h3⟩:=(H.pred i _ hi:∀ (j:Nat) (cs:List Value),rows[j]? = some cs→∃ b off,A=some ⟨b,off,.none⟩∧S b∧w.rangeAt b (off+j * sz) cs) j cs h
 exact ⟨b,off,h1,h3⟩
-- ReA
open Go.Proofs.Tryz
open Go.RowKit
set_option maxRecDepth 100000
abbrev Sl:=Option Addr × Nat × List (List Value)
def InL (L:List Sl) (s:Sl):Prop:=s ∈ L∨s.2.2=[]
def MemL (w:World) (L:List Sl):Prop:=∀ x ∈ L,RowsAt w x.1 x.2.1 x.2.2
theorem MemL.at {w:World} {L:List Sl} (h:MemL w L) {s:Sl} (hs:InL L s):RowsAt w s.1 s.2.1 s.2.2:=by
 rcases hs with hs | hs
 · exact h s hs
 · intro j cs hj
   rw [hs] at hj;cases hj
theorem MemL.own {w0 w:World} {L:List Sl} {rs:List Res} (h:MemL w0 L) (H:Own w0 none w rs):MemL w L:=fun x hx=>RowsAt.own (h x hx) H
theorem MemL.app {w:World} {L K:List Sl} (h:MemL w L) (hk:MemL w K):MemL w (L++K):=fun x hx=>(List.mem_append.1 hx).elim (h x) (hk x)
theorem InL.left {L K:List Sl} {s:Sl} (h:InL L s):InL (L++K) s:=h.imp_left fun h=>List.mem_append_left _ h
theorem InL.right {L K:List Sl} {s:Sl} (h:InL L s):InL (K++L) s:=h.imp_left fun h=>List.mem_append_right _ h
theorem InL.head {L:List Sl} {s:Sl}:InL (s :: L) s:=.inl List.mem_cons_self
theorem InL.tail {L:List Sl} {s x:Sl} (h:InL L s):InL (x :: L) s:=h.imp_left fun h=>List.mem_cons_of_mem _ h
theorem InL.swap {L K M:List Sl} {s:Sl} (h:InL (K++(L++M)) s):InL ((K++L)++M) s:=by rw [List.append_assoc];exact h
def Res.mem (S:Nat→Prop) (L:List Sl):Res:=
 ⟨S,fun w=>∀ x ∈ L,∀ (j:Nat) (cs:List Value),x.2.2[j]? = some cs→∃ b off,x.1=some ⟨b,off,none⟩∧S b∧w.rangeAt b (off+j * x.2.1) cs,fun _ _ hb hp x hx j cs h=>by
   obtain ⟨b,off,h1,h2,h3⟩:=hp x hx j cs h
   exact ⟨b,off,h1,h2,Uw (hb b h2) h3⟩⟩
theorem Own.memAt {w0 w:World} {row:Option Nat} {S:Nat→Prop} {L:List Sl} {rs:List Res} (H:Own w0 row w rs) (i:Nat) (hi:rs[i]? = some (.mem S L)):MemL w L:=fun x hx j cs h=>by
 obtain ⟨b,off,h1,_,h3⟩:=(H.pred i _ hi:∀ x ∈ L,∀ (j:Nat) (cs:List Value),x.2.2[j]? = some cs→∃ b off,x.1=some ⟨b,off,.none⟩∧S b∧w.rangeAt b (off+j * x.2.1) cs) x hx j cs h
 exact ⟨b,off,h1,h3⟩
theorem Own.memFuse {w0 w:World} {row:Option Nat} {S T:Nat→Prop} {L K:List Sl} {rs:List Res} (H:Own w0 row w (.mem S L :: .mem T K :: rs)):Own w0 row w (.mem (fun b=>S b∨T b) (L++K) :: rs):=by
 have h1:∀ x ∈ L,∀ (j:Nat) (cs:List Value),x.2.2[j]? = some cs→∃ b off,x.1=some ⟨b,off,.none⟩∧S b∧w.rangeAt b (off+j * x.2.1) cs:=H.pred 0 _ rfl
 have h2:∀ x ∈ K,∀ (j:Nat) (cs:List Value),x.2.2[j]? = some cs→∃ b off,x.1=some ⟨b,off,.none⟩∧T b∧w.rangeAt b (off+j * x.2.1) cs:=H.pred 1 _ rfl
 refine H.fuse (.mem (fun b=>S b∨T b) (L++K)) (fun x hx j cs h=>?_) (fun b hb=>hb)
 rcases List.mem_append.1 hx with hx | hx
 · obtain ⟨b,off,a1,a2,a3⟩:=h1 x hx j cs h
   exact ⟨b,off,a1,.inl a2,a3⟩
 · obtain ⟨b,off,a1,a2,a3⟩:=h2 x hx j cs h
   exact ⟨b,off,a1,.inr a2,a3⟩
theorem Own.memNil {w0 w:World} {row:Option Nat} {rs:List Res} (H:Own w0 row w rs):Own w0 row w (.mem (fun _=>False) [] :: rs):=
 H.void (.mem (fun _=>False) []) (fun x hx=>by cases hx) (fun b hb=>hb)
theorem Own.toMem {w0 w:World} {row:Option Nat} {e:TypeId} {n c sz:Nat} {A:Option Addr} {rows:List (List Value)} {rs:List Res} (H:Own w0 row w (.rws e sz (.slice A n c) rows :: rs)) (hr:∀ r ∈ rows,r.length=sz) (hsz:0 < sz) :
   Own w0 row w (.mem (fun b=>(Value.slice A n c).ownBlock=some b) [(A,sz,rows)] :: rs):=by
 have h:=H.rowsAt 0 rfl hr hsz
 refine H.seen (.mem (fun b=>(Value.slice A n c).ownBlock=some b) [(A,sz,rows)]) (fun x hx j cs hj=>?_) (fun b hb=>hb)
 rw [List.mem_singleton.1 hx] at hj ⊢
 obtain ⟨b,off,h1,h2⟩:=h j cs hj
 exact ⟨b,off,h1,by rw [show A=some ⟨b,off,.none⟩ from h1];rfl,h2⟩
/-! ### Sets as lists -/
def XR (n:Nat):List UInt8:=(WM n).map UInt8.ofNat
theorem La:∀ {l q:List Nat},l.Pairwise (· < ·)→q.Pairwise (· < ·)→(∀ k,k ∈ l ↔ k ∈ q)→l=q
 | [],[],_,_,_=>rfl
 | [],b :: q,_,_,h=>by have:=(h b).2 (by simp);cases this
 | a :: r,[],_,_,h=>by have:=(h a).1 (by simp);cases this
 | a :: r,b :: q,hl,hq,h=>by
   obtain ⟨h1,h2⟩:=List.pairwise_cons.1 hl
   obtain ⟨h3,h4⟩:=List.pairwise_cons.1 hq
   have ab:a=b:=by
     rcases List.mem_cons.1 ((h a).1 (by simp)) with e | e
     · exact e
     · rcases List.mem_cons.1 ((h b).2 (by simp)) with e2 | e2
       · exact e2.symm
       · have:=h3 a e;have:=h1 b e2;omega
   subst ab
   rw [La h2 h4 fun k=>by
     have:=h k
     rw [List.mem_cons,List.mem_cons] at this
     constructor
     · intro hk
       rcases this.1 (.inr hk) with e | e
       · have:=h1 k hk;omega
       · exact e
     · intro hk
       rcases this.2 (.inr hk) with e | e
       · have:=h3 k hk;omega
       · exact e]
def G2 (a b:List UInt8) (n:Nat):List UInt8:=((List.range n).filter fun k=>a.any (fun z=>z.toNat == k) || b.any (fun z=>z.toNat == k)).map UInt8.ofNat
theorem tog_T {a b:List UInt8} {n:Nat} (h:(a.any (fun z=>z.toNat == n) || b.any (fun z=>z.toNat == n))=true):G2 a b (n+1)=G2 a b n++[UInt8.ofNat n]:=by
 unfold G2
 rw [List.range_succ,List.filter_append,List.filter_cons_of_pos (by exact h),List.map_append];rfl
theorem tog_F {a b:List UInt8} {n:Nat} (h:(a.any (fun z=>z.toNat == n) || b.any (fun z=>z.toNat == n))=false):G2 a b (n+1)=G2 a b n:=by
 unfold G2
 rw [List.range_succ,List.filter_append,List.filter_cons_of_neg (by rw [h];decide),List.map_append]
 simp
theorem XaS (a b:List UInt8) (n:Nat):(G2 a b n).length≤n:=by
 unfold G2
 rw [List.length_map]
 exact Nat.le_trans (List.length_filter_le _ _) (by rw [List.length_range];exact Nat.le_refl _)
theorem Uf {n k:Nat} (h:n < 4294967296) (hk:n.testBit k=true):k < 32:=by
 rcases Nat.lt_or_ge k 32 with h1 | h1
 · exact h1
 · have h2:(2:Nat) ^ 32≤2 ^ k:=Nat.pow_le_pow_right (by decide) h1
   rw [Nat.testBit_lt_two_pow (Nat.lt_of_lt_of_le h (by simpa using h2))] at hk
   cases hk
theorem Np {n k:Nat} (h:n < 4294967296):(XR n).any (fun z=>z.toNat == k)=n.testBit k:=by
 have hm:=(ZK n h).1
 rw [Bool.eq_iff_iff,List.any_eq_true]
 constructor
 · rintro ⟨z,hz,he⟩
   obtain ⟨i,hi,rfl⟩:=List.mem_map.1 hz
   have h1:=(hm i).1 hi
   have h2:=Uf h h1
   have he:=beq_iff_eq.1 he
   rw [UInt8.toNat_ofNat'] at he
   have:i=k:=by omega
   rw [← this];exact h1
 · intro hk
   have h2:=Uf h hk
   refine ⟨UInt8.ofNat k,List.mem_map.2 ⟨k,(hm k).2 hk,rfl⟩,?_⟩
   rw [beq_iff_eq,UInt8.toNat_ofNat'];omega
theorem JY {a b:Nat} (ha:a < 4294967296) (hb:b < 4294967296):a ||| b < 4294967296:=Nat.or_lt_two_pow (n:=32) ha hb
theorem Z0 {x y:Nat} (hx:x < 4294967296) (hy:y < 4294967296):G2 (XR x) (XR y) 64=XR (x ||| y):=by
 have h:=JY hx hy
 obtain ⟨h1,h2⟩:=ZK _ h
 unfold G2
 conv=>rhs;unfold XR
 refine congrArg (List.map UInt8.ofNat) (La (List.Pairwise.filter _ List.pairwise_lt_range) h2 fun k=>?_);rw [List.mem_filter,List.mem_range,Np hx,Np hy,h1 k,Nat.testBit_or]
 refine ⟨fun q=>q.2,fun q=>⟨?_,q⟩⟩
 have:=Uf h (by rw [Nat.testBit_or];exact q)
 omega
theorem Lt {a:List UInt8} {j n:Nat} {z:UInt8} (h:a[j]? = some z):(a.take (j+1)).any (fun z=>z.toNat == n)=((a.take j).any (fun z=>z.toNat == n) || z.toNat == n):=by
 rw [List.take_add_one,h,List.any_append];simp
theorem orT {x f g:Bool} (h:x=(f || g)) (hf:f=true):true=x:=by rw [h,hf];rfl
theorem orF {x f:Bool} {i n:Nat} (h:x=(f || i == n)) (hf:f=false):((i:Int) == (n:Int))=x:=by
 rw [h,hf,Bool.false_or,Bool.eq_iff_iff,beq_iff_eq,beq_iff_eq]
 omega
set_option maxHeartbeats 2000000 in
theorem YN (A:Option Addr) (C:Nat) (ls:List UInt8) (B:Option Addr) (D:Nat) (qs:List UInt8) (w0:World) (hA:RowsAt w0 A 1 (XN ls)) (hB:RowsAt w0 B 1 (XN qs)) (ha:ls.length≤1000) (hb:qs.length≤1000) :
   Calls Tryz.prog 61 #[.slice A ls.length C,.slice B qs.length D] w0 fun e w'=>∃ A2 c2,e = .returned (.slice A2 (G2 ls qs 64).length c2)∧Own w0 none w' [.rws 5 1 (.slice A2 (G2 ls qs 64).length c2) (XN (G2 ls qs 64))]:=by
 have H:=Own.start w0 none
 refine XE func61 rfl ntmps61 rfl (fun a F=>?_);refine cSR fun K1 hK1=>Xa F rfl (qNK hK1 (qSR fun K2 hK2=>Xh rfl ?_));clear hK1;clear F a;intro a F
 replace H:=H.nilRws 5 1
 refine nK hK2 ?_;clear hK2;refine cSeq (fun K3 hK3=>?_);refine cSR fun K4 hK4=>Xa F rfl (qNK hK4 ?_);clear hK4;clear F a;intro a F;refine wp_block ?_
 refine cLoopS [0,1] (fun m ups w=>∃ (n:Nat) (A5:Option Addr) (c5:Nat),m=64 - n∧ups=[(5,.slice A5 (G2 ls qs n).length c5),(6,.int .i64 ((n:Nat):Int))]∧n≤64∧Own w0 none w [.rws 5 1 (.slice A5 (G2 ls qs n).length c5) (XN (G2 ls qs n))]) F (64) [(5,.slice none 0 0),(6,.int .i64 ((0:Nat):Int))] ?_ ?_
 · exact ⟨0,none,0,rfl,rfl,Nat.zero_le _,H.sel [0] rfl rfl⟩
 clear F
 clear H
 intro m ups a w hI F
 obtain ⟨n,A5,c5,rfl,rfl,hn,H⟩:=hI
 refine cSeq (fun K5 hK5=>?_);refine cSR fun K6 hK6=>Xl F rfl (Xj rfl rfl YW (qNK hK6 ?_));clear hK6;clear F a;intro a F
 refine cIf F rfl (fun h11=>?_) (fun h11=>?_)
 ·
  replace h11:=of_decide_eq_true h11;refine wp_skip (hK5 _ _ ?_);clear hK5;refine cSeq (fun K7 hK7=>?_);refine wp_block ?_;refine cSR fun K8 hK8=>Xa F rfl (qNK hK8 ?_);clear hK8;clear F a;intro a F;refine cSeq (fun K9 hK9=>?_);refine cSR fun K10 hK10=>Xa F rfl (qNK hK10 ?_);clear hK10;clear F a;intro a F;refine wp_block ?_
  refine cLoopS [0,1,5,6] (fun m ups w=>∃ (j:Nat) (f:Bool),m=ls.length - j∧ups=[(7,.bool f),(8,.int .i64 ((j:Nat):Int))]∧j≤ls.length∧f=(ls.take j).any (fun z=>z.toNat == n)∧Own w0 none w [.rws 5 1 (.slice A5 (G2 ls qs n).length c5) (XN (G2 ls qs n))]) F (ls.length) [(7,.bool false),(8,.int .i64 ((0:Nat):Int))] ?_ ?_
  · exact ⟨0,false,rfl,rfl,Nat.zero_le _,rfl,H.sel [0] rfl rfl⟩
  clear F
  clear H
  intro m ups a w hI F
  obtain ⟨j,f,rfl,rfl,hj,hf,H⟩:=hI
  refine cSeq (fun K11 hK11=>?_);refine cSR fun K12 hK12=>Xl F rfl (Xd rfl (Xs underlying23 rfl (Xj rfl rfl YW (qNK hK12 ?_))));clear hK12;clear F a;intro a F
  refine cIf F rfl (fun h17=>?_) (fun h17=>?_)
  ·
   replace h17:=of_decide_eq_true h17
   have hjl:j < ls.length:=by omega
   obtain ⟨z,hz⟩:∃ z,ls[j]? = some z:=⟨_,List.getElem?_eq_getElem hjl⟩
   obtain ⟨bA,oA,rfl,hAx⟩:=hA j [Go.Proofs.YtagnefpgidbhnaaGreatDoor.b8 z] (by rw [List.getElem?_map,hz];rfl)
   have hst:=Lt (n:=n) hz
   rw [← hf] at hst;refine wp_skip (hK11 _ _ ?_);clear hK11;refine cSeq (fun K13 hK13=>?_);refine wp_block ?_;refine cReg (Xl F rfl (Xd rfl ?_));clear F a;intro a F
   refine F.split 21 rfl ?_ ?_ <;> (clear F;intro h21 F)
   ·
    refine Xe F (Xf (Xf (Xf (Xf (Xf (Xf (Xg rfl rfl (Xh rfl (qNK hK13 (WN (Xd rfl ?_)))))))))));clear hK13;clear F a;intro a F
    refine Xm F rfl rfl (XJ (j:=1) ?_) ?_
    focus omega
    clear F a;intro a F;refine Xa F rfl ?_;clear F a;intro a F;refine sNil ?_
    exact ⟨_,by omega,_,⟨j+1,true,rfl,rfl,hjl,orT hst h21,H.sel [0] rfl rfl⟩,F.tt⟩
   refine Xl F rfl (Xd rfl ?_);clear F a;intro a F
   refine sIx underlying23 sizeOf5 F rfl rfl rfl rfl ?_ ?_
   focus exact hjl
   clear F a;intro a F;refine sLd isAgg5 F rfl rfl rfl (by have:=H.arg (hAx 0 _ rfl);simpa using this) (qCv underlying5 underlying3 rfl rfl rfl (ZT _) (Xd rfl (Xj rfl rfl ZQ (Xg rfl rfl (Xh rfl (qNK hK13 (WN (Xd rfl ?_))))))));clear hK13;clear F a;intro a F
   refine Xm F rfl rfl (XJ (j:=1) ?_) ?_
   focus omega
   clear F a;intro a F;refine Xa F rfl ?_;clear F a;intro a F;refine sNil ?_
   exact ⟨_,by omega,_,⟨j+1,_,rfl,rfl,hjl,orF hst h21,H.sel [0] rfl rfl⟩,F.tt⟩
  replace h17:=of_decide_eq_false h17
  obtain rfl:j=ls.length:=by omega
  rw [List.take_length] at hf;refine wp_exit ?_;refine hK9 _ _ ?_;clear hK9;refine cSeq (fun K14 hK14=>?_);refine cSR fun K15 hK15=>Xa F rfl (qNK hK15 ?_);clear hK15;clear F a;intro a F;refine wp_block ?_
  refine cLoopS [0,1,5,6] (fun m ups w=>∃ (j:Nat) (f:Bool),m=qs.length - j∧ups=[(7,.bool f),(9,.int .i64 ((j:Nat):Int))]∧j≤qs.length∧f=(ls.any (fun z=>z.toNat == n) || (qs.take j).any (fun z=>z.toNat == n))∧Own w0 none w [.rws 5 1 (.slice A5 (G2 ls qs n).length c5) (XN (G2 ls qs n))]) F (qs.length) [(7,.bool f),(9,.int .i64 ((0:Nat):Int))] ?_ ?_
  · exact ⟨0,f,rfl,rfl,Nat.zero_le _,(by rw [hf];simp),H.sel [0] rfl rfl⟩
  clear F
  clear H
  intro m ups a w hI F
  clear hf;obtain ⟨j,f,rfl,rfl,hj,hf,H⟩:=hI
  refine cSeq (fun K16 hK16=>?_);refine cSR fun K17 hK17=>Xl F rfl (Xd rfl (Xs underlying23 rfl (Xj rfl rfl YW (qNK hK17 ?_))));clear hK17;clear F a;intro a F
  refine cIf F rfl (fun h33=>?_) (fun h33=>?_)
  ·
   replace h33:=of_decide_eq_true h33
   have hjl:j < qs.length:=by omega
   obtain ⟨z,hz⟩:∃ z,qs[j]? = some z:=⟨_,List.getElem?_eq_getElem hjl⟩
   obtain ⟨bA,oA,rfl,hAx⟩:=hB j [Go.Proofs.YtagnefpgidbhnaaGreatDoor.b8 z] (by rw [List.getElem?_map,hz];rfl)
   have hst:=Lt (n:=n) hz
   have hst2:(ls.any (fun z=>z.toNat == n) || (qs.take (j+1)).any (fun z=>z.toNat == n))=(f || z.toNat == n):=by rw [hst,hf,Bool.or_assoc]
   refine wp_skip (hK16 _ _ ?_);clear hK16;refine cSeq (fun K18 hK18=>?_);refine wp_block ?_;refine cReg (Xl F rfl (Xd rfl ?_));clear F a;intro a F
   refine F.split 37 rfl ?_ ?_ <;> (clear F;intro h37 F)
   ·
    refine Xe F (Xf (Xf (Xf (Xf (Xf (Xf (Xg rfl rfl (Xh rfl (qNK hK18 (WN (Xd rfl ?_)))))))))));clear hK18;clear F a;intro a F
    refine Xm F rfl rfl (XJ (j:=1) ?_) ?_
    focus omega
    clear F a;intro a F;refine Xa F rfl ?_;clear F a;intro a F;refine sNil ?_
    exact ⟨_,by omega,_,⟨j+1,true,rfl,rfl,hjl,orT hst2 h37,H.sel [0] rfl rfl⟩,F.tt⟩
   refine Xl F rfl (Xd rfl ?_);clear F a;intro a F
   refine sIx underlying23 sizeOf5 F rfl rfl rfl rfl ?_ ?_
   focus exact hjl
   clear F a;intro a F;refine sLd isAgg5 F rfl rfl rfl (by have:=H.arg (hAx 0 _ rfl);simpa using this) (qCv underlying5 underlying3 rfl rfl rfl (ZT _) (Xd rfl (Xj rfl rfl ZQ (Xg rfl rfl (Xh rfl (qNK hK18 (WN (Xd rfl ?_))))))));clear hK18;clear F a;intro a F
   refine Xm F rfl rfl (XJ (j:=1) ?_) ?_
   focus omega
   clear F a;intro a F;refine Xa F rfl ?_;clear F a;intro a F;refine sNil ?_
   exact ⟨_,by omega,_,⟨j+1,_,rfl,rfl,hjl,orF hst2 h37,H.sel [0] rfl rfl⟩,F.tt⟩
  replace h33:=of_decide_eq_false h33
  obtain rfl:j=qs.length:=by omega
  rw [List.take_length] at hf
  have hln:=XaS ls qs n
  refine wp_exit ?_;refine hK14 _ _ (cSR fun K19 hK19=>Xl F rfl (qNK hK19 ?_));clear hK14 hK19;clear F a;intro a F
  refine cIf F rfl (fun h46=>?_) (fun h46=>?_)
  ·
   refine cReg (Xl F rfl (Xd rfl (qCv underlying3 underlying5 rfl rfl rfl (Vr _) ?_)));clear F a;intro a F;refine MP H underlying23 sizeOf5 zeroValue5 rfl F rfl rfl rfl rfl ?_;clear F a H;intro b50 a w F H
   refine G7 (bytes:=1) H 1 underlying23 typeInfo5 rfl rfl rfl rfl rfl rfl F rfl rfl rfl rfl rfl (H.whole 0 rfl) rfl ?s1 ?s2 ?_
   case s1=>rfl
   case s2=>(simp only [List.length_map];omega)
   clear F a H;intro A51 c51 a w F H;refine Xa F rfl (qNK hK7 (WN (Xd rfl ?_)));clear hK7;clear F a;intro a F
   refine Xm F rfl rfl (XJ (j:=1) ?_) ?_
   focus omega
   clear F a;intro a F;refine Xa F rfl ?_;clear F a;intro a F;refine sNil ?_
   (rw [show XN (G2 ls qs n)++[[Go.Proofs.YtagnefpgidbhnaaGreatDoor.b8 (UInt8.ofNat n)]]=XN (G2 ls qs (n+1)) by rw [tog_T (by rw [← hf];exact h46)];simp [XN]] at H F
    rw [List.length_map] at H F
    exact ⟨_,by omega,_,⟨n+1,_,_,rfl,rfl,by omega,H.sel [1] rfl rfl⟩,F.tt⟩)
  refine wp_skip (hK7 _ _ (cReg (Xl F rfl ?_)));clear hK7;clear F a;intro a F
  refine Xm F rfl rfl (XJ (j:=1) ?_) ?_
  focus omega
  clear F a;intro a F;refine Xa F rfl ?_;clear F a;intro a F;refine sNil ?_
  (rw [← tog_F (by rw [← hf];exact h46)] at H F
   exact ⟨_,by omega,_,⟨n+1,_,_,rfl,rfl,by omega,H.sel [0] rfl rfl⟩,F.tt⟩)
 replace h11:=of_decide_eq_false h11;refine wp_exit ?_;refine hK3 _ _ (cSR fun K20 hK20=>Xl F rfl (Xh rfl (qNK hK20 ?_)));clear hK3 hK20;clear F a;intro a F;refine wp_ret ?_;refine bRet results61 F rfl ?_
 obtain rfl:n=64:=by omega
 exact ⟨_,_,rfl,H.pick 0 rfl⟩
-- StR
open Go.RowKit
set_option maxRecDepth 100000
theorem Xa3 {w0 w:World} {row:Option Nat} {rs:List Res} {e:TypeId} {sz n c g:Nat} {rows:List (List Value)} (H:Own w0 row w rs) (i:Nat) (hi:rs[i]? = some (.rws e sz (.slice (some ⟨g,0,none⟩) n c) rows)) :
   ∃ cur:List Value,n=rows.length∧n≤c∧c≤maxLen∧cur.length=c * sz∧cur.take (n * sz)=rows.flatten∧rows.flatten.length=n * sz∧Own w0 row w (rs.set i (.blk g cur e)):=by
 have h:w.ownsRow 0 e sz (.slice (some ⟨g,0,none⟩) n c) rows.length rows.flatten:=H.pred i _ hi
 have hf:=H.foot i _ hi g rfl
 obtain ⟨h0,⟨h1,_⟩ | ⟨g',cap,cur,h1,_,h2,h3,h4,h5,h6⟩⟩:=h
 · cases h1
 · obtain ⟨⟨rfl⟩,hn,rfl⟩:(g=g')∧n=rows.length∧c=cap:=by
     simp only [Value.slice.injEq,Option.some.injEq,Addr.mk.injEq] at h1
     exact ⟨h1.1.1,h1.2.1,h1.2.2⟩
   subst hn
   refine ⟨cur.toList,rfl,h3,h4,by simpa using h5,h6,h0,H.turn i hi _ H.grown (Nat.le_refl _) (fun _ _ _=>rfl) (by show Blk w g cur.toList e;unfold Blk;simpa using h2) (fun b hb=>?_)⟩
   have hb:b=g:=hb
   subst hb
   exact ⟨.inl rfl,hf.2⟩
theorem XbN {w0 w:World} {row:Option Nat} {rs:List Res} {e:TypeId} {sz n c g:Nat} {cur:List Value} {rows:List (List Value)} (H:Own w0 row w rs) (i:Nat) (hi:rs[i]? = some (.blk g cur e)) (hn:n=rows.length) (hc:n≤c) (hm:c≤maxLen) (hl:cur.length=c * sz) (ht:cur.take (n * sz)=rows.flatten) (hf:rows.flatten.length=n * sz) :
   Own w0 row w (rs.set i (.rws e sz (.slice (some ⟨g,0,none⟩) n c) rows)):=by
 have hB:=H.blk i hi
 subst hn;refine H.turn i hi _ H.grown (Nat.le_refl _) (fun _ _ _=>rfl) ⟨hf,.inr ⟨g,c,cur.toArray,rfl,Nat.zero_le _,hB,hc,hm,by simpa using hl,by simpa using ht⟩⟩ (fun b hb=>?_)
 have hb:Value.ownBlock (.slice (some ⟨g,0,none⟩) rows.length c)=some b:=hb
 simp only [Value.ownBlock,Option.some.injEq] at hb
 subst hb
 exact ⟨.inl rfl,(H.foot i _ hi g rfl).2⟩
theorem Vs:∀ (vs cs:List Value) (o:Nat),(Ya cs o vs).length=cs.length
 | [],_,_=>rfl
 | v :: r,cs,o=>by rw [Ya,Vs r,List.length_set]
theorem UP:∀ (vs cs:List Value) (o m:Nat),(Ya cs o vs).take m=Ya (cs.take m) o vs
 | [],_,_,_=>rfl
 | v :: r,cs,o,m=>by rw [Ya,Ya,UP r,List.take_set]
theorem EU {sz:Nat} {rows:List (List Value)} (hr:∀ r ∈ rows,r.length=sz) {j:Nat} (hj:j < rows.length) {cs:List Value} (hc:cs.length=sz):(rows.set j cs).flatten=Ya rows.flatten (j * sz) cs:=by
 have hr2:∀ r ∈ rows.set j cs,r.length=sz:=fun r hm=>by
   rcases List.mem_or_eq_of_mem_set hm with h | h
   · exact hr r h
   · rw [h];exact hc
 have hl:=Wk rows hr
 have hb:j * sz+cs.length≤rows.flatten.length:=by
   rw [hl,hc]
   have:=Nat.mul_le_mul_right sz (show j+1≤rows.length from hj)
   rw [Nat.add_mul] at this;omega
 apply List.ext_getElem?
 intro t
 rw [ZM _ _ _ _ hb,hc]
 by_cases ht:t < rows.length * sz
 · have k0:0 < sz:=by
     rcases Nat.eq_zero_or_pos sz with h | h
     · subst h;simp at ht
     · exact h
   have hq:t / sz < rows.length:=Nat.div_lt_of_lt_mul (by rw [Nat.mul_comm];exact ht)
   have hm:t % sz < sz:=Nat.mod_lt _ k0
   have e1:t / sz * sz+t % sz=t:=by rw [Nat.mul_comm];exact Nat.div_add_mod t sz
   have a1:=Ua rows hr (t / sz) rows[t / sz] (List.getElem?_eq_getElem hq) (t % sz) (rows[t / sz][t % sz]'(by rw [hr _ (List.getElem_mem _)];exact hm)) (List.getElem?_eq_getElem _)
   rw [e1] at a1
   by_cases hjt:t / sz=j
   · have a2:=Ua (rows.set j cs) hr2 (t / sz) cs (by rw [hjt,List.getElem?_set,if_pos rfl,if_pos hj]) (t % sz) (cs[t % sz]'(by omega)) (List.getElem?_eq_getElem _)
     rw [e1] at a2;subst hjt;rw [a2,if_pos (by omega),List.getElem?_eq_getElem (by omega)]
     congr 2
     omega
   · have a2:=Ua (rows.set j cs) hr2 (t / sz) rows[t / sz] (by rw [List.getElem?_set,if_neg (Ne.symm hjt)];exact List.getElem?_eq_getElem hq) (t % sz) (rows[t / sz][t % sz]'(by rw [hr _ (List.getElem_mem _)];exact hm)) (List.getElem?_eq_getElem _)
     rw [e1] at a2;rw [a2,a1,if_neg];rintro ⟨h1,h2⟩
     exact hjt (Nat.div_eq_of_lt_le h1 (by rw [Nat.add_mul];omega))
 · rw [List.getElem?_eq_none (by rw [Wk _ hr2,List.length_set];omega),if_neg (by
     rw [hl,hc] at hb;omega),List.getElem?_eq_none (by rw [hl];omega)]
section
variable {P:Program} {l:List Oper} {Q:Exit→Act→World→Prop} {N:Nat} {a:Act} {env:List (Nat × Value)} {rest:List Oper} {d:Tmp} {ty:TypeId} {pos:String} {af:Array Edge} {g:Option (Nat × Bool)} {w0 w:World} {row:Option Nat} {rs:List Res}
theorem sStR {t e:TypeId} {x y:Operand} {sz n c gb o j:Nat} {rows:List (List Value)} {cs:List Value} (H:Own w0 row w rs) (i:Nat) (hz:∀ w,(sizeOf t).run P w = .ok sz w) (F:Has N a env) (hg:wants l env g=true)
   (hx:ev env x=some (.pointer (some ⟨gb,o,none⟩))) (hy:ev env y=some (.agg cs.toArray)) (hi:rs[i]? = some (.rws e sz (.slice (some ⟨gb,0,none⟩) n c) rows)) (ho:o=j * sz) (hj:j < rows.length) (hr:∀ r ∈ rows,r.length=sz) (hc:cs.length=sz) (h1:cs.all (·.oneCell')=true)
   (K:∀ w,Own w0 row w (rs.set i (.rws e sz (.slice (some ⟨gb,0,none⟩) n c) (rows.set j cs)))→wpList P l.toArray Q rest a w):wpList P l.toArray Q (⟨none,.store t x y,ty,pos,af,g⟩ :: rest) a w:=by
 subst ho
 obtain ⟨cur,hn,hnc,hm,hl,ht,hf,H2⟩:=Xa3 H i hi
 have hi2:(rs.set i (.blk gb cur e))[i]? = some (.blk gb cur e):=by
   rw [List.getElem?_set,if_pos rfl,if_pos (List.getElem?_eq_some_iff.1 hi).1]
 have hb:j * sz+cs.length≤n * sz:=by
   rw [hc,hn]
   have:=Nat.mul_le_mul_right sz (show j+1≤rows.length from hj)
   rw [Nat.add_mul] at this;omega
 have hb2:n * sz≤c * sz:=Nat.mul_le_mul_right _ hnc
 have H3:=Own.setCells i cs (j * sz) w _ cur H2 hi2
 rw [List.set_set] at H3
 have hi3:(rs.set i (.blk gb (Ya cur (j * sz) cs) e))[i]? = some (.blk gb (Ya cur (j * sz) cs) e):=by
   rw [List.getElem?_set,if_pos rfl,if_pos (List.getElem?_eq_some_iff.1 hi).1]
 have hset:=EU hr hj hc
 have H4:=XbN (sz:=sz) (n:=n) (c:=c) (rows:=rows.set j cs) H3 i hi3 (by rw [List.length_set];exact hn) hnc hm (by rw [Vs];exact hl) (by rw [UP,ht,hset]) (by rw [hset,Vs];exact hf)
 rw [List.set_set] at H4
 exact BZ F hg rfl (w':=w.setCells gb (j * sz) cs) (by
   simp only [execOp,F.eval hx,F.eval hy]
   have h2:=run_storeAt_mid (P:=P) w gb (j * sz) t cs.toArray (by simpa using H2.there i hi2 (j * sz) cs.length (Nat.ble_eq_true_of_le (by omega))) (by rw [XC hz,List.size_toArray,hc]) (by simpa using h1)
   simp only [Sem.run_bind,h2,Result.andThen_ok,Sem.run_pure]) (K _ H4)
end
-- ReB
open Go.Proofs.Tryz
open Go.RowKit
set_option maxRecDepth 100000
structure SA where
 R:Option Addr
 Rc:Nat
 on:Nat→Value
 C:Option Addr
 Cc:Nat
 E:Option Addr
 Ec:Nat
 D:Option Addr
 Dc:Nat
 K:Option Addr
 Kc:Nat
 M:Option Addr
 Mc:Nat
def SA.cells (v:SA) (r:RunP) (LA:Option Addr) (ln LC:Nat) (wants:Bool):List Value:=
 [.slice v.R 8 v.Rc,.slice v.C (XR r.control).length v.Cc,.slice v.E (Yw r).length v.Ec,.slice v.D (XK r.data r.many).length v.Dc,.slice v.K (XK r.ctrl r.many).length v.Kc,.slice v.M (XK r.att r.many).length v.Mc,b8 0,b8 0,b8 0,b8 0,b8 0,b8 0,b8 0,b8 0,.slice LA ln LC,.bool wants]
def Zh (r:RunP) (on:Nat→Value):List (List Value):=[[b8 (r.regs 0),on 0],[b8 (r.regs 1),on 1],[b8 (r.regs 2),on 2],[b8 (r.regs 3),on 3],[b8 (r.regs 4),on 4],[b8 (r.regs 5),on 5],[b8 (r.regs 6),on 6],[b8 (r.regs 7),on 7]]
theorem Da (r:RunP) (on:Nat→Value) {d:Nat} (h:d < 8):(Zh r on)[d]? = some [b8 (r.regs d),on d]:=by
 match d,h with
 | 0,_ | 1,_ | 2,_ | 3,_ | 4,_ | 5,_ | 6,_ | 7,_=>rfl
def OnOk (L:List Sl) (on:Value) (n:Nat):Prop:=∃ A c,on = .slice A (XR n).length c∧InL L (A,1,XN (XR n))
theorem OnOk.right {L K:List Sl} {on:Value} {n:Nat} (h:OnOk L on n):OnOk (K++L) on n:=by
 obtain ⟨A,c,h1,h2⟩:=h
 exact ⟨A,c,h1,h2.right⟩
theorem OnOk.nil {L:List Sl}:OnOk L (.slice none 0 0) 0:=⟨none,0,rfl,.inr rfl⟩
structure StOk (L:List Sl) (v:SA) (r:RunP):Prop where
 R:InL L (v.R,2,Zh r v.on)
 on:∀ d,d < 8→OnOk L (v.on d) (r.deps d)
 C:InL L (v.C,1,XN (XR r.control))
 E:InL L (v.E,7,(Yw r).map Ev.cells)
 D:InL L (v.D,2,(XK r.data r.many).map prC)
 K:InL L (v.K,2,(XK r.ctrl r.many).map prC)
 M:InL L (v.M,2,(XK r.att r.many).map prC)
theorem StOk.right {L K:List Sl} {v:SA} {r:RunP} (h:StOk L v r):StOk (K++L) v r:=⟨h.R.right,fun d hd=>(h.on d hd).right,h.C.right,h.E.right,h.D.right,h.K.right,h.M.right⟩
theorem U1 {r:RunP} {on:Nat→Value}:∀ q ∈ Zh r on,q.length=2:=by
 intro q hq
 simp only [Zh,List.mem_cons,List.not_mem_nil,or_false] at hq
 rcases hq with rfl | rfl | rfl | rfl | rfl | rfl | rfl | rfl <;> rfl
theorem Xa6 {r:RunP} {on:Nat→Value} {d:Nat} (h:d < 8) (x:UInt8) (n:Nat) (o:Value):(Zh r on).set d [b8 x,o]=Zh ((r.wReg d x).wDep d n) (YO on d o):=by
 match d,h with
 | 0,_ | 1,_ | 2,_ | 3,_ | 4,_ | 5,_ | 6,_ | 7,_=>rfl
theorem Ek {n:Nat} (h:n < 4294967296):WM n=(List.range 64).filter fun k=>n.testBit k:=by
 obtain ⟨h1,h2⟩:=ZK n h
 refine La h2 (List.Pairwise.filter _ List.pairwise_lt_range) fun k=>?_
 rw [h1 k,List.mem_filter,List.mem_range]
 refine ⟨fun q=>⟨?_,q⟩,fun q=>q.2⟩
 have:=Uf h q
 omega
theorem Y6 {n:Nat} (h:n < 4294967296):(XR n).length≤64:=by
 unfold XR
 rw [List.length_map,Ek h]
 exact Nat.le_trans (List.length_filter_le _ _) (by rw [List.length_range];exact Nat.le_refl _)
theorem X3 {L:List Sl} {on:Value} {n:Nat} (h:OnOk L on n):on.oneCell'=true:=by
 obtain ⟨A,c,rfl,_⟩:=h;rfl
theorem Cg {L:List Sl} {v:SA} {r:RunP} (h:StOk L v r):∀ q ∈ Zh r v.on,q.all (·.oneCell')=true:=by
 intro q hq
 simp only [Zh,List.mem_cons,List.not_mem_nil,or_false] at hq
 have k:=fun d hd=>X3 (h.on d hd)
 rcases hq with rfl | rfl | rfl | rfl | rfl | rfl | rfl | rfl
 · exact congrArg (· && true) (k 0 (by decide))
 · exact congrArg (· && true) (k 1 (by decide))
 · exact congrArg (· && true) (k 2 (by decide))
 · exact congrArg (· && true) (k 3 (by decide))
 · exact congrArg (· && true) (k 4 (by decide))
 · exact congrArg (· && true) (k 5 (by decide))
 · exact congrArg (· && true) (k 6 (by decide))
 · exact congrArg (· && true) (k 7 (by decide))
theorem XI (L:List Sl) (v:SA) (r:RunP) (LA:Option Addr) (ln LC:Nat) (wants isR:Bool) (n:UInt8) (w0:World) (hM:MemL w0 L) (hS:StOk L v r) (hn:isR=true→n.toNat < 8) :
   Calls Tryz.prog 57 #[.agg (v.cells r LA ln LC wants).toArray,.agg #[.bool isR,Go.Proofs.YtagnefpgidbhnaaGreatDoor.b8 n]] w0 fun e w'=>∃ on,e = .returned (.agg #[Go.Proofs.YtagnefpgidbhnaaGreatDoor.b8 (Yc isR n r),on])∧OnOk L on (XY isR n r)∧Below w0.heap.size w0 w':=by
 have H:=Own.start w0 none
 refine XE func57 rfl ntmps57 rfl (fun a F=>?_);refine cSR fun K1 hK1=>?_;refine sBx H F rfl rfl rfl ?_;clear F a H;intro b2 a w F H;refine sBx H F rfl rfl rfl ?_;clear F a H;intro b3 a w F H;refine sAl H zeroValue99 F rfl rfl ?_;clear F a H;intro b4 a w F H;refine nK hK1 ?_;clear hK1;refine cSeq (fun K2 hK2=>?_);refine cSR fun K3 hK3=>Xi (f:=0) (k:=0) underlying59 rfl sizeOf4 rfl rfl F rfl (Xc isAgg4 rfl (H.cell 1 rfl rfl) (qNK hK3 ?_));clear hK3;clear F a;intro a F
 refine cIf F rfl (fun h6=>?_) (fun h6=>?_)
 ·
  have hn8:=hn h6
  have ho1:=X3 (hS.on n.toNat hn8)
  obtain ⟨bR,oR,hRe,hRx⟩:=hM.at hS.R n.toNat _ (Da r v.on hn8)
  have hRe:v.R=some ⟨bR,oR,none⟩:=hRe
  rw [show v.cells r LA ln LC wants=(SA.cells { v with R:=some ⟨bR,oR,none⟩ } r LA ln LC wants) by unfold SA.cells;rw [hRe]] at H
  refine cSR fun K4 hK4=>Xi (f:=0) (k:=0) underlying77 rfl sizeOf75 rfl rfl F rfl (Xc isAgg75 rfl (H.cell 2 rfl rfl) (Xb (f:=1) (k:=1) underlying59 rfl sizeOf5 rfl rfl rfl (Xc isAgg5 rfl (H.cell 1 rfl rfl) ?_)));clear F a;intro a F
  refine sIx underlying75 sizeOf99 F rfl rfl rfl rfl ?_ ?_
  focus exact hn8
  clear F a;intro a F
  refine Xo underlying99 rfl ?si F rfl (H.argR hRx) ?_
  case si=>exact XC sizeOf99
  clear F a;intro a F
  refine sSr H 0 ?si F rfl rfl rfl ?s1 rfl rfl ?_
  case si=>exact XC sizeOf99
  case s1=>(repeat (first | exact VA | (apply Wx;· first | rfl | assumption | exact VB rfl rfl)))
  clear H;intro w H;refine nK hK4 ?_;clear hK4;refine wp_ret ?_;simp only [Exit.then];refine UX results57 F rfl underlying99 rfl H 0 rfl sizeOf99 rfl ?_
  exact ⟨v.on n.toNat,by unfold Yc;rw [if_pos h6];rfl,by unfold XY;rw [if_pos h6];exact hS.on _ hn8,H.below⟩
 refine wp_skip (hK2 _ _ (cSR fun K5 hK5=>Xi (f:=1) (k:=1) underlying59 rfl sizeOf5 rfl rfl F rfl (Xc isAgg5 rfl (H.cell 1 rfl rfl) (qBd (cs:=[Go.Proofs.YtagnefpgidbhnaaGreatDoor.b8 n,.slice none 0 0]) (places:=[(0,1),(1,1)]) zeroValue99 underlying99 (by kernel_rfl) rfl rfl rfl rfl ?_))));clear hK2;clear F a;intro a F
 refine sSr H 0 ?si F rfl rfl rfl ?s1 rfl rfl ?_
 case si=>exact XC sizeOf99
 case s1=>rfl
 clear H;intro w H;refine nK hK5 ?_;clear hK5;refine wp_ret ?_;refine UX results57 F rfl underlying99 rfl H 0 rfl sizeOf99 rfl ?_
 exact ⟨.slice none 0 0,by unfold Yc;rw [if_neg (by rw [h6];decide)];rfl,by unfold XY;rw [if_neg (by rw [h6];decide)];exact OnOk.nil,H.below⟩
set_option maxHeartbeats 1000000 in
theorem ZN (L:List Sl) (v:SA) (r:RunP) (LA:Option Addr) (ln LC:Nat) (wants:Bool) (d x:UInt8) (on:Value) (n:Nat) (w0:World) (hM:MemL w0 L) (hS:StOk L v r) (hd:d.toNat < 8) (hon:OnOk L on n) :
   Calls Tryz.prog 59 #[.agg (v.cells r LA ln LC wants).toArray,Go.Proofs.YtagnefpgidbhnaaGreatDoor.b8 d,.agg #[Go.Proofs.YtagnefpgidbhnaaGreatDoor.b8 x,on]] w0 fun e w'=>∃ v' S L',e = .returned (.agg (v'.cells (setP d x n r) LA ln LC wants).toArray)∧StOk (L'++L) v' (setP d x n r)∧Own w0 none w' [.mem S L']:=by
 have H:=Own.start w0 none
 have hoc:=X3 hon
 refine XE func59 rfl ntmps59 rfl (fun a F=>?_);refine cSR fun K1 hK1=>?_;refine sBx H F rfl rfl rfl ?_;clear F a H;intro b3 a w F H;refine sBx H F rfl rfl rfl ?_;clear F a H;intro b5 a w F H;refine sAl H zeroValue77 F rfl rfl ?_;clear F a H;intro b6 a w F H;refine nK hK1 (cSR fun K2 hK2=>?_);clear hK1;refine sBs (cs:=[]) H underlying75 sizeOf99 zeroValue99 rfl F rfl rfl rfl rfl rfl ?_;clear F a H;intro b8 a w F H
 replace H:=H.emptyRws 2
 refine Xi (f:=0) (k:=0) underlying77 rfl sizeOf75 rfl rfl F rfl (Xc isAgg75 rfl (H.cell 3 rfl rfl) ?_);clear F a;intro a F;refine E0 (bytes:=32) (sz:=2) H 0 underlying75 typeInfo99 rfl rfl rfl rfl rfl rfl F rfl rfl rfl rfl rfl ?hm ((show RowsAt w v.R 2 (Zh r v.on) from (hM.at hS.R).own H)) (U1) (Cg hS) ?hb ?_
 case hm=>rfl
 case hb=>exact ((by show (0+8) * _≤_;decide))
 clear F a H;intro A11 c11 a w F H;refine Xa F rfl (qNK hK2 ?_);clear hK2;clear F a;intro a F;refine cSeq (fun K3 hK3=>?_);rw [List.nil_append] at H F
 obtain ⟨bN,rfl⟩:∃ b,A11=some ⟨b,0,none⟩:=by
  rcases (H.pred 0 _ rfl).2 with ⟨_,h2⟩ | ⟨g,cap,cur,h1,_⟩
  · simp [Zh] at h2
  · cases h1;exact ⟨_,rfl⟩
 refine cReg (Xl F rfl (Xd rfl ?_));clear F a;intro a F
 refine Xo underlying99 rfl ?si F rfl (H.whole 2 rfl) ?_
 case si=>exact XC sizeOf99
 clear F a;intro a F
 refine sIx underlying75 sizeOf99 F rfl rfl rfl rfl ?_ ?_
 focus exact hd
 clear F a;intro a F;refine sStR H 0 sizeOf99 F rfl rfl rfl (rfl) ((by omega)) (hd) (U1) (rfl) (congrArg (· && true) hoc) ?_;clear H;intro w H;refine nK hK3 (cSR fun K4 hK4=>Xl F rfl (Xb (f:=0) (k:=0) underlying77 rfl sizeOf75 rfl rfl rfl ?_));clear hK3;clear F a;intro a F;refine sSt H 3 sizeOf75 F rfl rfl rfl rfl rfl rfl ?_;clear H;intro w H;refine nK hK4 (cSR fun K5 hK5=>?_);clear hK4
 refine Xo underlying77 rfl ?si F rfl (H.whole 3 rfl) ?_
 case si=>exact XC sizeOf77
 clear F a;intro a F
 refine sSr H 1 ?si F rfl rfl rfl ?s1 rfl rfl ?_
 case si=>exact XC sizeOf77
 case s1=>rfl
 clear H;intro w H;refine nK hK5 ?_;clear hK5;refine wp_ret ?_;refine UX results59 F rfl underlying77 rfl H 1 rfl sizeOf77 rfl ?_
 have H9:Own w0 none w [.rws 99 2 (.slice (some ⟨bN,0,none⟩) 8 c11) ((Zh r v.on).set d.toNat [Go.Proofs.YtagnefpgidbhnaaGreatDoor.b8 x,on])]:=H.sel [0] rfl rfl
 rw [Xa6 hd x n on] at H9
 refine ⟨{ v with R:=some ⟨bN,0,none⟩,Rc:=c11,on:=YO v.on d.toNat on },_,[(some ⟨bN,0,none⟩,2,Zh (setP d x n r) (YO v.on d.toNat on))],rfl,?_,H9.toMem U1 (by decide)⟩
 refine ⟨InL.head,fun q hq=>?_,hS.C.tail,hS.E.tail,hS.D.tail,hS.K.tail,hS.M.tail⟩
 show OnOk _ (YO v.on d.toNat on q) (YO r.deps d.toNat n q)
 unfold YO
 by_cases e:q=d.toNat
 · rw [if_pos e,if_pos e];exact hon.right
 · rw [if_neg e,if_neg e];exact (hS.on q hq).right
end Go.Proofs.YtagnefpgidbhnaaGreatDoor
