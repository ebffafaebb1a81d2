/-
  WALK2. Package path: proceed, valid. Conditions: the run lies in a block of the caller's, the thread elsewhere in memory; the thread is valid.
-/
import Derived.Test.YtagnefpgidbhnaaGreatDoorJn7
import Derived.Test.YtagnefpgidbhnaaGreatDoorJn6
import Derived.Test.YtagnefpgidbhnaaGreatDoorJn1
import Derived.Laws.AppendOwn
import Derived.Test.YtagnefpgidbhnaaGreatDoorJn5
set_option linter.unusedSimpArgs false
set_option linter.unusedVariables false
namespace Go.Proofs.YtagnefpgidbhnaaGreatDoor
-- PaE
open Go.RowKit
set_option maxRecDepth 100000
def BG (w:World) (b:Nat) (A:Option Addr) (sz:Nat) (rows:List (List Value)):Prop:=∀ (j:Nat) (cs:List Value),rows[j]? = some cs→∃ c off,A=some ⟨c,off,none⟩∧c ≠ b∧w.rangeAt c (off+j * sz) cs
theorem Own.oldR {w0 w:World} {b:Nat} {rs:List Res} (H:Own w0 (some b) w rs) {c o:Nat} {cs:List Value} (h:w0.rangeAt c o cs) (hne:c ≠ b):w.rangeAt c o cs:=fun j v hv=>H.old (h j v hv) (fun e=>hne (Option.some.inj e))
theorem Ch {op:UInt8} (h:op ≠ 6∧op ≠ 5∧op ≠ 4∧op ≠ 1∧True):XU op=false:=by
 unfold XU
 rw [beq_false_of_ne h.1,beq_false_of_ne h.2.1,beq_false_of_ne h.2.2.1,beq_false_of_ne h.2.2.2.1]
 rfl
theorem Wo {l:List Ins} {r:RunP} {x:Ins} (hx:l[r.pc]? = some x):X2 l r=XU x.op:=by unfold X2;rw [hx]
theorem Ga {l:List Ins} {r:RunP} (hx:l[r.pc]? = none):X2 l r=false:=by unfold X2;rw [hx]
theorem Gq (b:Nat) (A:Option Addr) (C:Nat) (l:List Ins) (r:RunP) (w0:World) (hB:Wm w0 b r) (hA:BG w0 b A 10 (l.map Ins.cells)) (hl:XH 6 l=true) (hI:InvR l r) :
   Calls Tryz.prog 19 #[.pointer (some ⟨b,0,none⟩),.slice A l.length C] w0 fun e w'=>e = .returned (.bool (X2 l (XD l r)))∧Own w0 (some b) w' [.blk b (XD l r).cells 71]:=by
 have H:=Own.startRow hB
 have hl12:=Z4 hl
 refine XE Tryz.func19 rfl Tryz.ntmps19 rfl (fun a F=>?_);refine cSR fun K1 hK1=>Xa F rfl (qNK hK1 ?_);clear hK1;clear F a;intro a F;refine cSeq (fun K2 hK2=>?_);refine wp_block ?_
 refine cLoopR [0,1] (fun m ups w=>∃ (r':RunP),m=l.length - r'.pc∧ups=[]∧InvR l r'∧XD l r'=XD l r∧Own w0 (some b) w [.blk b r'.cells 71]) F (l.length - r.pc) [] (by repeat (first | exact SubR.nil | (apply SubR.cons;· rfl))) ?_ ?_ ?_
 · exact ⟨r,rfl,rfl,hI,rfl,H⟩
 · repeat (exact trivial)
 clear F
 clear H
 intro m ups a w hI F
 obtain ⟨r',rfl,rfl,hI',hp,H⟩:=hI
 refine cSeq (fun K3 hK3=>?_);refine cSR fun K4 hK4=>Xl F rfl (Xk rfl (Xb (f:=0) (k:=0) Tryz.underlying71 rfl Tryz.sizeOf3 rfl rfl rfl (Xc Tryz.isAgg3 rfl (show _=some (Value.int .i64 (r'.pc:Int)) from H.cell 0 rfl (Zn _)) (Xd rfl (Xs Tryz.underlying22 rfl (Xj rfl rfl YW (qNK hK4 ?_)))))));clear hK4;clear F a;intro a F
 refine cIf F rfl (fun h11=>?_) (fun h11=>?_)
 ·
  replace h11:=of_decide_eq_true h11
  have hpl:r'.pc < l.length:=by omega
  obtain ⟨x,hx⟩:∃ x,l[r'.pc]? = some x:=⟨_,List.getElem?_eq_getElem hpl⟩
  obtain ⟨c,off,rfl,hcb,hR⟩:=hA r'.pc x.cells (by rw [List.getElem?_map,hx];rfl)
  have hn:True:=trivial
  refine wp_skip (hK3 _ _ ?_);clear hK3;refine wp_block ?_;refine cSeq (fun K5 hK5=>?_);refine cSR fun K6 hK6=>Xl F rfl (Xd rfl (Xk rfl (Xb (f:=0) (k:=0) Tryz.underlying71 rfl Tryz.sizeOf3 rfl rfl rfl (Xc Tryz.isAgg3 rfl (show _=some (Value.int .i64 (r'.pc:Int)) from H.cell 0 rfl (Zn _)) ?_))));clear F a;intro a F
  refine sIx Tryz.underlying22 Tryz.sizeOf61 F rfl rfl rfl rfl ?_ ?_
  focus (omega)
  clear F a;intro a F;refine Xi (f:=0) Tryz.underlying61 rfl Tryz.sizeOf5 rfl rfl F rfl (Xc Tryz.isAgg5 rfl (H.oldR hR hcb 0 _ rfl) (qNK hK6 ?_));clear hK6;clear F a;intro a F;refine wp_block ?_;refine cSeq (fun K7 hK7=>?_);refine cSR fun K8 hK8=>Xm F rfl rfl (XZ (y:=1)) (Xh rfl (qNK hK8 ?_));clear hK8;clear F a;intro a F
  refine F.split 20 rfl ?_ ?_ <;> (clear F;intro h20 F)
  ·
   replace h20:=Yh h20;refine cIfT F rfl ?_;refine wp_skip (hK7 _ _ ?_);clear hK7;refine cIfT F rfl ?_;refine cSR fun K9 hK9=>Xa F rfl (qNK hK9 ?_);clear hK9;clear F a;intro a F;refine wp_ret ?_;refine xI ?_;refine bRet Tryz.results19 F rfl ?_
   (have e:x.op=1:=h20
    have hw:X2 l r'=true:=(Wo hx).trans (by rw [e];rfl)
    rw [XV (.inl hw)] at hp;rw [← hp,hw]
    exact ⟨rfl,H.sel [0] rfl rfl⟩)
  replace h20:=Yi h20
  replace hn:=And.intro h20 hn
  refine cIfF F rfl ?_;refine cSR fun K10 hK10=>Xm F rfl rfl (XZ (y:=4)) (Xh rfl (qNK hK10 ?_));clear hK10;clear F a;intro a F
  refine F.split 20 rfl ?_ ?_ <;> (clear F;intro h20 F)
  ·
   replace h20:=Yh h20;refine cIfT F rfl ?_;refine wp_skip (hK7 _ _ ?_);clear hK7;refine cIfT F rfl ?_;refine cSR fun K11 hK11=>Xa F rfl (qNK hK11 ?_);clear hK11;clear F a;intro a F;refine wp_ret ?_;refine xI ?_;refine bRet Tryz.results19 F rfl ?_
   (have e:x.op=4:=h20
    have hw:X2 l r'=true:=(Wo hx).trans (by rw [e];rfl)
    rw [XV (.inl hw)] at hp;rw [← hp,hw]
    exact ⟨rfl,H.sel [0] rfl rfl⟩)
  replace h20:=Yi h20
  replace hn:=And.intro h20 hn
  refine cIfF F rfl ?_;refine cSR fun K12 hK12=>Xm F rfl rfl (XZ (y:=5)) (Xh rfl (qNK hK12 ?_));clear hK12;clear F a;intro a F
  refine F.split 20 rfl ?_ ?_ <;> (clear F;intro h20 F)
  ·
   replace h20:=Yh h20;refine cIfT F rfl ?_;refine wp_skip (hK7 _ _ ?_);clear hK7;refine cIfT F rfl ?_;refine cSR fun K13 hK13=>Xa F rfl (qNK hK13 ?_);clear hK13;clear F a;intro a F;refine wp_ret ?_;refine xI ?_;refine bRet Tryz.results19 F rfl ?_
   (have e:x.op=5:=h20
    have hw:X2 l r'=true:=(Wo hx).trans (by rw [e];rfl)
    rw [XV (.inl hw)] at hp;rw [← hp,hw]
    exact ⟨rfl,H.sel [0] rfl rfl⟩)
  replace h20:=Yi h20
  replace hn:=And.intro h20 hn
  refine cIfF F rfl ?_;refine cReg (Xm F rfl rfl (XZ (y:=6)) (Xh rfl (qNK hK7 ?_)));clear hK7;clear F a;intro a F
  refine F.split 20 rfl ?_ ?_ <;> (clear F;intro h20 F)
  ·
   replace h20:=Yh h20;refine cIfT F rfl ?_;refine cSR fun K14 hK14=>Xa F rfl (qNK hK14 ?_);clear hK14;clear F a;intro a F;refine wp_ret ?_;refine xI ?_;refine bRet Tryz.results19 F rfl ?_
   (have e:x.op=6:=h20
    have hw:X2 l r'=true:=(Wo hx).trans (by rw [e];rfl)
    rw [XV (.inl hw)] at hp;rw [← hp,hw]
    exact ⟨rfl,H.sel [0] rfl rfl⟩)
  replace h20:=Yi h20
  replace hn:=And.intro h20 hn
  refine cIfF F rfl ?_;refine wp_skip (hK5 _ _ (cReg (Xl F rfl (Xd rfl (Xd rfl (Xk rfl (Xb (f:=0) (k:=0) Tryz.underlying71 rfl Tryz.sizeOf3 rfl rfl rfl (Xc Tryz.isAgg3 rfl (show _=some (Value.int .i64 (r'.pc:Int)) from H.cell 0 rfl (Zn _)) ?_))))))));clear hK5;clear F a;intro a F
  refine sIx Tryz.underlying22 Tryz.sizeOf61 F rfl rfl rfl rfl ?_ ?_
  focus (omega)
  clear F a;intro a F
  refine Xo Tryz.underlying61 rfl ?si F rfl (H.oldR hR hcb) ?_
  case si=>exact XC Tryz.sizeOf61
  clear F a;intro a F;refine Xn Tryz.call20 F rfl (VD b r' x 0 _ (H.blk 0 rfl) (Vi hl hx).inr (hI'.ok hl hpl) (Vi hl hx).op) ?_;rintro e w ⟨rfl,H2⟩
  replace H:=H.turned 0 rfl H2;clear H2
  refine ⟨_,rfl,?_⟩;clear F a;intro a F;refine sNil ?_
  (refine ⟨_,?_,_,⟨X8 x 0 r',rfl,rfl,ZJ 0 hI' hl hx,?_,H.sel [0] rfl rfl⟩,F.tt⟩
   · have:=Y2 x 0 r';omega
   · rw [← Zz hx (Ch hn)];exact hp)
 replace h11:=of_decide_eq_false h11;refine wp_exit ?_;refine hK2 _ _ (cSR fun K15 hK15=>Xa F rfl (qNK hK15 ?_));clear hK2 hK15;clear F a;intro a F;refine wp_ret ?_;refine bRet Tryz.results19 F rfl ?_
 (have hx:l[r'.pc]? = none:=List.getElem?_eq_none (by omega)
  rw [XV (.inr hx)] at hp;rw [← hp,Ga hx]
  exact ⟨rfl,H.sel [0] rfl rfl⟩)
theorem Jj (A:Option Addr) (C:Nat) (l:List Ins) (w0:World) (hA:RowsAt w0 A 10 (l.map Ins.cells)) (hN:NeedsAt w0) (hn:l.length≤9223372036854775807) :
   Calls Tryz.prog 18 #[.slice A l.length C] w0 fun e w'=>e = .returned (.bool (XH 6 l))∧Below w0.heap.size w0 w':=by
 have H:=Own.start w0 none
 refine XE Tryz.func18 rfl Tryz.ntmps18 rfl (fun a F=>?_);refine cSR fun K1 hK1=>Xa F rfl (qNK hK1 (qSR fun K2 hK2=>Xd rfl ?_));clear hK1;clear F a;intro a F;refine Xn Tryz.call32 F rfl (Jp A C l 6 _ (hA.own H) (hN.own H) hn) (gG H ?_);clear F a H;intro a w F H;refine Xa F rfl (qNK hK2 ?_);clear hK2;clear F a;intro a F;refine wp_ret ?_;refine bRet Tryz.results18 F rfl ?_
 exact ⟨rfl,H.below⟩
-- PaF
open Go.RowKit
set_option maxRecDepth 100000
section
variable {P:Program} {t:TypeId} {x y:Operand} {n m:Nat}
theorem XaI (hn:n < 4294967296) (hm:m < 4294967296):ZF P .and t x y (.int .u32 (n:Int)) (.int .u32 (m:Int)) (.int .u32 ((n &&& m:Nat):Int)):=fun w=>by
 have h:n &&& m < 4294967296:=Nat.lt_of_le_of_lt Nat.and_le_left hn
 simp only [eqGuard,binOp,Op.intBits,go_sem]
 show Result.ok (Value.int .u32 (IntKind.u32.wrap ((BitVec.ofInt 32 (n:Int) &&& BitVec.ofInt 32 (m:Int)).toNat:Int))) w=_
 have e1:(BitVec.ofInt 32 (n:Int) &&& BitVec.ofInt 32 (m:Int)).toNat=n &&& m:=by
   rw [BitVec.toNat_and,BitVec.ofInt_natCast,BitVec.ofInt_natCast,BitVec.toNat_ofNat,BitVec.toNat_ofNat,Nat.mod_eq_of_lt hn,Nat.mod_eq_of_lt hm]
 rw [e1,Um]
 have:((n &&& m:Nat):Int) % 4294967296=((n &&& m:Nat):Int):=by omega
 rw [this]
theorem XcZ:ZF P .mul t x y (.int .u32 (n:Int)) (.int .u32 (m:Int)) (.int .u32 ((n * m % 4294967296:Nat):Int)):=fun w=>by
 have:(do eqGuard .mul t x y (.int .u32 (n:Int)) (.int .u32 (m:Int));binOp .mul t (.int .u32 (n:Int)) (.int .u32 (m:Int)):Sem Value).run P w = .ok (.int .u32 (IntKind.u32.wrap ((n:Int) * (m:Int)))) w:=by simp [eqGuard,binOp,Op.intArith,go_sem]
 rw [this,← Int.natCast_mul,Um]
 rfl
theorem XcW (h:m≤n) (hn:n < 4294967296):ZF P .sub t x y (.int .u32 (n:Int)) (.int .u32 (m:Int)) (.int .u32 ((n - m:Nat):Int)):=fun w=>by
 have:(do eqGuard .sub t x y (.int .u32 (n:Int)) (.int .u32 (m:Int));binOp .sub t (.int .u32 (n:Int)) (.int .u32 (m:Int)):Sem Value).run P w = .ok (.int .u32 (IntKind.u32.wrap ((n:Int) - (m:Int)))) w:=by simp [eqGuard,binOp,Op.intArith,go_sem]
 rw [this,Um]
 have e:((n:Int) - (m:Int)) % 4294967296=((n - m:Nat):Int):=by omega
 rw [e]
theorem XcY:ZF P .shr t x y (.int .u32 (n:Int)) (.int .u64 27) (.int .u32 ((n / 134217728:Nat):Int)):=fun w=>by
 have h2:Op.shift .shr .u32 (n:Int) .u64 27=pure (.int .u32 ((n:Int) / 2 ^ (27:Int).toNat)):=shift_shr .u32 .u64 (n:Int) 27 (by omega) (by decide)
 simp only [eqGuard_shr,binOp_shr,h2]
 rfl
variable {l:List Oper} {Q:Exit→Act→World→Prop} {N:Nat} {a:Act} {env:List (Nat × Value)} {rest:List Oper} {d:Tmp} {ty:TypeId} {pos:String} {af:Array Edge} {g:Option (Nat × Bool)} {w:World}
theorem Xcj (F:Has N a env) (hx:ev env x=some (.int .u32 (n:Int))) (h:0 < n∧n < 4294967296):(execOp a.eval ⟨some d,.unOp .neg t x,ty,pos,af,g⟩).run P w = .ok (.value (.int .u32 ((4294967296 - n:Nat):Int))) w:=by
 have h1:(Op.unary .neg (.int .u32 (n:Int))).run P w = .ok (.int .u32 (IntKind.u32.wrap (0 - (n:Int)))) w:=by simp [Op.unary,Op.intArith,go_sem]
 have e:IntKind.u32.wrap (0 - (n:Int))=((4294967296 - n:Nat):Int):=by rw [Um];omega
 rw [e] at h1
 simp only [execOp,F.eval hx,Sem.run_bind,h1]
 rfl
theorem Xcc (F:Has N a env) (hg:wants l env g=true) (hN:Nat.blt d N=true) (hx:ev env x=some (.int .u32 (n:Int))) (h:0 < n∧n < 4294967296)
   (K:∀ a,Has N a ((d,.int .u32 ((4294967296 - n:Nat):Int)) :: env)→wpList P l.toArray Q rest a w):wpList P l.toArray Q (⟨some d,.unOp .neg t x,ty,pos,af,g⟩ :: rest) a w:=
 YM F hg rfl hN (Xcj F hx h) K
end
def tzF:Nat→Nat→Nat
 | 0,_=>0
 | f+1,n=>if n % 2=1 then 0 else tzF f (n / 2)+1
def tzN (n:Nat):Nat:=tzF 32 n
theorem XbT (a b:Nat):(2 * a+1) &&& (2 * b+1)=2 * (a &&& b)+1:=by
 refine Nat.eq_of_testBit_eq fun i=>?_
 rw [Nat.testBit_and]
 cases i with
 | zero=>simp [Nat.testBit_zero]
 | succ i=>
   rw [Nat.testBit_succ,Nat.testBit_succ,Nat.testBit_succ,show (2 * a+1) / 2=a by omega,show (2 * b+1) / 2=b by omega,show (2 * (a &&& b)+1) / 2=a &&& b by omega,Nat.testBit_and]
theorem Xaj (a b:Nat):(2 * a) &&& (2 * b)=2 * (a &&& b):=by
 refine Nat.eq_of_testBit_eq fun i=>?_
 rw [Nat.testBit_and]
 cases i with
 | zero=>simp [Nat.testBit_zero]
 | succ i=>
   rw [Nat.testBit_succ,Nat.testBit_succ,Nat.testBit_succ,show 2 * a / 2=a by omega,show 2 * b / 2=b by omega,show 2 * (a &&& b) / 2=a &&& b by omega,Nat.testBit_and]
theorem BE {w m:Nat} (h:m < 2 ^ w):m &&& (2 ^ w - (m+1))=0:=by
 refine Nat.eq_of_testBit_eq fun i=>?_
 rw [Nat.testBit_and,Nat.testBit_two_pow_sub_succ h,Nat.zero_testBit]
 cases m.testBit i <;> simp
theorem DI:∀ (w n:Nat),0 < n→n < 2 ^ w→n &&& (2 ^ w - n)=2 ^ tzF w n∧tzF w n < w
 | 0,n,h0,h=>by simp at h;omega
 | w+1,n,h0,h=>by
   have hp:2 ^ (w+1)=2 * 2 ^ w:=by rw [Nat.pow_succ,Nat.mul_comm]
   rw [hp] at h ⊢
   unfold tzF
   split
   next ho=>
     obtain ⟨m,rfl⟩:∃ m,n=2 * m+1:=⟨n / 2,by omega⟩
     rw [show 2 * 2 ^ w - (2 * m+1)=2 * (2 ^ w - (m+1))+1 by omega,XbT,BE (by omega)]
     exact ⟨rfl,by omega⟩
   next ho=>
     obtain ⟨m,rfl⟩:∃ m,n=2 * m:=⟨n / 2,by omega⟩
     have ih:=DI w m (by omega) (by omega)
     rw [show 2 * 2 ^ w - 2 * m=2 * (2 ^ w - m) by omega,Xaj,show 2 * m / 2=m by omega,ih.1,Nat.pow_succ,Nat.mul_comm]
     exact ⟨rfl,by omega⟩
theorem low32 {n:Nat} (h0:0 < n) (h:n < 4294967296):n &&& (4294967296 - n)=2 ^ tzN n∧tzN n < 32:=DI 32 n h0 h
def tabL:List Nat:=[0,1,28,2,29,14,24,3,30,22,20,15,25,17,4,8,31,27,13,23,21,19,16,7,26,12,18,6,11,5,10,9]
def tabB (i:Nat):UInt8:=UInt8.ofNat (tabL.getD i 0)
theorem Xca:∀ k,k < 32→(tabB (2 ^ k * 125613361 % 4294967296 / 134217728)).toNat=k:=by decide
def TabAt (w:World):Prop:=∀ i,i < 32→w.cell? ⟨0,i,none⟩=some (b8 (tabB i))
theorem TabAt.own {w0 w:World} {rs:List Res} (hN:TabAt w0) (H:Own w0 none w rs):TabAt w:=fun i hi=>H.arg (hN i hi)
theorem TabAt.at {w:World} (h:TabAt w) (i:Nat) (hi:i < 32):w.cell? ⟨0,0+i * 1,none⟩=some (b8 (tabB i)):=by
 rw [Nat.zero_add,Nat.mul_one];exact h i hi
theorem Xb7 (n:Nat) (w0:World) (hn:n < 4294967296) (h0:0 < n) (hT:TabAt w0) :
   Calls Tryz.prog 55 #[u32 n] w0 fun e w'=>e = .returned (.int .i64 (tzN n:Int))∧Below w0.heap.size w0 w':=by
 have H:=Own.start w0 none
 obtain ⟨h1,h2⟩:=low32 h0 hn
 have h3:=Xca _ h2
 refine XE Tryz.func55 rfl Tryz.ntmps55 rfl (fun a F=>?_);refine cSR fun K1 hK1=>Xa F rfl (qNK hK1 ?_);clear hK1;clear F a;intro a F;refine cSeq (fun K2 hK2=>?_);refine cSR fun K3 hK3=>Xl F rfl (Xj rfl rfl ZQ (qNK hK3 ?_));clear hK3;clear F a;intro a F
 refine cIf F rfl (fun h4=>?_) (fun h4=>?_)
 ·
  replace h4:=Yh h4
  omega
 replace h4:=Yi h4;refine wp_skip (hK2 _ _ (cSR fun K4 hK4=>Xl F rfl (Xd rfl ?_)));clear hK2;clear F a;intro a F
 refine Xcc F rfl rfl rfl ?_ ?_
 focus exact ⟨h0,hn⟩
 clear F a;intro a F;refine Xm F rfl rfl (XaI (n:=n) (m:=4294967296 - n) hn (by omega)) (Xj rfl rfl (XcZ (m:=125613361)) (Xj rfl rfl XcY ?_));clear F a;intro a F
 refine sIa Tryz.underlying147 Tryz.sizeOf5 F rfl rfl rfl rfl ?_ ?_
 focus (rw [h1];omega)
 clear F a;intro a F;refine sLd Tryz.isAgg5 F rfl rfl rfl (H.arg (hT.at _ (by rw [h1];omega))) (qCv Tryz.underlying5 Tryz.underlying3 rfl rfl rfl (ZT _) (Xh rfl (qNK hK4 ?_)));clear hK4;clear F a;intro a F;refine wp_ret ?_;refine bRet Tryz.results55 F rfl ?_;rw [h1,h3]
 exact ⟨rfl,H.below⟩
-- PaG
open Go.RowKit
set_option maxRecDepth 100000
def Mv:Nat→Nat→List Nat
 | 0,_=>[]
 | f+1,n=>if n=0 then [] else tzN n :: Mv f (n &&& (n - 1))
def WM (n:Nat):List Nat:=Mv n n
theorem Vf (n:Nat):n &&& (n - 1)≤n - 1:=Nat.and_le_right
theorem UN (f n:Nat):Mv (f+1) n=if n=0 then [] else tzN n :: Mv f (n &&& (n - 1)):=rfl
theorem El:∀ (f n:Nat),n≤f→Mv f n=WM n:=by
 intro f
 induction f using Nat.strongRecOn with
 | _ f ih=>
   intro n h
   rcases Nat.eq_zero_or_pos n with h0 | h0
   · subst h0
     unfold WM
     cases f with
     | zero=>rfl
     | succ f=>rfl
   · obtain ⟨k,rfl⟩:∃ k,f=k+1:=⟨f - 1,by omega⟩
     obtain ⟨m,rfl⟩:∃ m,n=m+1:=⟨n - 1,by omega⟩
     have hp:(m+1) &&& (m+1 - 1)≤m:=Vf (m+1)
     have e:WM (m+1)=Mv (m+1) (m+1):=rfl
     rw [e,UN,UN,if_neg (by omega),if_neg (by omega)]
     generalize (m+1) &&& (m+1 - 1)=q at hp ⊢
     rw [ih k (by omega) q (by omega)]
     rcases Nat.lt_or_ge m (k+1) with h1 | h1
     · rw [ih m h1 q hp]
     · omega
theorem Bv:WM 0=[]:=rfl
theorem Qt {n:Nat} (h:0 < n):WM n=tzN n :: WM (n &&& (n - 1)):=by
 obtain ⟨m,rfl⟩:∃ m,n=m+1:=⟨n - 1,by omega⟩
 have hp:(m+1) &&& (m+1 - 1)≤m:=Vf (m+1)
 have e:WM (m+1)=Mv (m+1) (m+1):=rfl
 rw [e,UN,if_neg (by omega),El m _ hp]
theorem Xad:∀ n,(WM n).length≤n:=by
 intro n
 induction n using Nat.strongRecOn with
 | _ n ih=>
   rcases Nat.eq_zero_or_pos n with h0 | h0
   · subst h0;exact Nat.le_refl _
   · have h1:=Vf n
     rw [Qt h0,List.length_cons]
     have:=ih (n &&& (n - 1)) (by omega)
     omega
abbrev Pr:=UInt8 × UInt8
def prC (q:Pr):List Value:=[b8 q.1,b8 q.2]
def Vm (i k:Nat):Pr:=(UInt8.ofNat k,UInt8.ofNat i)
def Qw (i n:Nat):List Pr:=(WM n).map (Vm i)
def XK (f:Nat→Nat):Nat→List Pr
 | 0=>[]
 | n+1=>XK f n++Qw n (f n)
theorem B7 {i n:Nat} (h:0 < n):Qw i n=Vm i (tzN n) :: Qw i (n &&& (n - 1)):=by
 unfold Qw
 rw [Qt h]
 rfl
theorem B9 (i n:Nat):(Qw i n).length≤n:=by unfold Qw;rw [List.length_map];exact Xad n
theorem Wh {f:Nat→Nat} (hf:∀ k,f k < 4294967296):∀ n,(XK f n).length≤4294967296 * n
 | 0=>Nat.le_refl _
 | n+1=>by
   have h1:=Wh hf n
   have h2:=B9 n (f n)
   have h3:=hf n
   unfold XK
   rw [List.length_append]
   omega
theorem Gx (b o C n:Nat) (f:Nat→Nat) (w0:World) (hT:TabAt w0) (hn:n≤24) (hf:∀ k,f k < 4294967296) (hS:∀ k,k < n→w0.cell? ⟨b,o+k,none⟩=some (u32 (f k))) :
   Calls Tryz.prog 35 #[.slice (some ⟨b,o,none⟩) n C] w0 fun e w'=>∃ A c,e = .returned (.slice A (XK f n).length c)∧Own w0 none w' [.rws 64 2 (.slice A (XK f n).length c) ((XK f n).map prC)]:=by
 have H:=Own.start w0 none
 have hlen:=Wh hf
 refine XE Tryz.func35 rfl Tryz.ntmps35 rfl (fun a F=>?_);refine cSR fun K1 hK1=>Xa F rfl (qNK hK1 (qSR fun K2 hK2=>Xh rfl ?_));clear hK1;clear F a;intro a F
 replace H:=H.nilRws 64 2
 refine nK hK2 ?_;clear hK2;refine cSeq (fun K3 hK3=>?_);refine cSR fun K4 hK4=>Xl F rfl (Xs Tryz.underlying94 rfl (Xd rfl (qNK hK4 ?_)));clear hK4;clear F a;intro a F;refine wp_block ?_
 refine cLoopS [6,7] (fun m ups w=>∃ (j:Nat) (A3:Option Addr) (c3:Nat),m=n - j∧ups=[(3,.slice A3 (XK f j).length c3),(8,.int .i64 ((j:Nat):Int))]∧j≤n∧Own w0 none w [.rws 64 2 (.slice A3 (XK f j).length c3) ((XK f j).map prC)]) F (n) [(3,.slice none 0 0),(8,.int .i64 ((0:Nat):Int))] ?_ ?_
 · exact ⟨0,none,0,rfl,rfl,Nat.zero_le _,H⟩
 clear F
 clear H
 intro m ups a w hI F
 obtain ⟨j,A3,c3,rfl,rfl,hj,H⟩:=hI
 refine cSR fun K5 hK5=>Xm F rfl rfl YW (qNK hK5 ?_);clear hK5;clear F a;intro a F;refine cSeq (fun K6 hK6=>?_)
 refine cIf F rfl (fun h9=>?_) (fun h9=>?_)
 ·
  replace h9:=of_decide_eq_true h9
  have hjn:j < n:=by omega
  have hfj:=hf j
  have hlj:=hlen (j+1)
  have hej:XK f (j+1)=XK f j++Qw j (f j):=rfl
  refine wp_skip (hK6 _ _ ?_);clear hK6;refine cSeq (fun K7 hK7=>?_);refine wp_block ?_;refine cSR fun K8 hK8=>Xl F rfl ?_;clear F a;intro a F
  refine sIx Tryz.underlying94 Tryz.sizeOf66 F rfl rfl rfl rfl ?_ ?_
  focus (omega)
  clear F a;intro a F;refine sLd Tryz.isAgg66 F rfl rfl rfl (show _=some (u32 (f j)) from H.arg (by rw [Nat.mul_one];exact hS j hjn)) (Xh rfl (Xh rfl (qNK hK8 ?_)));clear hK8;clear F a;intro a F;refine wp_block ?_
  refine cLoopS [4,6,7,8] (fun m ups w=>∃ (s:Nat) (acc:List Pr) (rows:List (List Value)) (A3:Option Addr) (c3:Nat),s=m∧ups=[(3,.slice A3 rows.length c3),(5,.int .u32 ((s:Nat):Int))]∧rows=acc.map prC∧s < 4294967296∧acc++Qw j s=XK f (j+1)∧Own w0 none w [.rws 64 2 (.slice A3 rows.length c3) rows]) F (f j) [(3,.slice A3 (XK f j).length c3),(5,.int .u32 ((f j:Nat):Int))] ?_ ?_
  · exact ⟨f j,XK f j,(XK f j).map prC,A3,c3,rfl,(by rw [List.length_map]),rfl,hfj,rfl,(by rw [List.length_map];exact H)⟩
  clear F
  clear H
  intro m ups a w hI F
  obtain ⟨s,acc,rows,A3,c3,rfl,rfl,hrows,hs,hacc,H⟩:=hI
  refine cSeq (fun K9 hK9=>?_);refine cSR fun K10 hK10=>Xl F rfl (Xj rfl rfl U7 (qNK hK10 ?_));clear hK10;clear F a;intro a F
  refine cIf F rfl (fun h14=>?_) (fun h14=>?_)
  ·
   replace h14:=UL h14
   have hs0:0 < s:=by omega
   have hrl:rows.length=acc.length:=by rw [hrows,List.length_map]
   have hal:acc.length+(Qw j s).length=(XK f (j+1)).length:=by rw [← hacc,List.length_append]
   rw [B7 hs0] at hacc hal;rw [List.length_cons] at hal;refine wp_skip (hK9 _ _ ?_);clear hK9;refine cSeq (fun K11 hK11=>?_);refine wp_block ?_;refine cReg (Xl F rfl (Xd rfl ?_));clear F a;intro a F;refine Xn Tryz.call55 F rfl (Xb7 s _ hs hs0 (hT.own H)) (gG H ?_);clear F a H;intro a w F H;refine sCv Tryz.underlying3 Tryz.underlying5 F rfl rfl rfl (Vr _) (Xd rfl (qCv Tryz.underlying3 Tryz.underlying5 rfl rfl rfl (Vr _) (qBaB XaL Tryz.underlying64 Tryz.sizeOf5 rfl rfl rfl (FillB.one rfl rfl (FillB.one rfl rfl FillB.nil)) ?_)));clear F a;intro a F;refine sBsA H Tryz.underlying34 Tryz.sizeOf64 Tryz.zeroValue64 rfl F rfl rfl rfl rfl rfl ?_;clear F a H;intro b26 a w F H
   refine G7 (bytes:=2) H 1 Tryz.underlying34 Tryz.typeInfo64 rfl rfl rfl rfl rfl rfl F rfl rfl rfl rfl rfl (H.whole 0 rfl) rfl ?s1 ?s2 ?_
   case s1=>rfl
   case s2=>omega
   clear F a H;intro A27 c27 a w F H;refine Xa F rfl (qNK hK11 (WN (Xd rfl (Xd rfl (Xj rfl rfl (XcW (n:=s) (m:=1) hs0 hs) (Xj rfl rfl (XaI (n:=s) (m:=s - 1) hs (by omega)) (Xh rfl ?_)))))));clear hK11;clear F a;intro a F;refine sNil ?_
   (refine ⟨_,?_,_,⟨s &&& (s - 1),acc++[Vm j (tzN s)],_,A27,c27,rfl,rfl,?_,?_,?_,H.tail⟩,F.tt⟩
    · have:=Vf s;omega
    · rw [List.map_append,← hrows];rfl
    · have:=Vf s;omega
    · rw [List.append_assoc];exact hacc)
  replace h14:=UM h14
  have hs0:s=0:=by omega
  rw [hs0] at hacc
  have hacc':acc=XK f (j+1):=by rw [← hacc];exact (List.append_nil _).symm
  rw [hrows,List.length_map,hacc'] at F H;refine wp_exit ?_;refine hK7 _ _ (cReg ?_);clear hK7
  refine Xm F rfl rfl (XJ (j:=1) ?_) ?_
  focus omega
  clear F a;intro a F;refine Xl F rfl ?_;clear F a;intro a F;refine sNil ?_
  (refine ⟨_,?_,_,⟨j+1,A3,c3,rfl,rfl,hjn,H⟩,F.tt⟩
   · omega)
 replace h9:=of_decide_eq_false h9
 have hjn:j=n:=by omega
 subst hjn;refine wp_exit ?_;refine hK3 _ _ (cSR fun K12 hK12=>Xl F rfl (Xh rfl (qNK hK12 ?_)));clear hK3 hK12;clear F a;intro a F;refine wp_ret ?_;refine bRet Tryz.results35 F rfl ?_
 exact ⟨_,_,rfl,H⟩
-- PaH
open Go.Proofs.Tryz
open Go.RowKit
set_option maxRecDepth 100000
section
variable {P:Program} {l:List Oper} {Q:Exit→Act→World→Prop} {N:Nat} {a:Act} {env:List (Nat × Value)} {rest:List Oper} {d:Tmp} {ty:TypeId} {pos:String} {af:Array Edge} {g:Option (Nat × Bool)} {w:World}
theorem Df {t e:TypeId} {x hi:Operand} {b o n j sz:Nat} {k:IntKind} (ht:P.underlying t=some (.array n e)) (hz:∀ w,(sizeOf e).run P w = .ok sz w) (F:Has N a env) (hx:ev env x=some (.pointer (some ⟨b,o,none⟩))) (hh:ev env hi=some (.int k (j:Int))) (hj:j≤n) :
   (execOp a.eval ⟨some d,.slice t x none (some hi) none,ty,pos,af,g⟩).run P w = .ok (.value (.slice (some ⟨b,o,none⟩) j n)) w:=by
 have he:P.elem t=e:=by simp [Program.elem,ht]
 have hn:P.arrayLen t=n:=by simp [Program.arrayLen,ht]
 have h1:=run_sliceAt_array_h (P:=P) w t ⟨b,o,none⟩ (by rw [he,hn];exact ht) k (j:Int) (by omega) (by rw [hn];omega)
 rw [he,hz,hn] at h1
 simp only [execOp,Option.map_none,Option.map_some,F.eval hx,F.eval hh,Sem.run_bind,h1,Result.andThen_ok,slicedAt,Int.toNat_natCast,Sem.run_pure]
 split <;> simp [Addr.add]
end
theorem Ei (b o C:Nat) (rows:List (List Value)) (w0:World) (hR:RowsAt w0 (some ⟨b,o,none⟩) 7 rows) (hr:∀ r ∈ rows,r.length=7) (h1:∀ r ∈ rows,r.all (·.oneCell')=true) (hn:rows.length≤1000000) :
   Calls Tryz.prog 34 #[.slice (some ⟨b,o,none⟩) rows.length C] w0 fun e w'=>∃ A2 c2,e = .returned (.slice A2 rows.length c2)∧Own w0 none w' [.rws 45 7 (.slice A2 rows.length c2) rows]:=by
 have H:=Own.start w0 none
 refine XE func34 rfl ntmps34 rfl (fun a F=>?_);refine cSR fun K1 hK1=>Xa F rfl (qNK hK1 ?_);clear hK1;clear F a;intro a F;refine cSeq (fun K2 hK2=>?_);refine cSR fun K3 hK3=>Xl F rfl (Xj rfl rfl (bNil underlying33) (qNK hK3 ?_));clear hK3;clear F a;intro a F
 refine cIf F rfl (fun h4=>?_) (fun h4=>?_)
 ·
  cases h4
 refine wp_skip (hK2 _ _ (cSR fun K4 hK4=>?_));clear hK2;refine sBs (cs:=[]) H underlying33 sizeOf45 zeroValue45 rfl F rfl rfl rfl rfl rfl ?_;clear F a H;intro b5 a w F H
 replace H:=H.emptyRws 7
 refine Xl F rfl ?_;clear F a;intro a F;refine Xce (bytes:=16) H 0 underlying33 typeInfo45 rfl rfl rfl rfl rfl rfl F rfl rfl rfl rfl rfl (by rfl) (((hR.own H).flat hr)) (hr) (h1) ((by simp only [List.length_nil];omega)) ?_;clear F a H;intro A7 c7 a w F H;refine Xa F rfl (qNK hK4 ?_);clear hK4;clear F a;intro a F;refine wp_ret ?_;refine bRet results34 F rfl ?_
 simp only [List.nil_append] at H
 exact ⟨_,_,rfl,H.pick 0 rfl⟩
def Yw (r:RunP):List Ev:=(List.range r.many).map r.ev
theorem VE (r:RunP):(Yw r).length=r.many:=by unfold Yw;rw [List.length_map,List.length_range]
theorem Bq (r:RunP) {k j:Nat} (hk:k < 24) (hj:j < 7):r.cells[19+k * 7+j]? = some ((r.ev k).cell j):=by
 rw [r.get (by omega),Zv _ (by omega),if_pos (by omega),show (19+k * 7+j - 19) / 7=k by omega,show (19+k * 7+j - 19) % 7=j by omega]
theorem CU {w:World} {b:Nat} {r:RunP} (hB:Wm w b r) (hm:r.many≤24):RowsAt w (some ⟨b,19,none⟩) 7 ((Yw r).map Ev.cells):=fun j cs hj=>by
 unfold Yw at hj
 rw [List.map_map,List.getElem?_map] at hj
 have hjm:j < r.many:=by
   rcases Nat.lt_or_ge j r.many with h | h
   · exact h
   · rw [List.getElem?_eq_none (by rw [List.length_range];exact h)] at hj;cases hj
 rw [List.getElem?_range hjm] at hj
 obtain rfl:=Option.some.inj hj
 refine ⟨b,19,rfl,fun i v hv=>?_⟩
 have hi:i < 7:=(List.getElem?_eq_some_iff.1 hv).1
 have e:(r.ev j).cells[i]? = some v:=hv
 rw [Ev.cells_at _ hi] at e
 obtain rfl:=Option.some.inj e
 exact hB.cell _ (Bq r (by omega) hi)
def Wg (A1:Option Addr) (c1:Nat) (A2:Option Addr) (c2:Nat) (A3:Option Addr) (c3:Nat) (A4:Option Addr) (c4:Nat) (r:RunP):List Value:=
 [.slice A1 r.many c1,.slice A2 (XK r.data r.many).length c2,.slice A3 (XK r.ctrl r.many).length c3,.slice A4 (XK r.att r.many).length c4,b8 (r.regs 0),b8 (r.regs 1),b8 (r.regs 2),b8 (r.regs 3),b8 (r.regs 4),b8 (r.regs 5),b8 (r.regs 6),b8 (r.regs 7)]
theorem LL {w:World} {b:Nat} {r:RunP} (hB:Wm w b r):w.rangeAt b 1 (bs 8 r.regs):=fun j v hv=>by
 have hj:j < 8:=by have:=(List.getElem?_eq_some_iff.1 hv).1;rwa [bs_length] at this
 have e:(bs 8 r.regs)[j]? = some (b8 (r.regs j)):=by unfold bs;rw [List.getElem?_map,List.getElem?_range hj];rfl
 rw [e] at hv
 obtain rfl:=Option.some.inj hv
 exact hB.cell _ (Lm r hj)
def Gt (A1:Option Addr) (c1:Nat) (A2:Option Addr) (c2:Nat) (A3:Option Addr) (c3:Nat) (A4:Option Addr) (c4:Nat) (r:RunP):List Res:=
 [.rws 45 7 (.slice A1 r.many c1) ((Yw r).map Ev.cells),.rws 64 2 (.slice A2 (XK r.data r.many).length c2) ((XK r.data r.many).map prC),.rws 64 2 (.slice A3 (XK r.ctrl r.many).length c3) ((XK r.ctrl r.many).map prC),.rws 64 2 (.slice A4 (XK r.att r.many).length c4) ((XK r.att r.many).map prC)]
set_option maxHeartbeats 2000000 in
theorem MV (b:Nat) (r:RunP) (w0:World) (hB:Wm w0 b r) (hT:TabAt w0) (hm:r.many≤24) (hs:SetsOk r) :
   Calls Tryz.prog 21 #[.pointer (some ⟨b,0,none⟩)] w0 fun e w'=>∃ A1 c1 A2 c2 A3 c3 A4 c4,e = .returned (.agg (Wg A1 c1 A2 c2 A3 c3 A4 c4 r).toArray)∧Own w0 none w' (Gt A1 c1 A2 c2 A3 c3 A4 c4 r):=by
 have H:=Own.start w0 none
 have hW:w0.rangeAt b 0 r.cells:=GW hB
 have hM:w0.cell? ⟨b,18,none⟩=some (Value.int .i64 (r.many:Int)):=hB.cell _ (Ub r)
 have hE:=CU hB hm
 have hel:=VE r
 have hcl:=Ei b 19 24 ((Yw r).map Ev.cells)
 rw [List.length_map,hel] at hcl;refine XE func21 rfl ntmps21 rfl (fun a F=>?_);refine cSR fun K1 hK1=>?_;refine sAl H zeroValue37 F rfl rfl ?_;clear F a H;intro b2 a w F H;refine nK hK1 ?_;clear hK1;refine cSeq (fun K2 hK2=>?_);refine cRegRO (by kernel_rfl) H ?_;replace H:=H.drew;refine Xt 0 rfl F rfl (fun w=>rMv F rfl) H qq0 (Xz 1 rfl rfl rfl (fun a F w H=>rNc F rfl) H qq0 (Xu 2 rfl rfl (fun a F w=>rFa (f:=5) (k:=19) underlying71 rfl sizeOf68 rfl rfl F rfl) H qq0 (Xu 3 rfl rfl (fun a F w=>rMv F rfl) H qq0 (Xz 4 rfl rfl rfl (fun a F w H=>rNc F rfl) H qq0 (Xu 5 rfl rfl (fun a F w=>rFa (f:=4) (k:=18) underlying71 rfl sizeOf3 rfl rfl F rfl) H qq0 (Xz 6 rfl rfl rfl (fun a F w H=>rLd isAgg3 F rfl (H.arg hM)) H qq0 ?_))))));clear F a;intro a F
 refine XA (k:=7) (i:=7) rfl F rfl rfl (fun w H=>Df underlying68 sizeOf45 F rfl rfl ?_) H (fun _ _ _ h=>h) ?_
 focus (omega)
 clear F a;intro a F;refine Xt 9 rfl F rfl (fun w=>rMv F rfl) H qq0 (Xz 10 rfl rfl rfl (fun a F w H=>rNc F rfl) H qq0 (Xu 11 rfl rfl (fun a F w=>rFa (f:=6) (k:=187) underlying71 rfl sizeOf69 rfl rfl F rfl) H qq0 (Xu 12 rfl rfl (fun a F w=>rMv F rfl) H qq0 (Xz 13 rfl rfl rfl (fun a F w H=>rNc F rfl) H qq0 (Xu 14 rfl rfl (fun a F w=>rFa (f:=4) (k:=18) underlying71 rfl sizeOf3 rfl rfl F rfl) H qq0 (Xz 15 rfl rfl rfl (fun a F w H=>rLd isAgg3 F rfl (H.arg hM)) H qq0 ?_))))));clear F a;intro a F
 refine XA (k:=15) (i:=16) rfl F rfl rfl (fun w H=>Df underlying69 sizeOf66 F rfl rfl ?_) H (fun _ _ _ h=>h) ?_
 focus (omega)
 clear F a;intro a F;refine Xt 18 rfl F rfl (fun w=>rMv F rfl) H qq0 (Xz 19 rfl rfl rfl (fun a F w H=>rNc F rfl) H qq0 (Xu 20 rfl rfl (fun a F w=>rFa (f:=7) (k:=211) underlying71 rfl sizeOf69 rfl rfl F rfl) H qq0 (Xu 21 rfl rfl (fun a F w=>rMv F rfl) H qq0 (Xz 22 rfl rfl rfl (fun a F w H=>rNc F rfl) H qq0 (Xu 23 rfl rfl (fun a F w=>rFa (f:=4) (k:=18) underlying71 rfl sizeOf3 rfl rfl F rfl) H qq0 (Xz 24 rfl rfl rfl (fun a F w H=>rLd isAgg3 F rfl (H.arg hM)) H qq0 ?_))))));clear F a;intro a F
 refine XA (k:=23) (i:=25) rfl F rfl rfl (fun w H=>Df underlying69 sizeOf66 F rfl rfl ?_) H (fun _ _ _ h=>h) ?_
 focus (omega)
 clear F a;intro a F;refine Xt 27 rfl F rfl (fun w=>rMv F rfl) H qq0 (Xz 28 rfl rfl rfl (fun a F w H=>rNc F rfl) H qq0 (Xu 29 rfl rfl (fun a F w=>rFa (f:=8) (k:=235) underlying71 rfl sizeOf69 rfl rfl F rfl) H qq0 (Xu 30 rfl rfl (fun a F w=>rMv F rfl) H qq0 (Xz 31 rfl rfl rfl (fun a F w H=>rNc F rfl) H qq0 (Xu 32 rfl rfl (fun a F w=>rFa (f:=4) (k:=18) underlying71 rfl sizeOf3 rfl rfl F rfl) H qq0 (Xz 33 rfl rfl rfl (fun a F w H=>rLd isAgg3 F rfl (H.arg hM)) H qq0 ?_))))));clear F a;intro a F
 refine XA (k:=31) (i:=34) rfl F rfl rfl (fun w H=>Df underlying69 sizeOf66 F rfl rfl ?_) H (fun _ _ _ h=>h) ?_
 focus (omega)
 clear F a;intro a F;refine Xt 36 rfl F rfl (fun w=>rMv F rfl) H qq0 (Xz 37 rfl rfl rfl (fun a F w H=>rNc F rfl) H qq0 (Xu 38 rfl rfl (fun a F w=>rFa (f:=1) (k:=1) underlying71 rfl sizeOf35 rfl rfl F rfl) H qq0 (Xz 39 rfl rfl rfl (fun a F w H=>rLrB underlying35 rfl sizeOf35 F rfl (H.argR (LL hB))) H qq0 ?_)));clear F a;intro a F;refine Xx (k:=36) (i:=8) rfl (by kernel_rfl) F (XS call34 F rfl rfl (hcl _ (hE.own H) (by intro q hq;obtain ⟨x,_,rfl⟩:=List.mem_map.1 hq;rfl) (by intro q hq;obtain ⟨x,_,rfl⟩:=List.mem_map.1 hq;rfl) (by omega)) ?_);rintro e w ⟨A1,c1,rfl,H2⟩;replace H:=H.join H2;clear H2;refine ⟨_,rfl,?_⟩;clear F a;intro a F;refine XM H.tail ?_;refine Xx (k:=37) (i:=17) rfl (by kernel_rfl) F (XS call35 F rfl rfl (Gx b 187 24 r.many r.data _ (hT.own H) hm hs.data (fun k hk=>H.arg (hB.cell _ (Uc r (by omega))))) ?_);rintro e w ⟨A2,c2,rfl,H2⟩;replace H:=H.join H2;clear H2;refine ⟨_,rfl,?_⟩;clear F a;intro a F;refine XM H.tail.tail ?_;refine Xx (k:=38) (i:=26) rfl (by kernel_rfl) F (XS call35 F rfl rfl (Gx b 211 24 r.many r.ctrl _ (hT.own H) hm hs.ctrl (fun k hk=>H.arg (hB.cell _ (Ud r (by omega))))) ?_);rintro e w ⟨A3,c3,rfl,H2⟩;replace H:=H.join H2;clear H2;refine ⟨_,rfl,?_⟩;clear F a;intro a F;refine XM H.tail.tail.tail ?_;refine Xx (k:=39) (i:=35) rfl (by kernel_rfl) F (XS call35 F rfl rfl (Gx b 235 24 r.many r.att _ (hT.own H) hm hs.att (fun k hk=>H.arg (hB.cell _ (U6 r (by omega))))) ?_)
 rintro e w ⟨A4,c4,rfl,H2⟩;replace H:=H.join H2;clear H2;refine ⟨_,rfl,?_⟩;clear F a;intro a F;refine XM H.tail.tail.tail.tail ?_;refine Xw 40 rfl F rfl rfl (fun w H=>rBd (cs:=Wg A1 c1 A2 c2 A3 c3 A4 c4 r) (places:=[(0,1),(1,1),(2,1),(3,1),(4,8)]) zeroValue37 underlying37 (by kernel_rfl) F rfl rfl) H.tail.tail.tail.tail qq0 ?_;clear F a;intro a F
 refine Xx (k:=41) (i:=41) rfl (by kernel_rfl) F (oSr H 4 ?si F rfl rfl ?s1 rfl rfl ?_)
 case si=>exact XC sizeOf37
 case s1=>rfl
 clear H;intro w H;refine XF (by kernel_rfl) H ?_;refine eNil (k:=42) (by kernel_rfl) ?_;refine hK2 _ _ ?_;clear hK2;refine wp_ret ?_;refine UX results21 F rfl underlying37 rfl H 4 rfl sizeOf37 rfl ?_
 exact ⟨A1,c1,A2,c2,A3,c3,A4,c4,rfl,H.sel [3,2,1,0] rfl rfl⟩
-- PaI
open Go.Proofs.Tryz
open Go.RowKit
set_option maxRecDepth 100000
section
variable {P:Program} {N:Nat} {a:Act} {env:List (Nat × Value)} {w w0:World} {row:Option Nat} {rs:List Res}
theorem Bp {st:TypeId} {b i n:Nat} {cs:List Value} {bt:TypeId} {dd:TypeDesc} (H:Own w0 row w rs) (hu:P.underlying st=some dd) (hdd:dd.isRow=true) (hz:∀ w,(sizeOf st).run P w = .ok n w) (hn:Nat.beq cs.length n=true) (hi:rs[i]? = some (.blk b cs bt)):(loadVar st ⟨b,0,none⟩).run P w = .ok (.agg cs.toArray) w:=
 run_loadVar_mid (P:=P) w b 0 st cs dd (GW (H.blk i hi)) hu hdd (by rw [Nat.eq_of_beq_eq_true hn];exact XC hz)
theorem Vp {fn:Func} {R:Ending→World→Prop} {t u u2:Tmp} {st:TypeId} {b n:Nat} {cs:List Value} {bt:TypeId} {dd:TypeDesc} {y y2:Value} (hres:fn.results = #[.cell t st,.tmp u,.tmp u2]) (F:Has N a env) (hv:lk env t=some (.pointer (some ⟨b,0,none⟩))) (hy:lk env u=some y) (hy2:lk env u2=some y2)
   (hu:P.underlying st=some dd) (hdd:dd.isRow=true) (H:Own w0 row w rs) (i:Nat) (hi:rs[i]? = some (.blk b cs bt)) (hz:∀ w,(sizeOf st).run P w = .ok n w) (hn:Nat.beq cs.length n=true) (h:R (.returned (.tuple #[.agg cs.toArray,y,y2])) w):bodyPost P fn R .ret a w:=by
 refine bodyPost_ret (v:=.tuple #[.agg cs.toArray,y,y2]) ?_ F.nod h
 have h1:=Bp (P:=P) H hu hdd hz hn hi
 unfold results
 rw [hres,Array.mapM_eq_mapM_toList]
 simp [h1,GG (F.get t _ hv),Ni,GG (F.get u _ hy),GG (F.get u2 _ hy2),Sem.run_bind]
end
structure PathP where
 evs:List Ev
 data:List Pr
 ctrl:List Pr
 rmw:List Pr
 regs:By
def ZZ:PathP:=⟨[],[],[],[],zb⟩
def XX (r:RunP):PathP:=⟨Yw r,XK r.data r.many,XK r.ctrl r.many,XK r.att r.many,r.regs⟩
def PathP.cells (p:PathP) (A1:Option Addr) (c1:Nat) (A2:Option Addr) (c2:Nat) (A3:Option Addr) (c3:Nat) (A4:Option Addr) (c4:Nat):List Value:=
 [.slice A1 p.evs.length c1,.slice A2 p.data.length c2,.slice A3 p.ctrl.length c3,.slice A4 p.rmw.length c4,b8 (p.regs 0),b8 (p.regs 1),b8 (p.regs 2),b8 (p.regs 3),b8 (p.regs 4),b8 (p.regs 5),b8 (p.regs 6),b8 (p.regs 7)]
def PathP.res (p:PathP) (A1:Option Addr) (c1:Nat) (A2:Option Addr) (c2:Nat) (A3:Option Addr) (c3:Nat) (A4:Option Addr) (c4:Nat):List Res:=
 [.rws 45 7 (.slice A1 p.evs.length c1) (p.evs.map Ev.cells),.rws 64 2 (.slice A2 p.data.length c2) (p.data.map prC),.rws 64 2 (.slice A3 p.ctrl.length c3) (p.ctrl.map prC),.rws 64 2 (.slice A4 p.rmw.length c4) (p.rmw.map prC)]
structure FR where
 path:PathP
 more:Bool
 err:Nat
def Xbu:Fol→FR
 | .wants=>⟨ZZ,true,0⟩
 | .many=>⟨ZZ,false,5⟩
 | .done r=>⟨XX r,false,0⟩
def X0 (l:List Ins) (reads:List UInt8):FR:=if XH 6 l=true then Xbu (UE l reads) else ⟨ZZ,false,2⟩
def zCells:List Value:=[.slice none 0 0,.slice none 0 0,.slice none 0 0,.slice none 0 0,b8 0,b8 0,b8 0,b8 0,b8 0,b8 0,b8 0,b8 0]
def My (q:FR) (w0:World) (e:Ending) (w':World):Prop:=
 ∃ A1 c1 A2 c2 A3 c3 A4 c4,e = .returned (.tuple #[.agg (q.path.cells A1 c1 A2 c2 A3 c3 A4 c4).toArray,.bool q.more,.int .i64 (q.err:Int)])∧Own w0 none w' (q.path.res A1 c1 A2 c2 A3 c3 A4 c4)
theorem U8 {w0 w:World} {rs:List Res} (H:Own w0 none w rs) (more:Bool) (err:Nat):My ⟨ZZ,more,err⟩ w0 (.returned (.tuple #[.agg zCells.toArray,.bool more,.int .i64 (err:Int)])) w:=
 ⟨none,0,none,0,none,0,none,0,rfl,((((H.nilRws 64 2).nilRws 64 2).nilRws 64 2).nilRws 45 7).sel [0,1,2,3] rfl rfl⟩
theorem B3 {w0 w:World} {r:RunP} {A1:Option Addr} {c1:Nat} {A2:Option Addr} {c2:Nat} {A3:Option Addr} {c3:Nat} {A4:Option Addr} {c4:Nat} (H:Own w0 none w (Gt A1 c1 A2 c2 A3 c3 A4 c4 r)) :
   My ⟨XX r,false,0⟩ w0 (.returned (.tuple #[.agg (Wg A1 c1 A2 c2 A3 c3 A4 c4 r).toArray,.bool false,.int .i64 0])) w:=by
 have h:=VE r
 refine ⟨A1,c1,A2,c2,A3,c3,A4,c4,?_,?_⟩
 · have e:(XX r).cells A1 c1 A2 c2 A3 c3 A4 c4=Wg A1 c1 A2 c2 A3 c3 A4 c4 r:=by
     unfold PathP.cells Wg XX
     simp only [h]
   simp only [e]
   rfl
 · have e:(XX r).res A1 c1 A2 c2 A3 c3 A4 c4=Gt A1 c1 A2 c2 A3 c3 A4 c4 r:=by
     unfold PathP.res Gt XX
     simp only [h]
   rw [show (FR.mk (XX r) false 0).path=XX r from rfl,e]
   exact H
theorem Gz {w0 w:World} {rs:List Res} (H:Own w0 none w rs) (i:Nat) {b:Nat} {cs:List Value} {t:TypeId} (hi:rs[i]? = some (.blk b cs t)) {A:Option Addr} {sz:Nat} {rows:List (List Value)} (h:RowsAt w0 A sz rows) (hr:∀ r ∈ rows,0 < r.length):BG w b A sz rows:=fun j cs' hj=>by
 obtain ⟨c,off,e,hR⟩:=h j cs' hj
 refine ⟨c,off,e,fun hcb=>?_,H.argR hR⟩
 have h0:=hr _ (List.mem_of_getElem? hj)
 obtain ⟨v,hv⟩:∃ v,cs'[0]? = some v:=⟨_,List.getElem?_eq_getElem h0⟩
 have h1:c < w0.heap.size:=World.block_lt_of_cell? w0 _ (hR 0 v hv)
 rcases (H.foot i _ hi b rfl).1 with h2 | h2
 · omega
 · cases h2
theorem DP {l:List Ins}:∀ r ∈ l.map Ins.cells,0 < r.length:=fun r hr=>by
 obtain ⟨x,_,rfl⟩:=List.mem_map.1 hr
 exact Nat.zero_lt_succ _
theorem Qa {l:List Ins} {r:RunP} (h:X2 l (XD l r)=true):goP l [] r = .wants:=by unfold goP;rw [if_pos h]
theorem Mg {l:List Ins} {r:RunP} (h:X2 l (XD l r)=false):goP l [] r = .done (XD l r):=by unfold goP;rw [if_neg (fun e=>Bool.noConfusion (h.symm.trans e))]
theorem Mf {l:List Ins} {r:RunP} {v:UInt8} {vs:List UInt8} (h:X2 l (XD l r)=false):goP l (v :: vs) r = .many:=by unfold goP;rw [if_neg (fun e=>Bool.noConfusion (h.symm.trans e))]
theorem CN {l:List Ins} {r:RunP} {v:UInt8} {vs:List UInt8} (h:X2 l (XD l r)=true):goP l (v :: vs) r=goP l vs (X8 (Y0 l (XD l r)) v (XD l r)):=by rw [goP,if_pos h]
theorem Zb {l:List Ins} {reads:List UInt8} {q:Fol} (hl:XH 6 l=true) (h:UE l reads=q):X0 l reads=Xbu q:=by unfold X0;rw [if_pos hl,h]
theorem GI {l:List Ins} {reads:List UInt8} (hl:XH 6 l=false):X0 l reads=⟨ZZ,false,2⟩:=by unfold X0;rw [if_neg (fun e=>Bool.noConfusion (hl.symm.trans e))]
theorem Be {reads:List UInt8} {k:Nat} {v:UInt8} (h:reads[k]? = some v):reads.drop k=v :: reads.drop (k+1):=by
 obtain ⟨h1,rfl⟩:=List.getElem?_eq_some_iff.1 h
 exact List.drop_eq_getElem_cons h1
set_option maxHeartbeats 2000000 in
theorem Eq (A:Option Addr) (C:Nat) (l:List Ins) (RA:Option Addr) (RC:Nat) (reads:List UInt8) (w0:World) (hA:RowsAt w0 A 10 (l.map Ins.cells)) (hn:l.length≤9223372036854775807) (hR:BytesAt w0 RA reads) (hrn:reads.length≤9223372036854775806) (hN:NeedsAt w0) (hT:TabAt w0) :
   Calls Tryz.prog 6 #[.slice A l.length C,.slice RA reads.length RC] w0 (My (X0 l reads) w0):=by
 have H:=Own.start w0 none
 refine XE func6 rfl ntmps6 rfl (fun a F=>?_);refine cSR fun K1 hK1=>?_;refine sAl H zeroValue37 F rfl rfl ?_;clear F a H;intro b4 a w F H;refine Xa F rfl (Xh rfl (qNK hK1 ?_));clear hK1;clear F a;intro a F;refine cSeq (fun K2 hK2=>?_);refine cSR fun K3 hK3=>Xl F rfl ?_;clear F a;intro a F;refine Xn call18 F rfl (Jj A C l _ (hA.own H) (hN.own H) hn) (gG H ?_);clear F a H;intro a w F H;refine UV F rfl rfl rfl (qNK hK3 ?_);clear hK3;clear F a;intro a F
 refine cIf F rfl (fun h11=>?_) (fun h11=>?_)
 ·
  replace h11:=ZA h11;refine cSR fun K4 hK4=>sBd (cs:=zCells) (places:=[(0,1),(1,1),(2,1),(3,1),(4,8)]) zeroValue37 underlying37 (by kernel_rfl) F rfl rfl rfl rfl ?_;clear F a;intro a F
  refine sSr H 0 ?si F rfl rfl rfl ?s1 rfl rfl ?_
  case si=>exact XC sizeOf37
  case s1=>rfl
  clear H;intro w H;refine Xa F rfl (Xh rfl (qNK hK4 ?_));clear hK4;clear F a;intro a F;refine wp_ret ?_;simp only [Exit.then];refine Vp results6 F rfl rfl rfl underlying37 rfl H 0 rfl sizeOf37 rfl ?_
  (have hl:XH 6 l=false:=h11
   rw [GI hl]
   exact U8 H false 2)
 replace h11:=ZB h11
 have hl:XH 6 l=true:=by exact h11
 refine wp_skip (hK2 _ _ (cSR fun K5 hK5=>?_));clear hK2;refine sAl H zeroValue71 F rfl rfl ?_;clear F a H;intro b7 a w F H;refine nK hK5 (cSR fun K6 hK6=>Xa F rfl (qNK hK6 ?_));clear hK5 hK6;clear F a;intro a F;refine cSeq (fun K7 hK7=>?_);refine wp_block ?_
 refine cLoopS [0,1,4,7] (fun m ups w=>∃ (k:Nat) (r:RunP),m=reads.length - k∧ups=[(8,.int .i64 ((k:Nat):Int))]∧k≤reads.length∧InvR l r∧goP l (reads.drop k) r=UE l reads∧Own w0 none w [.blk b7 r.cells 71,.blk b4 zCells 37]) F (reads.length) [(8,.int .i64 ((0:Nat):Int))] ?_ ?_
 · exact ⟨0,zRun,rfl,rfl,Nat.zero_le _,WD l,rfl,H⟩
 clear F
 clear H
 intro m ups a w hI F
 obtain ⟨k,r,rfl,rfl,hk,hI',hg,H⟩:=hI
 refine cSeq (fun K8 hK8=>?_);refine cSR fun K9 hK9=>Xl F rfl ?_;clear F a;intro a F;refine Xn call19 F rfl (Gq b7 A C l r _ (H.blk 0 rfl) (Gz H 0 rfl hA DP) hl hI') ?_;rintro e w ⟨rfl,H2⟩
 replace H:=H.turned 0 rfl H2
 clear H2
 have hI2:=Vv hl hI'
 have hl12:=Z4 hl
 refine ⟨_,rfl,?_⟩;clear F a;intro a F;refine nK hK9 ?_;clear hK9
 refine cIf F rfl (fun h14=>?_) (fun h14=>?_)
 ·
  have hw:X2 l (XD l r)=true:=h14
  refine wp_skip (hK8 _ _ ?_);clear hK8;refine wp_block ?_;refine cSeq (fun K10 hK10=>?_);refine cSR fun K11 hK11=>Xl F rfl (Xd rfl (Xs underlying23 rfl (Xj rfl rfl ZQ (qNK hK11 ?_))));clear hK11;clear F a;intro a F
  refine cIf F rfl (fun h18=>?_) (fun h18=>?_)
  ·
   replace h18:=Yh h18
   have hke:k=reads.length:=by omega
   refine cSR fun K12 hK12=>sBd (cs:=zCells) (places:=[(0,1),(1,1),(2,1),(3,1),(4,8)]) zeroValue37 underlying37 (by kernel_rfl) F rfl rfl rfl rfl ?_;clear F a;intro a F
   refine sSr H 1 ?si F rfl rfl rfl ?s1 rfl rfl ?_
   case si=>exact XC sizeOf37
   case s1=>rfl
   clear H;intro w H;refine Xa F rfl (Xh rfl (qNK hK12 ?_));clear hK12;clear F a;intro a F;refine wp_ret ?_;refine xI ?_;refine Vp results6 F rfl rfl rfl underlying37 rfl H 1 rfl sizeOf37 rfl ?_
   (have hke:k=reads.length:=hke
    rw [hke,List.drop_length,Qa hw] at hg;rw [Zb hl hg.symm]
    exact U8 H true 0)
  replace h18:=Yi h18
  have hkl:k < reads.length:=by omega
  obtain ⟨hx,hrd⟩:=VN hw
  have hpl:=(List.getElem?_eq_some_iff.1 hx).1
  obtain ⟨c,off,rfl,hR1⟩:=hA _ (Y0 l (XD l r)).cells (by rw [List.getElem?_map,hx];rfl)
  obtain ⟨v,hv⟩:∃ v,reads[k]? = some v:=⟨_,List.getElem?_eq_getElem hkl⟩
  obtain ⟨c2,off2,rfl,hR2⟩:=hR.get hv
  refine wp_skip (hK10 _ _ ?_);clear hK10;refine cSeq (fun K13 hK13=>?_);refine cRegRO (by kernel_rfl) H ?_;replace H:=H.drew;refine Xt 0 rfl F rfl (fun w=>rMv F rfl) H qq0 (Xu 1 rfl rfl (fun a F w=>rFa (f:=0) (k:=0) underlying71 rfl sizeOf3 rfl rfl F rfl) H qq0 (Xz 2 rfl rfl rfl (fun a F w H=>rLd isAgg3 F rfl (show _=some (Value.int .i64 ((XD l r).pc:Int)) from H.cell 0 rfl (Zn _))) H qq0 ?_));clear F a;intro a F
  refine Xv (k:=3) (i:=3) rfl F rfl (fun w=>rIx underlying22 sizeOf61 F rfl rfl ?_) H (fun _ _ _ h=>h) ?_
  focus (omega)
  clear F a;intro a F
  refine XA (k:=4) (i:=4) rfl F rfl rfl (fun w H=>rLr underlying61 rfl ?si F rfl (H.argR hR1)) H (fun _ _ _ h=>h) ?_
  case si=>exact XC sizeOf61
  clear F a;intro a F;refine Xt 5 rfl F rfl (fun w=>rMv F rfl) H qq0 (Xu 6 rfl rfl (fun a F w=>rMv F rfl) H qq0 ?_);clear F a;intro a F
  refine Xv (k:=7) (i:=7) rfl F rfl (fun w=>rIx underlying23 sizeOf5 F rfl rfl ?_) H (fun _ _ _ h=>h) ?_
  focus (omega)
  clear F a;intro a F;refine Xw 8 rfl F rfl rfl (fun w H=>rLd isAgg5 F rfl (H.arg hR2)) H qq0 ?_;clear F a;intro a F;refine Xx (k:=9) (i:=9) rfl (by kernel_rfl) F (XS call20 F rfl rfl (VD b7 (XD l r) (Y0 l (XD l r)) v _ (H.blk 0 rfl) (Vi hl hx).inr (hI2.ok hl hpl) (Vi hl hx).op) ?_);rintro e w ⟨rfl,H2⟩
  replace H:=H.turned 0 rfl H2;clear H2
  refine ⟨_,rfl,?_⟩;clear F a;intro a F;refine XF (by kernel_rfl) H ?_;refine eNil (k:=10) (by kernel_rfl) ?_;refine hK13 _ _ (cReg (Xl F rfl ?_));clear hK13;clear F a;intro a F
  refine Xm F rfl rfl (XJ (j:=1) ?_) ?_
  focus omega
  clear F a;intro a F;refine Xa F rfl ?_;clear F a;intro a F;refine sNil ?_
  (refine ⟨_,?_,_,⟨k+1,X8 (Y0 l (XD l r)) v (XD l r),rfl,rfl,hkl,ZJ v hI2 hl hx,?_,H.sel [0,1] rfl rfl⟩,F.tt⟩
   · omega
   · rw [Be hv,CN hw] at hg;exact hg)
 have hw:X2 l (XD l r)=false:=h14
 refine wp_exit ?_;refine hK7 _ _ ?_;clear hK7;refine cSeq (fun K14 hK14=>?_);refine cSR fun K15 hK15=>Xl F rfl (Xd rfl (Xs underlying23 rfl (Xj rfl rfl YW (qNK hK15 ?_))));clear hK15;clear F a;intro a F
 refine cIf F rfl (fun h35=>?_) (fun h35=>?_)
 ·
  replace h35:=of_decide_eq_true h35;refine cSR fun K16 hK16=>sBd (cs:=zCells) (places:=[(0,1),(1,1),(2,1),(3,1),(4,8)]) zeroValue37 underlying37 (by kernel_rfl) F rfl rfl rfl rfl ?_;clear F a;intro a F
  refine sSr H 1 ?si F rfl rfl rfl ?s1 rfl rfl ?_
  case si=>exact XC sizeOf37
  case s1=>rfl
  clear H;intro w H;refine Xa F rfl (Xh rfl (qNK hK16 ?_));clear hK16;clear F a;intro a F;refine wp_ret ?_;simp only [Exit.then];refine Vp results6 F rfl rfl rfl underlying37 rfl H 1 rfl sizeOf37 rfl ?_
  (have hkl:k < reads.length:=by omega
   obtain ⟨v,hv⟩:∃ v,reads[k]? = some v:=⟨_,List.getElem?_eq_getElem hkl⟩
   rw [Be hv,Mf hw] at hg;rw [Zb hl hg.symm]
   exact U8 H false 5)
 replace h35:=of_decide_eq_false h35;refine wp_skip (hK14 _ _ (cSR fun K17 hK17=>?_));clear hK14;refine Xn call21 F rfl (MV b7 (XD l r) _ (H.blk 0 rfl) (hT.own H) (by have:=hI2.many;have:=hI2.pc;omega) hI2.sets) ?_;rintro e w ⟨A1,c1,A2,c2,A3,c3,A4,c4,rfl,H2⟩;replace H:=H.join H2;clear H2;refine ⟨_,rfl,?_⟩;clear F a;intro a F
 refine sSr H 5 ?si F rfl rfl rfl ?s1 rfl rfl ?_
 case si=>exact XC sizeOf37
 case s1=>rfl
 clear H;intro w H;refine Xa F rfl (Xh rfl (qNK hK17 ?_));clear hK17;clear F a;intro a F;refine wp_ret ?_;refine Vp results6 F rfl rfl rfl underlying37 rfl H 5 rfl sizeOf37 rfl ?_
 (have hke:k=reads.length:=by omega
  rw [hke,List.drop_length,Mg hw] at hg;rw [Zb hl hg.symm]
  exact B3 (H.sel [0,1,2,3] rfl rfl))
-- PaZ
open Go.RowKit
set_option maxRecDepth 100000
section
variable {P:Program} {w:World}
end
section
variable {P:Program} {l:List Oper} {Q:Exit→Act→World→Prop} {N:Nat} {a:Act} {env:List (Nat × Value)} {rest:List Oper} {d:Tmp} {ty:TypeId} {pos:String} {af:Array Edge} {g:Option (Nat × Bool)} {w0 w:World} {row:Option Nat} {rs:List Res}
end
-- SqD
open Go.RowKit
set_option maxRecDepth 100000
def Ys (l:List Ins) (dom:List UInt8):Nat→RunP→List RunP
 | 0,_=>[]
 | f+1,r=>if X2 l (XD l r)=true then dom.flatMap fun v=>Ys l dom f (X8 (Y0 l (XD l r)) v (XD l r)) else [XD l r]
def YY (l:List Ins) (dom:List UInt8):List RunP:=Ys l dom (l.length+1) zRun
theorem W0 {l:List Ins} {dom:List UInt8} {f:Nat} {r:RunP} (h:X2 l (XD l r)=false):Ys l dom (f+1) r=[XD l r]:=by
 rw [Ys,if_neg (fun e=>Bool.noConfusion (h.symm.trans e))]
theorem Wb {l:List Ins} {dom:List UInt8} {f:Nat} {r:RunP} (h:X2 l (XD l r)=true):Ys l dom (f+1) r=dom.flatMap fun v=>Ys l dom f (X8 (Y0 l (XD l r)) v (XD l r)):=by
 rw [Ys,if_pos h]
theorem Qe {α:Type} {g:UInt8→List α} {dom:List UInt8} {j:Nat} {v:UInt8} (h:dom[j]? = some v):(dom.take (j+1)).flatMap g=(dom.take j).flatMap g++g v:=by
 rw [List.take_add_one,h,List.flatMap_append];simp
theorem Xay {α:Type} {g:UInt8→List α} {dom:List UInt8} {j:Nat} {v:UInt8} (h:dom[j]? = some v) {q:List α} (hq:q <+: g v):(dom.take j).flatMap g++q <+: dom.flatMap g:=by
 obtain ⟨t,ht⟩:=hq
 have e:dom.flatMap g=(dom.take (j+1)).flatMap g++(dom.drop (j+1)).flatMap g:=by rw [← List.flatMap_append,List.take_append_drop]
 rw [e,Qe (g:=g) h,← ht]
 exact ⟨t++(dom.drop (j+1)).flatMap g,by simp⟩
theorem Uy {l:List Ins} (r:RunP):r.pc≤(XD l r).pc:=Vw (M:=fun r'=>r.pc≤r'.pc) (fun r' x h hx _=>Nat.le_trans h (by have:=Y2 x 0 r';omega)) _ r (Nat.le_refl r.pc)
theorem Own.suf {w0 w:World} {row:Option Nat} {ps ts:List Res} (H:Own w0 row w (ps++ts)):Own w0 row w ts:=by
 induction ps with
 | nil=>exact H
 | cons r ps ih=>exact ih H.tail
theorem XG:∀ {cs vs:List Value},cs.length=vs.length→Ya cs 0 vs=vs:=fun {cs vs} h=>by
 refine List.ext_getElem? fun i=>?_
 rw [ZM _ _ _ _ (by omega)]
 rcases Nat.lt_or_ge i vs.length with h1 | h1
 · rw [if_pos (by omega),Nat.sub_zero]
 · rw [if_neg (by omega),List.getElem?_eq_none (by omega),List.getElem?_eq_none h1]
theorem XbF {cs vs:List Value} (k:Nat) (hc:cs.length=k) (hv:vs.length=k):Ya cs 0 (List.take k (List.drop 0 vs))=vs:=by
 rw [List.drop_zero,List.take_of_length_le (by omega)]
 exact XG (hc.trans hv.symm)
theorem Own.inTail {w0 w:World} {row:Option Nat} {x y:Res} {ps qs:List Res} (H:Own w0 row w (x :: y :: (ps++qs))):Own w0 row w (x :: (ps++(y :: qs))):=H.perm (List.Perm.cons _ List.perm_middle.symm)
theorem Own.outTail {w0 w:World} {row:Option Nat} {x y:Res} {ps qs:List Res} (H:Own w0 row w (x :: (ps++(y :: qs)))):Own w0 row w (x :: y :: (ps++qs)):=H.perm (List.Perm.cons _ List.perm_middle)
namespace Md
set_option maxHeartbeats 4000000 in
theorem spread_any (l:List Ins) (dom:List UInt8) (hl:XH 6 l=true) (A:Option Addr) (C:Nat) (DA:Option Addr) (DC:Nat) (w0:World) (hA:RowsAt w0 A 10 (l.map Ins.cells)) (hdn:dom.length≤1000000) (lp:Nat) (J Jx:List RunP→List Res→Prop) (all:List RunP)
   (hY:∀ (pre:List RunP) (x:RunP) (b:Nat) (w1:World) (ps1 qs:List Res),J pre ps1→pre++[x] <+: all→InvR l x→Own w0 none w1 (.blk b x.cells 71 :: (ps1++qs)) →
     YieldAt Fence.wide 0 Tryz.prog lp #[.pointer (some ⟨b,0,none⟩)] w1 fun e w2=>∃ ps2,Own w0 none w2 (.blk b x.cells 71 :: (ps2++qs))∧((e = .returned (.bool true)∧J (pre++[x]) ps2)∨(e = .returned (.bool false)∧Jx (pre++[x]) ps2))) :
   ∀ (f:Nat) (r:RunP) (pre:List RunP) (b:Nat) (ps qs:List Res) (w1:World),l.length - r.pc < f→InvR l r→pre++Ys l dom f r <+: all→J pre ps→(∀ w,Own w0 none w qs→BytesAt w DA dom)→Own w0 none w1 (.blk b r.cells 71 :: (ps++qs)) →
     Calls Tryz.prog 41 #[.pointer (some ⟨b,0,none⟩),.slice A l.length C,.slice DA dom.length DC,.func (.yield lp) #[] #[]] w1 fun e w'=>∃ (c:Bool) (r':RunP) (ps':List Res),e = .returned (.bool c)∧Own w0 none w' (.blk b r'.cells 71 :: (ps'++qs))∧((c=true∧J (pre++Ys l dom f r) ps')∨(c=false∧∃ q,q <+: Ys l dom f r∧Jx (pre++q) ps')):=by
 intro f
 induction f with
 | zero=>intro r pre b ps qs w1 h;omega
 | succ f ih=>
   intro r pre b ps qs w1 hf hI hpre hJ hdom H
   refine XE Tryz.func41 rfl Tryz.ntmps41 rfl (fun a F=>?_);refine toMd F ?_;refine cSeq (fun K1 hK1=>?_);refine cReg ?_;refine Xa F rfl ?_;clear F a;intro a F;refine sNil ?_;refine hK1 _ _ ?_;clear hK1;refine cSeq (fun K2 hK2=>?_);refine cSeq (fun K3 hK3=>?_);refine cReg ?_;refine Xl F rfl (Xd rfl ?_);clear F a;intro a F;refine Xn Tryz.call19 F rfl (Gq b A C l r _ (H.blk 0 rfl) (Gz H 0 rfl hA DP) hl hI) ?_;rintro e w ⟨rfl,H2⟩
   replace H:=H.turned 0 rfl H2
   clear H2
   have hI2:=Vv hl hI
   have hl12:=Z4 hl
   have hpc2:=Uy (l:=l) r
   refine ⟨_,rfl,?_⟩;clear F a;intro a F;refine UV F rfl rfl rfl ?_;clear F a;intro a F;refine sNil ?_;refine hK3 _ _ ?_;clear hK3
   refine cIf F rfl (fun h15=>?_) (fun h15=>?_)
   ·
    replace h15:=ZA h15
    have hw:X2 l (XD l r)=false:=h15
    refine cSeq (fun K4 hK4=>?_);rw [W0 hw] at hpre;refine wpIn_region_lit ?_;refine iV F rfl rfl rfl (fun c h=>by cases h) (rMv F rfl) ?_;clear F a;intro a F;refine iV F rfl rfl rfl (fun c h=>by cases h) (rMv F rfl) ?_;clear F a;intro a F;refine iY F rfl rfl rfl rfl (hY pre (XD l r) b _ ps qs hJ hpre hI2 H) ?_;rintro e w ⟨ps2,H2,hc⟩
    obtain ⟨c9,rfl,hc2⟩:∃ c9:Bool,e = .returned (.bool c9)∧((c9=true∧J (pre++[XD l r]) ps2)∨(c9=false∧Jx (pre++[XD l r]) ps2)):=by
      rcases hc with ⟨h1,h2⟩ | ⟨h1,h2⟩
      · exact ⟨_,h1,.inl ⟨rfl,h2⟩⟩
      · exact ⟨_,h1,.inr ⟨rfl,h2⟩⟩
    refine ⟨_,rfl,?_⟩;clear F a;intro a F;refine iV F rfl rfl rfl (fun c h=>by cases h) (rAs F rfl) ?_;clear F a;intro a F;refine iNil ?_;refine hK4 _ _ ?_;clear hK4;refine wp_ret ?_;simp only [Exit.then];refine bRet Tryz.results41 F rfl ?_
    (refine ⟨c9,_,_,rfl,H2,?_⟩
     rw [W0 hw]
     rcases hc2 with ⟨h1,h2⟩ | ⟨h1,h2⟩
     · exact .inl ⟨h1,h2⟩
     · exact .inr ⟨h1,_,List.prefix_refl _,h2⟩)
   replace h15:=ZB h15
   have hw:X2 l (XD l r)=true:=h15
   refine wp_skip ?_;refine hK2 _ _ ?_;clear hK2;refine cSeq (fun K5 hK5=>?_);refine cSeq (fun K6 hK6=>?_);refine cReg ?_;refine Xl F rfl (Xs Tryz.underlying23 rfl (Xd rfl ?_));clear F a;intro a F;refine sNil ?_;refine hK6 _ _ ?_;clear hK6;refine wp_block ?_
   refine cLoopS [0,1,2,3,19,20] (fun m ups w=>∃ (j:Nat) (ps':List Res),m=dom.length - j∧ups=[(21,.int .i64 ((j:Nat):Int))]∧J (pre++(dom.take j).flatMap fun v=>Ys l dom f (X8 (Y0 l (XD l r)) v (XD l r))) ps'∧Own w0 none w (.blk b (XD l r).cells 71 :: (ps'++qs))) F (dom.length) [(21,.int .i64 ((0:Nat):Int))] ?_ ?_
   · exact ⟨0,ps,rfl,rfl,by simpa using hJ,H⟩
   clear F
   clear H
   intro m ups a w hI F
   obtain ⟨j,ps',rfl,rfl,hJ',H⟩:=hI
   refine cSeq (fun K7 hK7=>?_);refine cReg ?_;refine Xm F rfl rfl YW ?_;clear F a;intro a F;refine sNil ?_;refine hK7 _ _ ?_;clear hK7;refine cSeq (fun K8 hK8=>?_)
   refine cIf F rfl (fun h22=>?_) (fun h22=>?_)
   ·
    replace h22:=of_decide_eq_true h22
    have hjl:j < dom.length:=by omega
    obtain ⟨v,hv⟩:∃ v,dom[j]? = some v:=⟨_,List.getElem?_eq_getElem hjl⟩
    obtain ⟨bD,oD,rfl,hcell⟩:=(hdom _ H.tail.suf).get hv
    obtain ⟨hx,hrd⟩:=VN hw
    have hpl:=(List.getElem?_eq_some_iff.1 hx).1
    obtain ⟨bA,oA,rfl,hR1⟩:=hA _ (Y0 l (XD l r)).cells (by rw [List.getElem?_map,hx];rfl)
    refine wp_skip ?_;refine hK8 _ _ ?_;clear hK8;refine cSeq (fun K9 hK9=>?_);refine wp_block ?_;refine cSeq (fun K10 hK10=>?_);refine cReg ?_
    refine sIx Tryz.underlying23 Tryz.sizeOf5 F rfl rfl rfl rfl ?_ ?_
    focus (omega)
    clear F a;intro a F;refine sLd Tryz.isAgg5 F rfl rfl rfl hcell (Xh rfl ?_);clear F a;intro a F;refine sNil ?_;refine hK10 _ _ ?_;clear hK10;refine cSeq (fun K11 hK11=>?_);refine cReg ?_;refine Xl F rfl (Xk rfl ?_);clear F a;intro a F
    refine Xo Tryz.underlying71 rfl ?si F rfl (H.range 0 rfl _ 259) ?_
    case si=>exact XC Tryz.sizeOf71
    clear F a;intro a F;refine sAl H Tryz.zeroValue71 F rfl rfl ?_;clear F a H;intro b11 a w F H
    refine sSr H 0 ?si F rfl rfl rfl ?s1 rfl rfl ?_
    case si=>exact XC Tryz.sizeOf71
    case s1=>rfl
    clear H;intro w H;rw [XbF 259 rfl (RunP.len _)] at H;refine sNil ?_;refine hK11 _ _ ?_;clear hK11;refine cSeq (fun K12 hK12=>?_);refine cReg ?_;refine Xl F rfl (Xb (f:=0) (k:=0) Tryz.underlying71 rfl Tryz.sizeOf3 rfl rfl rfl (Xc Tryz.isAgg3 rfl (show _=some (Value.int .i64 ((XD l r).pc:Int)) from H.cell 0 rfl (Zn _)) ?_));clear F a;intro a F
    refine sIx Tryz.underlying22 Tryz.sizeOf61 F rfl rfl rfl rfl ?_ ?_
    focus (omega)
    clear F a;intro a F
    refine Xo Tryz.underlying61 rfl ?si F rfl (H.argR hR1) ?_
    case si=>exact XC Tryz.sizeOf61
    clear F a;intro a F;refine Xl F rfl ?_;clear F a;intro a F;refine Xn Tryz.call20 F rfl (VD b11 (XD l r) (Y0 l (XD l r)) v _ (H.blk 0 rfl) (Vi hl hx).inr (hI2.ok hl hpl) (Vi hl hx).op) ?_;rintro e w ⟨rfl,H2⟩
    replace H:=H.turned 0 rfl H2
    clear H2
    have hpcx:=Y2 (Y0 l (XD l r)) v (XD l r)
    have hIx:=ZJ v hI2 hl hx
    refine ⟨_,rfl,?_⟩;clear F a;intro a F;refine sNil ?_;refine hK12 _ _ ?_;clear hK12;refine cSeq (fun K13 hK13=>?_);refine cReg ?_;refine Xl F rfl (Xd rfl (Xd rfl ?_));clear F a;intro a F
    refine Xn Tryz.call41 F rfl (ih (X8 (Y0 l (XD l r)) v (XD l r)) (pre++(dom.take j).flatMap fun v=>Ys l dom f (X8 (Y0 l (XD l r)) v (XD l r))) b11 ps' (.blk b (XD l r).cells 71 :: qs) _ (by omega) hIx ((by
      rw [Wb hw] at hpre;rw [List.append_assoc,← Qe hv]
      refine List.IsPrefix.trans ?_ hpre
      have:=Xay (g:=fun v=>Ys l dom f (X8 (Y0 l (XD l r)) v (XD l r))) hv (List.prefix_refl _)
      rw [← Qe hv] at this
      exact (List.prefix_append_right_inj pre).2 this)) hJ' (fun w h=>hdom w h.tail) H.inTail) ?_
    rintro e w ⟨c9,r9,ps9,rfl,H2,hc9⟩
    replace H:=H2.outTail.tail
    clear H2
    refine ⟨_,rfl,?_⟩;clear F a;intro a F;refine UV F rfl rfl rfl ?_;clear F a;intro a F;refine sNil ?_;refine hK13 _ _ ?_;clear hK13
    refine cIf F rfl (fun h39=>?_) (fun h39=>?_)
    ·
     replace h39:=ZA h39;refine cSeq (fun K14 hK14=>?_);refine cReg ?_;refine Xa F rfl ?_;clear F a;intro a F;refine sNil ?_;refine hK14 _ _ ?_;clear hK14;refine wp_ret ?_;refine xI ?_;refine bRet Tryz.results41 F rfl ?_
     (refine ⟨false,_,_,rfl,H,.inr ⟨rfl,?_⟩⟩
      obtain ⟨q,hq,hx9⟩:∃ q,q <+: Ys l dom f (X8 (Y0 l (XD l r)) v (XD l r))∧Jx ((pre++(dom.take j).flatMap fun v=>Ys l dom f (X8 (Y0 l (XD l r)) v (XD l r)))++q) ps9:=by
        rcases hc9 with ⟨h1,_⟩ | ⟨_,h2⟩
        · simp_all
        · exact h2
      rw [Wb hw];rw [List.append_assoc] at hx9
      exact ⟨_,Xay (g:=fun v=>Ys l dom f (X8 (Y0 l (XD l r)) v (XD l r))) hv hq,hx9⟩)
    replace h39:=ZB h39;refine wp_skip ?_;refine hK9 _ _ ?_;clear hK9;refine cReg ?_
    refine Xm F rfl rfl (XJ (j:=1) ?_) ?_
    focus omega
    clear F a;intro a F;refine Xl F rfl ?_;clear F a;intro a F;refine sNil ?_
    have hJ9:J ((pre++(dom.take j).flatMap fun v=>Ys l dom f (X8 (Y0 l (XD l r)) v (XD l r)))++Ys l dom f (X8 (Y0 l (XD l r)) v (XD l r))) ps9:=by
      rcases hc9 with ⟨_,h2⟩ | ⟨h1,_⟩
      · exact h2
      · simp_all
    rw [List.append_assoc,← Qe hv] at hJ9
    exact ⟨_,by omega,_,⟨j+1,ps9,rfl,rfl,hJ9,H⟩,F.toD (by repeat (first | exact trivial | refine Le.cons rfl ?_))⟩
   replace h22:=of_decide_eq_false h22;refine wp_exit ?_;refine hK5 _ _ ?_;clear hK5;refine cSeq (fun K15 hK15=>?_);refine cReg ?_;refine Xa F rfl ?_;clear F a;intro a F;refine sNil ?_;refine hK15 _ _ ?_;clear hK15;refine wp_ret ?_;refine bRet Tryz.results41 F rfl ?_
   (obtain hjd:dom.length≤j:=by omega
    rw [List.take_of_length_le hjd] at hJ'
    exact ⟨true,_,_,rfl,H,.inl ⟨rfl,by rw [Wb hw];exact hJ'⟩⟩)
end Md
-- SqE
open Go.RowKit
set_option maxRecDepth 100000
theorem XaC {P:Program} {f:FuncId} {fn:Func} {c:Code} {args:List Value} {w:World} {R:Ending→World→Prop} {N:Nat}
   (hf:P.funcs[f]? = some fn) (hb:fn.body=some c) (hn:fn.ntmps=N) (hl:Nat.ble args.length N=true)
   (h:∀ a,Has N a (Vn args 0)→c.wpIn Fence.wide 0 P (Dw (bodyPostM Fence.wide 0 P fn R)) (wD a []) w):Calls P f args.toArray w R:=by
 subst hn
 refine callsIn_wide.1 (callsIn_of_wp_marks (n:=0) hf hb trivial ?_ rfl)
 refine wpIn_mono (h _ (Has.start hl)) (fun e a w h=>?_)
 cases e <;> first | exact h | exact h.elim
section
variable {P:Program} {N:Nat} {a:Act} {env:List (Nat × Value)} {w w0:World} {rs:List Res} {fn:Func} {R:Ending→World→Prop} {ds:List Deferred}
theorem Xa5 (h:LeavesInM Fence.wide 0 P fn a.tmps R ds .returning w):Dw (bodyPostM Fence.wide 0 P fn R) .ret (wD a ds) w:=h
theorem DF {D:Nat} {tmps:Array Value} (H:Own w0 none w rs) (i:Nat) (hi:rs[i]? = some (.obj D (.deferred (some [])))) (K:∀ w,Own w0 none w (rs.set i (.obj D (.deferred none)))→LeavesInM Fence.wide 0 P fn tmps R ds .returning w):LeavesInM Fence.wide 0 P fn tmps R (LZ D :: ds) .returning w:=
 ⟨by simp,.inl ⟨D,_,rfl,run_takeDeferred (H.pred i _ hi),K _ (H.putO i hi _)⟩⟩
theorem Nh {st:TypeId} {b:Nat} {v:Value} {bt:TypeId} (H:Own w0 none w rs) (hu:∀ w,(isAgg st).run P w = .ok false w) {i:Nat} (hi:rs[i]? = some (.blk b [v] bt)):(loadVar st ⟨b,0,none⟩).run P w = .ok v w:=by
 have h:=H.cell i (j:=0) hi rfl
 simp [loadVar,Sem.run_bind,hu,h,go_sem]
theorem NX {t u:Tmp} {st su:TypeId} {b c:Nat} {x y:Value} {bt ct:TypeId} (hres:fn.results = #[.cell t st,.cell u su]) (F:Has N a env) (hv:lk env t=some (.pointer (some ⟨b,0,none⟩))) (hw:lk env u=some (.pointer (some ⟨c,0,none⟩))) (hst:∀ w,(isAgg st).run P w = .ok false w) (hsu:∀ w,(isAgg su).run P w = .ok false w)
   (H:Own w0 none w rs) (i j:Nat) (hi:rs[i]? = some (.blk b [x] bt)) (hj:rs[j]? = some (.blk c [y] ct)) (h:R (.returned (.tuple #[x,y])) w):LeavesInM Fence.wide 0 P fn a.tmps R [] .returning w:=by
 refine ⟨.tuple #[x,y],?_,h⟩
 have h1:=Nh (P:=P) H hst hi
 have h2:=Nh (P:=P) H hsu hj
 unfold results
 rw [hres,Array.mapM_eq_mapM_toList]
 simp [h1,h2,GG (F.get t _ hv),GG (F.get u _ hw),Ni,Sem.run_bind]
theorem Xba {α:Type} {I:List α→List Res→Prop} {Ix:Code→List α→List Res→Prop} {xs:List α} {O:List Res→World→Prop} (ps2:List Res) (h:I xs ps2) (hO:O ps2 w):Cl I Ix xs O .normal a w:=⟨ps2,h,hO⟩
theorem rRet {α:Type} {I:List α→List Res→Prop} {Ix:Code→List α→List Res→Prop} {xs:List α} {O:List Res→World→Prop} (ps2:List Res) (h:Ix .ret xs ps2) (hO:O ps2 w):Cl I Ix xs O .ret a w:=⟨ps2,h,hO⟩
end
theorem Qm (A:Option Addr) (n C:Nat) (DA:Option Addr) (dn DC:Nat) (w0:World) :
   Calls Tryz.prog 25 #[.slice A n C,.slice DA dn DC] w0 fun e w'=>∃ b2 b3,e = .returned (.func (.func 40) #[] #[.pointer (some ⟨b2,0,none⟩),.pointer (some ⟨b3,0,none⟩)])∧Own w0 none w' [.blk b3 [.slice DA dn DC] 23,.blk b2 [.slice A n C] 22]:=by
 have H:=Own.start w0 none
 refine XE Tryz.func25 rfl Tryz.ntmps25 rfl (fun a F=>?_);refine cSR fun K1 hK1=>?_;refine sBx H F rfl rfl rfl ?_;clear F a H;intro b2 a w F H;refine sBx H F rfl rfl rfl ?_;clear F a H;intro b3 a w F H;refine Xa F rfl (qNK hK1 (qSR fun K2 hK2=>qFn rfl rfl rfl rfl (Xh rfl (qNK hK2 ?_))));clear hK1 hK2;clear F a;intro a F;refine wp_ret ?_;refine bRet Tryz.results25 F rfl ?_
 exact ⟨_,_,rfl,H⟩
theorem GM (l:List Ins) (dom:List UInt8) (hl:XH 6 l=true) (A:Option Addr) (C:Nat) (DA:Option Addr) (DC:Nat) (w0:World) (hA:RowsAt w0 A 10 (l.map Ins.cells)) (hdn:dom.length≤1000000) (ts:List Res) (b2 b3:Nat)
   (h2:∀ w,Own w0 none w ts→w.cell? ⟨b2,0,none⟩=some (.slice A l.length C)) (h3:∀ w,Own w0 none w ts→w.cell? ⟨b3,0,none⟩=some (.slice DA dom.length DC)) (hdom:∀ w,Own w0 none w ts→BytesAt w DA dom) :
   Iter Tryz.prog 40 #[.pointer (some ⟨b2,0,none⟩),.pointer (some ⟨b3,0,none⟩)] 71 RunP.cells (InvR l) (YY l dom) w0 ts:=by
 intro lp J Jx w1 ps H hJ hY
 refine callsIn_wide.2 ?_
 show Calls Tryz.prog 40 #[.func (.yield lp) #[] #[],.pointer (some ⟨b2,0,none⟩),.pointer (some ⟨b3,0,none⟩)] w1 _
 refine XE Tryz.func40 rfl Tryz.ntmps40 rfl (fun a F=>?_);refine cSR fun K1 hK1=>?_;refine sAl H Tryz.zeroValue71 F rfl rfl ?_;clear F a H;intro b4 a w F H;refine nK hK1 (cReg (sLd Tryz.isAgg22 F rfl rfl rfl (h2 _ H.tail.suf) (Xc Tryz.isAgg23 rfl (h3 _ H.tail.suf) (Xd rfl ?_))));clear hK1;clear F a;intro a F;refine Xn Tryz.call41 F rfl (Md.spread_any l dom hl A C DA DC w0 hA hdn lp J Jx (YY l dom) hY (l.length+1) zRun [] b4 ps ts _ (by have:zRun.pc=0:=rfl;omega) (WD l) (List.prefix_refl _) hJ hdom H) ?_;rintro e w ⟨c9,r9,ps9,rfl,H2,hc9⟩
 replace H:=H2.tail
 clear H2
 refine ⟨_,rfl,?_⟩;clear F a;intro a F;refine sNil ?_;refine bEnd Tryz.results40 F ?_
 refine ⟨⟨_,rfl⟩,ps9,H,?_⟩
 rcases hc9 with ⟨_,h⟩ | ⟨_,q,hq,h⟩
 · exact .inl h
 · exact .inr ⟨q,hq,h⟩
end Go.Proofs.YtagnefpgidbhnaaGreatDoor
