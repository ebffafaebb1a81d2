/- Plain Lean: a run of a thread as package path keeps it (places: 0 the Pc, 1 registers, 9 what they hang on, 17 control, 18 the NP of events, 19 events of 7 cell And more of this kind. Conditions: those of each theorem. -/
import Derived.Test.YtajfpcgbnflceaaGreatDoorAtK
set_option linter.unusedSimpArgs false
set_option linter.unusedVariables false
namespace Go.Proofs.YtajfpcgbnflceaaGreatDoor
open Go.Proofs.Tryz
open Go.RowKit
set_option maxRecDepth 100000
variable{a fn:UInt8}{b d i j k n:Nat}{cs:List Value}{e t:TypeId}{l:List Ins}{v:Value}{x:Ins}
structure Ev where
 kind:UInt8
 loc:UInt8
 val:UInt8
 mode:UInt8
 ins:UInt8
 pos:UInt8
def Ev.cells(e:Ev):List Value:=[.int .i64 0,b8 e.kind,b8 e.loc,b8 e.val,b8 e.mode,b8 e.ins,b8 e.pos]
def Ev.cell(e:Ev)(i:Nat):Value:=if i=0 then .int .i64 0 else if i=1 then b8 e.kind else if i=2 then b8 e.loc else if i=3 then b8 e.val else if i=4 then b8 e.mode else if i=5 then b8 e.ins else b8 e.pos
def zEv:Ev:=⟨0,0,0,0,0,0⟩
def GB{α:Type}(f:Nat->α)(j:Nat)(v:α):Nat->α:=λi=>if i=j then v else f i
structure RunP where
 pc:Nat
 regs:By
 deps:Nat->Nat
 control:Nat
 many:Nat
 ev:Nat->Ev
 data:Nat->Nat
 ctrl:Nat->Nat
 att:Nat->Nat
def u32(n:Nat):Value:=.int .u32 (n:Int)
def RunP.cell(r:RunP)(i:Nat):Value:=
 if i<1 then .int .i64 (r.pc:Int)else if i<9 then b8 (r.regs (i-1))else if i<17 then u32 (r.deps (i-9))else if i<18 then u32 r.control else if i<19 then .int .i64 (r.many:Int)
 else if i<187 then(r.ev ((i-19)/7)).cell ((i-19)%7)else if i<211 then u32 (r.data (i-187))else if i<235 then u32 (r.ctrl (i-211))else u32 (r.att (i-235))
def RunP.cells(r:RunP):List Value:=(List.range 259).map r.cell
def zRun:RunP:=⟨0,zb,λ_=>0,0,0,λ_=>zEv,λ_=>0,λ_=>0,λ_=>0⟩
def RunP.wPc(r:RunP)(n:Nat):RunP:={r with pc:=n}
def RunP.wReg(r:RunP)(d:Nat)(v:UInt8):RunP:={r with regs:=put r.regs d v}
def RunP.wDep(r:RunP)(d:Nat)(n:Nat):RunP:={r with deps:=GB r.deps d n}
def RunP.wControl(r:RunP)(n:Nat):RunP:={r with control:=n}
def RunP.wMany(r:RunP)(n:Nat):RunP:={r with many:=n}
def RunP.wEv(r:RunP)(k:Nat)(e:Ev):RunP:={r with ev:=GB r.ev k e}
def RunP.wData(r:RunP)(k:Nat)(n:Nat):RunP:={r with data:=GB r.data k n}
def RunP.wCtrl(r:RunP)(k:Nat)(n:Nat):RunP:={r with ctrl:=GB r.ctrl k n}
def RunP.wAtt(r:RunP)(k:Nat)(n:Nat):RunP:={r with att:=GB r.att k n}
theorem RunP.len(r:RunP):r.cells.length=259:=by simp[RunP.cells]
theorem RunP.get(r:RunP)(h:i<259):r.cells[i]?=some (r.cell i):=by
 unfold RunP.cells
 rw[AD,Av h];rfl
theorem RunP.set_of(r b:RunP)(h:∀i,i<259->b.cell i=if i=j then v else r.cell i):r.cells.set j v=b.cells:=by
 refine Ar λi=>?_
 rcases AN i 259 with hi|hi
 ·rw[b.get hi,h i hi,Am]
  by_cases e:j=i
  ·subst e
   rw[if_pos Z,if_pos Z,if_pos (by rw[r.len];exact hi)]
  ·rw[if_neg e,if_neg (Ne.symm e),r.get hi]
 ·rw[AV (by rw[F9,r.len];exact hi),AV (by rw[b.len];exact hi)]
theorem Xnp(r:RunP)(n:Nat):r.cells.set 0 (Ve (n:Int))=(r.wPc n).cells:=r.set_of _ λi c=>by
 unfold RunP.wPc
 unfold RunP.cell
 by_cases e:i=0
 ·subst e;rfl
 ·have b:¬i<1:=O
  rw[if_neg e]
  simp only[b,if_false]
theorem XoC(r:RunP)(hd:d<8)(v:UInt8):r.cells.set (1+d) (b8 v)=(r.wReg d v).cells:=r.set_of _ λi g=>by
 unfold RunP.wReg
 unfold RunP.cell
 by_cases e:i=1+d
 ·subst e
  rw[if_pos Z,if_neg O,if_pos O,show 1+d-1=d by omega]
  show b8 (put r.regs d v d)=_
  unfold put;rw[if_pos Z]
 ·rw[if_neg e]
  by_cases b:i<1
  ·rw[if_pos b,if_pos b]
  ·rw[if_neg b,if_neg b]
   by_cases c:i<9
   ·rw[if_pos c,if_pos c]
    show b8 (put r.regs d v (i-1))=_
    unfold put;rw[if_neg O]
   ·rw[if_neg c,if_neg c]
theorem XoD(r:RunP)(hd:d<8)(n:Nat):r.cells.set (9+d) (u32 n)=(r.wDep d n).cells:=r.set_of _ λi j=>by
 unfold RunP.wDep
 unfold RunP.cell
 by_cases e:i=9+d
 ·subst e
  rw[if_pos Z,if_neg O,if_neg O,if_pos O,show 9+d-9=d by omega]
  show u32 (GB r.deps d n d)=_
  unfold GB;rw[if_pos Z]
 ·rw[if_neg e]
  by_cases g:i<9
  ·by_cases b:i<1
   ·rw[if_pos b,if_pos b]
   ·rw[if_neg b,if_neg b,if_pos g,if_pos g]
  ·rw[if_neg O,if_neg g,if_neg (by omega:¬i<1),if_neg g]
   by_cases c:i<17
   ·rw[if_pos c,if_pos c]
    show u32 (GB r.deps d n (i-9))=_
    unfold GB;rw[if_neg O]
   ·rw[if_neg c,if_neg c]
theorem Xdh(r:RunP)(n:Nat):r.cells.set 17 (u32 n)=(r.wControl n).cells:=r.set_of _ λi j=>by
 unfold RunP.wControl
 unfold RunP.cell
 by_cases e:i=17
 ·subst e;rfl
 ·rw[if_neg e]
  by_cases b:i<17
  ·simp only[b,if_true]
  ·have d:¬i<18:=O
   have c:¬i<1:=O
   have g:¬i<9:=O
   simp only[b,d,c,g,if_false]
theorem Xle(r:RunP)(n:Nat):r.cells.set 18 (Ve (n:Int))=(r.wMany n).cells:=r.set_of _ λi m=>by
 unfold RunP.wMany
 unfold RunP.cell
 by_cases e:i=18
 ·subst e;rfl
 ·rw[if_neg e]
  by_cases b:i<18
  ·simp only[b,if_true]
  ·have d:¬i<19:=O
   have c:¬i<1:=O
   have g:¬i<9:=O
   have j:¬i<17:=O
   simp only[b,d,c,g,j,if_false]
theorem G1(r:RunP)(h:19<=i):r.cell i=if i<187 then(r.ev ((i-19)/7)).cell ((i-19)%7)else if i<211 then u32 (r.data (i-187))else if i<235 then u32 (r.ctrl (i-211))else u32 (r.att (i-235)):=by
 unfold RunP.cell
 rw[if_neg O,if_neg O,if_neg O,if_neg O,if_neg O]
theorem XaK(r b:RunP)(g:b.pc=r.pc)(j:b.regs=r.regs)(d:b.deps=r.deps)(c:b.control=r.control)(e:b.many=r.many)(h:i<19):b.cell i=r.cell i:=by
 unfold RunP.cell
 rw[g,j,d,c,e]
 simp only[h,if_true]
theorem XeH(r:RunP)(g:k<24)(n:Nat):r.cells.set (187+k) (u32 n)=(r.wData k n).cells:=r.set_of _ λi j=>by
 unfold RunP.wData
 rcases AN i 19 with h|h
 ·rw[if_neg O];exact XaK r {r with data:=GB r.data k n} Z Z Z Z Z h
 ·rw[G1 _ h,G1 _ h]
  by_cases e:i=187+k
  ·subst e
   rw[if_pos Z,if_neg O,if_pos O,show 187+k-187=k by omega]
   show u32 (GB r.data k n k)=_
   unfold GB;rw[if_pos Z]
  ·rw[if_neg e]
   by_cases c:i<187
   ·rw[if_pos c,if_pos c]
   ·rw[if_neg c,if_neg c]
    by_cases b:i<211
    ·rw[if_pos b,if_pos b]
     show u32 (GB r.data k n (i-187))=_
     unfold GB;rw[if_neg O]
    ·rw[if_neg b,if_neg b]
theorem XeI(r:RunP)(m:k<24)(n:Nat):r.cells.set (211+k) (u32 n)=(r.wCtrl k n).cells:=r.set_of _ λi j=>by
 unfold RunP.wCtrl
 rcases AN i 19 with h|h
 ·rw[if_neg O];exact XaK r {r with ctrl:=GB r.ctrl k n} Z Z Z Z Z h
 ·rw[G1 _ h,G1 _ h]
  by_cases e:i=211+k
  ·subst e
   rw[if_pos Z,if_neg O,if_neg O,if_pos O,show 211+k-211=k by omega]
   show u32 (GB r.ctrl k n k)=_
   unfold GB;rw[if_pos Z]
  ·rw[if_neg e]
   by_cases d:i<187
   ·rw[if_pos d,if_pos d]
   ·rw[if_neg d,if_neg d]
    by_cases c:i<211
    ·rw[if_pos c,if_pos c]
    ·rw[if_neg c,if_neg c]
     by_cases b:i<235
     ·rw[if_pos b,if_pos b]
      show u32 (GB r.ctrl k n (i-211))=_
      unfold GB;rw[if_neg O]
     ·rw[if_neg b,if_neg b]
theorem XoE(r:RunP)(m:k<24)(n:Nat):r.cells.set (235+k) (u32 n)=(r.wAtt k n).cells:=r.set_of _ λi j=>by
 unfold RunP.wAtt
 rcases AN i 19 with h|h
 ·rw[if_neg O];exact XaK r {r with att:=GB r.att k n} Z Z Z Z Z h
 ·rw[G1 _ h,G1 _ h]
  by_cases e:i=235+k
  ·subst e
   rw[if_pos Z,if_neg O,if_neg O,if_neg O,show 235+k-235=k by omega]
   show u32 (GB r.att k n k)=_
   unfold GB;rw[if_pos Z]
  ·rw[if_neg e]
   by_cases d:i<187
   ·rw[if_pos d,if_pos d]
   ·rw[if_neg d,if_neg d]
    by_cases c:i<211
    ·rw[if_pos c,if_pos c]
    ·rw[if_neg c,if_neg c]
     by_cases b:i<235
     ·rw[if_pos b,if_pos b]
     ·rw[if_neg b,if_neg b]
      show u32 (GB r.att k n (i-235))=_
      unfold GB;rw[if_neg O]
theorem Ev.cells_at(e:Ev)(h:i<7):e.cells[i]?=some (e.cell i):=by
 match i,h with
 |0,_|1,_|2,_|3,_|4,_|5,_|6,_=>rfl
theorem XqG(r:RunP)(j:k<24)(e:Ev):VZ r.cells (19+k*7) e.cells=(r.wEv k e).cells:=by
 unfold RunP.wEv
 have c:e.cells.length=7:=rfl
 refine Ar λi=>?_
 rcases AN i 259 with hi|hi
 ·have g:19+k*7+e.cells.length<=r.cells.length:=by rw[c,r.len];omega
  rw[RunP.get _ hi,Gz _ _ _ _ g,c]
  rcases AN i 19 with h|h
  ·rw[if_neg O,r.get hi]
   exact congrArg some (XaK r {r with ev:=GB r.ev k e} Z Z Z Z Z h).symm
  ·by_cases d:19+k*7<=i/\i<19+k*7+7
   ·rw[if_pos d,e.cells_at O,G1 _ h,if_pos O]
    show _=some ((GB r.ev k e ((i-19)/7)).cell ((i-19)%7))
    rw[show(i-19)/7=k by omega,show(i-19)%7=i-(19+k*7) by omega]
    unfold GB;rw[if_pos Z]
   ·rw[if_neg d,r.get hi,G1 _ h,G1 _ h]
    by_cases b:i<187
    ·rw[if_pos b,if_pos b]
     show _=some ((GB r.ev k e ((i-19)/7)).cell ((i-19)%7))
     unfold GB;rw[if_neg O]
    ·rw[if_neg b,if_neg b]
 ·rw[AV (by rw[GE,RunP.len];exact hi),AV (by rw[RunP.len];exact hi)]
def UX(b:Bool)(n:UInt8)(r:RunP):UInt8:=if b=true then r.regs n.toNat else n
def G2(b:Bool)(n:UInt8)(r:RunP):Nat:=if b=true then r.deps n.toNat else 0
def setP(d v:UInt8)(n:Nat)(r:RunP):RunP:=(r.wReg d.toNat v).wDep d.toNat n
def UL(c e d b:UInt8)(n:Nat)(r:RunP):RunP:=
 (((r.wEv r.many ⟨c,e,d,b,UInt8.ofNat r.pc,UInt8.ofNat r.many⟩).wData r.many n).wCtrl r.many r.control).wMany (r.many+1)
def En(k:Nat):Nat:=2^k
def Xai(x:Ins)(v:UInt8)(r:RunP):RunP:=setP x.dst v (En r.many) (UL 1 x.loc v x.mode 0 r)
def Mq(x:Ins)(r:RunP):RunP:=UL 2 x.loc (UX x.aR x.aN r) x.mode (G2 x.aR x.aN r) r
def Xo5(fn a b:UInt8):UInt8:=if fn=1 then a+b else if fn=2 then a-b else a^^^b
def QI(x:Ins)(r:RunP):RunP:=setP x.dst (Xo5 x.fn (UX x.aR x.aN r) (UX x.bR x.bN r)) (G2 x.aR x.aN r|||G2 x.bR x.bN r) r
def GP(x:Ins)(b c:UInt8)(n:Nat)(r:RunP):RunP:=
 setP x.dst b (En r.many) ((UL 2 x.loc c 3 n (UL 1 x.loc b 3 0 r)).wAtt (r.many+1) (En r.many))
def CA(x:Ins)(v:UInt8)(r:RunP):RunP:=GP x v (UX x.aR x.aN r) (G2 x.aR x.aN r) r
def NS(x:Ins)(v:UInt8)(r:RunP):RunP:=
 (GP x v (v+UX x.aR x.aN r) (G2 x.aR x.aN r) r).wData (r.many+1) ((GP x v (v+UX x.aR x.aN r) (G2 x.aR x.aN r) r).data (r.many+1)|||(GP x v (v+UX x.aR x.aN r) (G2 x.aR x.aN r) r).att (r.many+1))
def XaL(x:Ins)(v:UInt8)(r:RunP):RunP:=
 if v≠UX x.aR x.aN r then setP x.dst v (En r.many) (UL 1 x.loc v 3 0 r)
 else(GP x v (UX x.bR x.bN r) (G2 x.bR x.bN r) r).wCtrl (r.many+1) ((GP x v (UX x.bR x.bN r) (G2 x.bR x.bN r) r).ctrl (r.many+1)|||((GP x v (UX x.bR x.bN r) (G2 x.bR x.bN r) r).att (r.many+1)|||G2 x.aR x.aN r))
def MS(x:Ins)(r:RunP):RunP:=UL 3 0 0 x.mode 0 r
def XeE(fn a b:UInt8):Bool:=if fn=4 then a==b else if fn=5 then a != b else decide (a<b)
def JY(x:Ins)(r:RunP):RunP:=
 if XeE x.fn (UX x.aR x.aN r) (UX x.bR x.bN r)=true then(r.wControl (r.control|||(G2 x.aR x.aN r|||G2 x.bR x.bN r))).wPc (r.pc+x.skip.toNat)else r.wControl (r.control|||(G2 x.aR x.aN r|||G2 x.bR x.bN r))
def Js(x:Ins)(v:UInt8)(r:RunP):RunP:=
 if x.op=1 then Xai x v r else if x.op=2 then Mq x r else if x.op=3 then QI x r else if x.op=4 then CA x v r else if x.op=5 then NS x v r else if x.op=6 then XaL x v r else if x.op=7 then MS x r else JY x r
def Ub(x:Ins)(v:UInt8)(r:RunP):RunP:=(Js x v r).wPc ((Js x v r).pc+1)
section
variable{P:Program}{t:TypeId}{x y:Operand}{n m:Nat}
theorem Lm(n:Int):IntKind.u32.wrap n=n%4294967296:=by simp[IntKind.wrap,IntKind.signed,IntKind.bits]
theorem XcG(b:n<4294967296)(hm:m<4294967296):Gu P .or t x y (.int .u32 (n:Int)) (.int .u32 (m:Int)) (.int .u32 ((n|||m:Nat):Int)):=λw=>by
 have h:n|||m<2^32:=Nat.or_lt_two_pow b hm
 simp only[eqGuard,binOp,Op.intBits,go_sem]
 show Result.ok (Value.int .u32 (IntKind.u32.wrap ((BitVec.ofInt 32 (n:Int)|||BitVec.ofInt 32 (m:Int)).toNat:Int))) w=_
 have c:(BitVec.ofInt 32 (n:Int)|||BitVec.ofInt 32 (m:Int)).toNat=n|||m:=by
  rw[BitVec.toNat_or,BitVec.ofInt_natCast,BitVec.ofInt_natCast,BitVec.toNat_ofNat,BitVec.toNat_ofNat,Fg b,Fg hm]
 rw[c,Lm]
 have:((n|||m:Nat):Int)%4294967296=((n|||m:Nat):Int):=O
 rw[this]
theorem Xm7(d:n<32):Gu P .shl t x y (.int .u32 1) (Ve (n:Int)) (.int .u32 ((2^n:Nat):Int)):=λw=>by
 have c:Op.shift .shl .u32 1 .i64 (n:Int)=pure (.int .u32 (IntKind.u32.wrap (1*2^(n:Int).toNat))):=shift_shl .u32 .i64 1 (n:Int) O (by show(n:Int)<=32;omega)
 simp only[eqGuard_shl,binOp_shl,c]
 show Result.ok (Value.int .u32 (IntKind.u32.wrap (1*2^n))) w=_
 have b:2^n<2^32:=IX (by decide) d
 have e:IntKind.u32.wrap (1*2^n)=((2^n:Nat):Int):=by
  rw[Lm,Int.one_mul]
  have:((2:Int)^n)=((2^n:Nat):Int):=by simp
  rw[this]
  generalize 2^n=k at b⊢
  omega
 rw[e]
end
theorem Own.startRow{w:World}(h:Blk w b cs t):Own w (some b) w [.blk b cs t] where
 grown:=UM w _
 pred:=λi r hi=>by
  cases i with
  |zero=>cases hi;exact h
  |succ i=>simp at hi
 foot:=λi r hi c e=>by
  cases i with
  |zero=>
   cases hi
   have e:c=b:=e
   subst e
   exact⟨.inr Z,(FJ.1 h).1⟩
  |succ i=>simp at hi
 apart:=λi j r s hi g d=>by
  cases i with
  |zero=>cases j with
   |zero=>exact absurd Z d
   |succ j=>simp at g
  |succ i=>simp at hi
theorem XfI(r:RunP)(hd:d<8):r.cells[1+d]?=some (b8 (r.regs d)):=by
 rw[r.get O]
 unfold RunP.cell
 rw[if_neg O,if_pos O,show 1+d-1=d by omega]
theorem XmW(r:RunP)(hd:d<8):r.cells[9+d]?=some (u32 (r.deps d)):=by
 rw[r.get O]
 unfold RunP.cell
 rw[if_neg O,if_neg O,if_pos O,show 9+d-9=d by omega]
theorem G0(r:RunP):r.cells[0]?=some (Ve (r.pc:Int)):=r.get (by decide)
theorem Nc(r:RunP):r.cells[17]?=some (u32 r.control):=r.get (by decide)
theorem M3(r:RunP):r.cells[18]?=some (Ve (r.many:Int)):=r.get (by decide)
theorem M4(r:RunP)(b:k<24):r.cells[187+k]?=some (u32 (r.data k)):=by
 rw[r.get O,G1 _ O,if_neg O,if_pos O,show 187+k-187=k by omega]
theorem M5(r:RunP)(b:k<24):r.cells[211+k]?=some (u32 (r.ctrl k)):=by
 rw[r.get O,G1 _ O,if_neg O,if_neg O,if_pos O,show 211+k-211=k by omega]
theorem ER(r:RunP)(b:k<24):r.cells[235+k]?=some (u32 (r.att k)):=by
 rw[r.get O,G1 _ O,if_neg O,if_neg O,if_neg O,show 235+k-235=k by omega]
def Qm(w:World)(b:Nat)(r:RunP):Prop:=Blk w b r.cells 212
theorem Xcy{w:World}(h:Blk w b cs t):w.rangeAt b 0 cs:=by
 have:=h.range 0 cs.length
 rwa [List.drop_zero,FT]at this
theorem GC(b:Nat)(r:RunP)(c:Bool)(n:UInt8)(d:World)(o:Qm d b r)(p:c=true->n.toNat<8):
 Calls prog 257 #[Vc b 0,.agg #[.bool c,YtajfpcgbnflceaaGreatDoor.b8 n]] d λe m=>e=.returned (.tuple #[YtajfpcgbnflceaaGreatDoor.b8 (UX c n r),u32 (G2 c n r)])/\Below d.heap.size d m:=by
 have H:=Own.start d none
 have j:d.rangeAt b 0 r.cells:=Xcy o
 refine VU func257 Z ntmps257 Z (λa F=>?_)
 refine gg 2 λa F=>?_
 refine zBx H F λq a w F H=>?_
 refine gg 9 λa F=>?_
 refine cIf F Z (λi=>?_) (λi=>?_)
 ·
  have g:=p i
  refine gg 1 λa F=>?_
  refine zRO H λH=>?_
  refine gg 6 λa F=>?_
  refine Xe 6 Z F Z Z (λw H=>rLd isAgg5 F Z (H.arg (by have:=j _ _ (XfI r g);simpa using this))) H qq0 λa F=>?_
  refine gg 6 λa F=>?_
  refine Xe 13 Z F Z Z (λw H=>rLd isAgg207 F Z (H.arg (by have:=j _ _ (XmW r g);simpa using this))) H qq0 λa F=>?_
  refine gg 4 λa F=>?_
  refine Gy results257 F Z Z ?_
  (have e:c=true:=i
   refine⟨?_,H.below⟩
   unfold UX G2
   rw[if_pos e,if_pos e])
 refine gg 9 λa F=>?_
 refine Gy results257 F Z Z ?_
 (have e:c=false:=i
  refine⟨?_,H.below⟩
  unfold UX G2
  rw[if_neg (by rw[e];decide),if_neg (by rw[e];decide)]
  rfl)
theorem Nj(b:Nat)(r:RunP)(d v:UInt8)(n:Nat)(c:World)(i:Qm c b r)(hd:d.toNat<8):
 Calls prog 256 #[Vc b 0,YtajfpcgbnflceaaGreatDoor.b8 d,YtajfpcgbnflceaaGreatDoor.b8 v,u32 n] c λe g=>e=.returned (.tuple #[])/\Own c (some b) g [.blk b (setP d v n r).cells 212]:=by
 have H:=Own.startRow i
 refine VU func256 Z ntmps256 Z (λa F=>?_)
 refine gg 8 λa F=>?_
 refine sSt H 0 sizeOf5 F Z Z Z Z Z (AA (by simp[RunP.len];omega)) ?_
 clear H;intro w H
 refine gg 8 λa F=>?_
 refine sSt H 0 sizeOf207 F Z Z Z Z Z (AA (by simp[RunP.len];omega)) ?_
 clear H;intro w H
 refine gg 1 λa F=>?_
 refine bEnd results256 F ?_
 exact⟨Z,by rw[XoC r hd v,XoD _ hd n]at H;exact H⟩
theorem Ns(b:Nat)(r:RunP)(d j g c:UInt8)(n:Nat)(m:World)(q:Qm m b r)(hm:r.many<24)(o:r.pc<256):
 Calls prog 255 #[Vc b 0,YtajfpcgbnflceaaGreatDoor.b8 d,YtajfpcgbnflceaaGreatDoor.b8 j,YtajfpcgbnflceaaGreatDoor.b8 g,YtajfpcgbnflceaaGreatDoor.b8 c,u32 n] m λe p=>e=.returned (Ve (r.many:Int))/\Own m (some b) p [.blk b (UL d j g c n r).cells 212]:=by
 have H:=Own.startRow q
 refine VU func255 Z ntmps255 Z (λa F=>?_)
 refine gg 9 λa F=>?_
 refine zLd F (H.cell 0 Z (M3 _)) λa F=>?_
 refine gg 3 λa F=>?_
 refine zRO H λH=>?_
 refine gg 9 λa F=>?_
 refine Xe 9 Z F Z Z (λw H=>rLd isAgg3 F Z (H.cell 0 Z (G0 _))) H qq0 λa F=>?_
 refine gg 3 λa F=>?_
 refine Xe 13 Z F Z Z (λw H=>rBd (cs:=Ev.cells ⟨d,j,g,c,UInt8.ofNat r.pc,UInt8.ofNat r.many⟩) (places:=[(0,1),(1,1),(2,1),(3,1),(4,1),(5,1),(6,1)]) zeroValue156 underlying156 Y F Z Z) H qq0 λa F=>?_
 refine gg 3 λa F=>?_
 refine Xd (k:=17) (i:=17) Z F (oSr H 0 ?si F Z Z ?s1 Z (FR (by rw[RunP.len];show 19+r.many*7+7<=259;omega)) ?_)
 case si=>exact VT sizeOf156
 case s1=>rfl
 clear H;intro w H;rw[XqG r hm ⟨d,j,g,c,UInt8.ofNat r.pc,UInt8.ofNat r.many⟩]at H
 refine gg 10 λa F=>?_
 refine sSt H 0 sizeOf207 F Z Z Z Z Z (M4 _ hm) λw H=>?_;rw[XeH _ hm]at H
 refine gg 2 λa F=>?_
 refine zRO H λH=>?_
 refine gg 5 λa F=>?_
 refine Xe 5 Z F Z Z (λw H=>rLd isAgg207 F Z (show _=some (u32 r.control)from H.cell 0 Z (Nc _))) H qq0 λa F=>?_
 refine gg 3 λa F=>?_
 refine Xd (k:=9) (i:=9) Z F (oSt H 0 sizeOf207 F Z Z Z Z (M5 _ hm) λw H=>?_);rw[XeI _ hm]at H
 refine gg 7 λa F=>?_
 refine zLd F (show _=some (Ve (r.many:Int))from H.cell 0 Z (M3 _)) λa F=>?_
 refine Xh F Z Z (JN ?_) ?_
 focus omega
 clear F a;intro a F
 refine gg 2 λa F=>?_
 refine zSt H 0 F λw H=>?_
 refine gg 8 λa F=>?_
 exact⟨Z,by rw[show((r.many:Int)+1)=((r.many+1:Nat):Int)from Z,Xle]at H;exact H⟩
structure InR (x:Ins):Prop where
 d:x.dst.toNat<8
 a:x.aR=true->x.aN.toNat<8
 b:x.bR=true->x.bN.toNat<8
structure SetsOk (r:RunP):Prop where
 deps:∀d,d<8->r.deps d<4294967296
 control:r.control<4294967296
 data:∀k,r.data k<4294967296
 ctrl:∀k,r.ctrl k<4294967296
 att:∀k,r.att k<4294967296
theorem SetsOk.arg{r:RunP}(h:SetsOk r)(b:Bool){n:UInt8}(c:b=true->n.toNat<8):G2 b n r<4294967296:=by
 unfold G2
 split
 ·exact h.deps _ (c (by assumption))
 ·decide
theorem XcA(h:k<24):En k<4294967296:=by
 have:2^k<2^32:=IX (by decide) O
 exact this
theorem XbC{a:Nat}(c:a<4294967296)(hb:b<4294967296):a|||b<4294967296:=Nat.or_lt_two_pow (n:=32) c hb
theorem Xl2(b:Nat)(r:RunP)(x:Ins)(v:UInt8)(j:World)(o:Qm j b r)(m:InR x)(hm:r.many<24)(g:r.pc<256):
 Calls prog 246 #[Vc b 0,.agg x.cells.toArray,YtajfpcgbnflceaaGreatDoor.b8 v] j λe n=>e=.returned (.tuple #[])/\Own j (some b) n [.blk b (Xai x v r).cells 212]:=by
 have H:=Own.startRow o
 refine VU func246 Z ntmps246 Z (λa F=>?_)
 refine gg 2 λa F=>?_
 refine zBx H F λp a w F H=>?_
 refine gg 9 λa F=>?_
 refine Xi call255 F Z (Ns b r 1 x.loc v x.mode 0 _ (H.blk 1 Z) hm g) ?_;rintro e w ⟨rfl,c⟩
 replace H:=H.turned 1 Z c;clear c
 refine zq λa F=>?_
 refine gg 2 λa F=>?_
 refine zRO H λH=>?_
 refine gg 5 λa F=>?_
 refine Xf (k:=5) (i:=5) Z F Z (λw=>Gt F Z Z (Xm7 ?_)) H (λ_ _ _ h=>h) ?_
 focus omega
 clear F a;intro a F;refine Xd (k:=6) (i:=6) Z F (UK call256 F Z Z (Nj b (UL 1 x.loc v x.mode 0 r) x.dst v (En r.many) _ (H.blk 1 Z) m.d) ?_);rintro e w ⟨rfl,c⟩
 replace H:=H.turned 1 Z c;clear c
 refine zq λa F=>?_
 refine gg 2 λa F=>?_
 refine bEnd results246 F ?_
 exact⟨Z,H.sel [1] Z Z⟩
theorem XjS(b:Nat)(r:RunP)(x:Ins)(v:UInt8)(d:World)(j:Qm d b r)(hm:r.many<24)(c:r.pc<256):
 Calls prog 252 #[Vc b 0,.agg x.cells.toArray,YtajfpcgbnflceaaGreatDoor.b8 v] d λe i=>e=.returned (.tuple #[])/\Own d (some b) i [.blk b (MS x r).cells 212]:=by
 have H:=Own.startRow j
 refine VU func252 Z ntmps252 Z (λa F=>?_)
 refine gg 2 λa F=>?_
 refine zBx H F λm a w F H=>?_
 refine gg 5 λa F=>?_
 refine Xi call255 F Z (Ns b r 3 0 0 x.mode 0 _ (H.blk 1 Z) hm c) ?_;rintro e w ⟨rfl,g⟩
 replace H:=H.turned 1 Z g;clear g
 refine zq λa F=>?_
 refine gg 1 λa F=>?_
 refine bEnd results252 F ?_
 exact⟨Z,H.sel [1] Z Z⟩
theorem XhX(b:Nat)(r:RunP)(x:Ins)(v:UInt8)(d:World)(m:Qm d b r)(i:InR x)(hm:r.many<24)(c:r.pc<256):
 Calls prog 247 #[Vc b 0,.agg x.cells.toArray,YtajfpcgbnflceaaGreatDoor.b8 v] d λe j=>e=.returned (.tuple #[])/\Own d (some b) j [.blk b (Mq x r).cells 212]:=by
 have H:=Own.startRow m
 refine VU func247 Z ntmps247 Z (λa F=>?_)
 refine gg 2 λa F=>?_
 refine zBx H F λn a w F H=>?_
 refine gg 5 λa F=>?_
 refine zLr F (H.range 0 Z _ 2) λa F=>?_
 refine zCa F (GC b r x.aR x.aN _ (H.blk 1 Z) i.a) H λa w F H=>?_
 refine gg 14 λa F=>?_
 refine Xi call255 F Z (Ns b r 2 x.loc (UX x.aR x.aN r) x.mode (G2 x.aR x.aN r) _ (H.blk 1 Z) hm c) ?_;rintro e w ⟨rfl,g⟩
 replace H:=H.turned 1 Z g;clear g
 refine zq λa F=>?_
 refine gg 1 λa F=>?_
 refine bEnd results247 F ?_
 exact⟨Z,H.sel [1] Z Z⟩
theorem Xje(b:Nat)(r:RunP)(x:Ins)(v:UInt8)(m:World)(p:Qm m b r)(c:InR x)(hs:SetsOk r):
 Calls prog 248 #[Vc b 0,.agg x.cells.toArray,YtajfpcgbnflceaaGreatDoor.b8 v] m λe o=>e=.returned (.tuple #[])/\Own m (some b) o [.blk b (QI x r).cells 212]:=by
 have H:=Own.startRow p
 refine VU func248 Z ntmps248 Z (λa F=>?_)
 refine gg 2 λa F=>?_
 refine zBx H F λq a w F H=>?_
 refine gg 5 λa F=>?_
 refine zLr F (H.range 0 Z _ 2) λa F=>?_
 refine zCa F (GC b r x.aR x.aN _ (H.blk 1 Z) c.a) H λa w F H=>?_
 refine gg 10 λa F=>?_
 refine zLr F (H.range 0 Z _ 2) λa F=>?_
 refine zCa F (GC b r x.bR x.bN _ (H.blk 1 Z) c.b) H λa w F H=>?_
 refine gg 19 λa F=>zi (λg=>?_) λg=>?_
 ·
  refine gg 13 λa F=>?_
  refine Xh F Z Z (XcG ?_ ?_) ?_
  focus(exact hs.arg x.aR c.a)
  focus(exact hs.arg x.bR c.b)
  clear F a;intro a F;refine Xi call256 F Z (Nj b r x.dst _ (G2 x.aR x.aN r|||G2 x.bR x.bN r) _ (H.blk 1 rfl) c.d) ?_;rintro e w ⟨rfl,i⟩
  replace H:=H.turned 1 Z i;clear i
  refine zq λa F=>?_
  refine gg 1 λa F=>?_
  refine bEnd results248 F ?_
  (have e:x.fn=1:=g
   refine⟨Z,?_⟩
   unfold QI Xo5
   rw[if_pos e]
   exact H.sel [1] Z Z)
 refine gg 6 λa F=>zi (λj=>?_) λj=>?_
 ·
  refine gg 13 λa F=>?_
  refine Xh F Z Z (XcG ?_ ?_) ?_
  focus(exact hs.arg x.aR c.a)
  focus(exact hs.arg x.bR c.b)
  clear F a;intro a F;refine Xi call256 F Z (Nj b r x.dst _ (G2 x.aR x.aN r|||G2 x.bR x.bN r) _ (H.blk 1 rfl) c.d) ?_;rintro e w ⟨rfl,i⟩
  replace H:=H.turned 1 Z i;clear i
  refine zq λa F=>?_
  refine gg 1 λa F=>?_
  refine bEnd results248 F ?_
  (have e:¬x.fn=1:=g
   have n:x.fn=2:=j
   refine⟨Z,?_⟩
   unfold QI Xo5
   rw[if_neg e,if_pos n]
   exact H.sel [1] Z Z)
 refine gg 13 λa F=>?_
 refine Xh F Z Z (XcG ?_ ?_) ?_
 focus(exact hs.arg x.aR c.a)
 focus(exact hs.arg x.bR c.b)
 clear F a;intro a F;refine Xi call256 F Z (Nj b r x.dst _ (G2 x.aR x.aN r|||G2 x.bR x.bN r) _ (H.blk 1 rfl) c.d) ?_;rintro e w ⟨rfl,i⟩
 replace H:=H.turned 1 Z i;clear i
 refine zq λa F=>?_
 refine gg 1 λa F=>?_
 refine bEnd results248 F ?_
 (have e:¬x.fn=1:=g
  have n:¬x.fn=2:=j
  refine⟨Z,?_⟩
  unfold QI Xo5
  rw[if_neg e,if_neg n]
  exact H.sel [1] Z Z)
theorem Xat(b:Nat)(r:RunP)(x:Ins)(c j:UInt8)(n:Nat)(o:World)(s:Qm o b r)(q:InR x)(hm:r.many+1<24)(m:r.pc<256):
 Calls prog 258 #[Vc b 0,.agg x.cells.toArray,YtajfpcgbnflceaaGreatDoor.b8 c,YtajfpcgbnflceaaGreatDoor.b8 j,u32 n] o λe p=>e=.returned (Ve ((r.many+1:Nat):Int))/\Own o (some b) p [.blk b (GP x c j n r).cells 212]:=by
 have H:=Own.startRow s
 refine VU func258 Z ntmps258 Z (λa F=>?_)
 refine gg 2 λa F=>?_
 refine zBx H F λt a w F H=>?_
 refine gg 8 λa F=>?_
 refine Xi call255 F Z (Ns b r 1 x.loc c 3 0 _ (H.blk 1 Z) O m) ?_;rintro e w ⟨rfl,g⟩
 replace H:=H.turned 1 Z g;clear g
 refine zq λa F=>?_
 refine gg 9 λa F=>?_
 refine Xi call255 F Z ((show Calls _ _ _ _ (λe p=>e=.returned (Ve ((r.many+1:Nat):Int))/\_)from Ns b (UL 1 x.loc c 3 0 r) 2 x.loc j 3 n _ (H.blk 1 Z) hm m)) ?_;rintro e w ⟨rfl,g⟩
 replace H:=H.turned 1 Z g;clear g
 refine zq λa F=>?_
 refine gg 3 λa F=>?_
 refine zRO H λH=>?_
 refine gg 3 λa F=>?_
 refine Xf (k:=3) (i:=3) Z F Z (λw=>Gt F Z Z (Xm7 ?_)) H (λ_ _ _ h=>h) ?_
 focus omega
 clear F a;intro a F
 refine gg 3 λa F=>?_
 refine Xd (k:=7) (i:=7) Z F (oSt H 1 sizeOf207 F Z Z Z Z (ER _ hm) λw H=>?_);rw[show Value.int .u32 ((2^r.many:Nat):Int)=u32 (En r.many)from Z,XoE _ hm]at H
 refine gg 3 λa F=>?_
 refine zRO H λH=>?_
 refine gg 5 λa F=>?_
 refine Xf (k:=5) (i:=5) Z F Z (λw=>Gt F Z Z (Xm7 ?_)) H (λ_ _ _ h=>h) ?_
 focus omega
 clear F a;intro a F;refine Xd (k:=6) (i:=6) Z F (UK call256 F Z Z (Nj b _ x.dst c (En r.many) _ (H.blk 1 Z) q.d) ?_);rintro e w ⟨rfl,g⟩
 replace H:=H.turned 1 Z g;clear g
 refine zq λa F=>?_
 refine gg 9 λa F=>?_
 exact⟨Z,H.sel [1] Z Z⟩
theorem Xk9(b:Nat)(r:RunP)(x:Ins)(v:UInt8)(d:World)(m:Qm d b r)(g:InR x)(hm:r.many+1<24)(c:r.pc<256):
 Calls prog 249 #[Vc b 0,.agg x.cells.toArray,YtajfpcgbnflceaaGreatDoor.b8 v] d λe j=>e=.returned (.tuple #[])/\Own d (some b) j [.blk b (CA x v r).cells 212]:=by
 have H:=Own.startRow m
 refine VU func249 Z ntmps249 Z (λa F=>?_)
 refine gg 2 λa F=>?_
 refine zBx H F λn a w F H=>?_
 refine gg 5 λa F=>?_
 refine zLr F (H.range 0 Z _ 2) λa F=>?_
 refine zCa F (GC b r x.aR x.aN _ (H.blk 1 Z) g.a) H λa w F H=>?_
 refine gg 12 λa F=>?_
 refine Xi call258 F Z (Xat b r x v (UX x.aR x.aN r) (G2 x.aR x.aN r) _ (H.blk 1 Z) g hm c) ?_;rintro e w ⟨rfl,i⟩
 replace H:=H.turned 1 Z i;clear i
 refine zq λa F=>?_
 refine gg 1 λa F=>?_
 refine bEnd results249 F ?_
 exact⟨Z,H.sel [1] Z Z⟩
theorem Xca(x:Ins)(b c:UInt8)(n:Nat)(r:RunP)(hs:SetsOk r)(e:n<4294967296)(hm:r.many+1<24):(GP x b c n r).data k<4294967296/\(GP x b c n r).att k<4294967296/\(GP x b c n r).ctrl k<4294967296:=by
 have d:=XcA (k:=r.many) O
 refine⟨?_,?_,?_⟩
 ·show GB (GB r.data r.many 0) (r.many+1) n k<_
  unfold GB
  split
  ·exact e
  ·split
   ·decide
   ·exact hs.data k
 ·show GB r.att (r.many+1) (En r.many) k<_
  unfold GB
  split
  ·exact d
  ·exact hs.att k
 ·show GB (GB r.ctrl r.many r.control) (r.many+1) r.control k<_
  unfold GB
  split
  ·exact hs.control
  ·split
   ·exact hs.control
   ·exact hs.ctrl k
theorem XjR(b:Nat)(r:RunP)(x:Ins)(v:UInt8)(g:World)(p:Qm g b r)(c:InR x)(hs:SetsOk r)(hm:r.many+1<24)(d:r.pc<256):
 Calls prog 250 #[Vc b 0,.agg x.cells.toArray,YtajfpcgbnflceaaGreatDoor.b8 v] g λe n=>e=.returned (.tuple #[])/\Own g (some b) n [.blk b (NS x v r).cells 212]:=by
 have H:=Own.startRow p
 have j:=Xca x v (v+UX x.aR x.aN r) (G2 x.aR x.aN r) r (k:=r.many+1) hs (hs.arg _ c.a) hm
 refine VU func250 Z ntmps250 Z (λa F=>?_)
 refine gg 2 λa F=>?_
 refine zBx H F λq a w F H=>?_
 refine gg 5 λa F=>?_
 refine zLr F (H.range 0 Z _ 2) λa F=>?_
 refine zCa F (GC b r x.aR x.aN _ (H.blk 1 Z) c.a) H λa w F H=>?_
 refine gg 15 λa F=>?_
 refine Xi call258 F Z (Xat b r x v (v+UX x.aR x.aN r) (G2 x.aR x.aN r) _ (H.blk 1 Z) c hm d) ?_;rintro e w ⟨rfl,m⟩
 replace H:=H.turned 1 Z m;clear m
 refine zq λa F=>?_
 refine gg 2 λa F=>?_
 refine zRO H λH=>?_
 refine gg 5 λa F=>?_
 refine Xe 5 Z F Z Z (λw H=>rLd isAgg207 F Z (H.cell 1 Z (M4 _ hm))) H qq0 λa F=>?_
 refine gg 5 λa F=>?_
 refine Xe 11 Z F Z Z (λw H=>rLd isAgg207 F Z (H.cell 1 Z (ER _ hm))) H qq0 λa F=>?_
 refine Xf (k:=12) (i:=12) Z F Z (λw=>Gt F Z Z (XcG ?_ ?_)) H (λ_ _ _ h=>h) ?_
 focus(exact j.1)
 focus(exact j.2.1)
 clear F a;intro a F
 refine gg 3 λa F=>?_
 refine Xd (k:=16) (i:=16) Z F (oSt H 1 sizeOf207 F Z Z Z Z (M4 _ hm) λw H=>?_)
 refine gg 2 λa F=>?_
 refine bEnd results250 F ?_
 refine⟨Z,?_⟩
 have o:=H.sel [1] Z Z
 have e:(GP x v (v+UX x.aR x.aN r) (G2 x.aR x.aN r) r).cells.set (187+(r.many+1)) (u32 ((GP x v (v+UX x.aR x.aN r) (G2 x.aR x.aN r) r).data (r.many+1)|||(GP x v (v+UX x.aR x.aN r) (G2 x.aR x.aN r) r).att (r.many+1)))=(NS x v r).cells:=XeH _ hm _
 rw[<-e]
 exact o
theorem XpI(b:Nat)(r:RunP)(x:Ins)(v:UInt8)(n:World)(y:Qm n b r)(j:InR x)(hs:SetsOk r)(hm:r.many+1<24)(m:r.pc<256):
 Calls prog 251 #[Vc b 0,.agg x.cells.toArray,YtajfpcgbnflceaaGreatDoor.b8 v] n λe u=>e=.returned (.tuple #[])/\Own n (some b) u [.blk b (XaL x v r).cells 212]:=by
 have H:=Own.startRow y
 have o:=Xca x v (UX x.bR x.bN r) (G2 x.bR x.bN r) r (k:=r.many+1) hs (hs.arg _ j.b) hm
 have s:=hs.arg x.aR j.a
 have q:=XbC o.2.1 s
 refine VU func251 Z ntmps251 Z (λa F=>?_)
 refine gg 2 λa F=>?_
 refine zBx H F λA a w F H=>?_
 refine gg 5 λa F=>?_
 refine zLr F (H.range 0 Z _ 2) λa F=>?_
 refine zCa F (GC b r x.aR x.aN _ (H.blk 1 Z) j.a) H λa w F H=>?_
 refine gg 10 λa F=>?_
 refine zLr F (H.range 0 Z _ 2) λa F=>?_
 refine zCa F (GC b r x.bR x.bN _ (H.blk 1 Z) j.b) H λa w F H=>?_
 refine gg 14 λa F=>zi (λg=>?_) λg=>?_
 ·
  refine gg 6 λa F=>?_
  refine Xi call255 F Z (Ns b r 1 x.loc v 3 0 _ (H.blk 1 Z) O m) ?_;rintro e w ⟨rfl,c⟩
  replace H:=H.turned 1 Z c;clear c
  refine zq λa F=>?_
  refine gg 3 λa F=>?_
  refine zRO H λH=>?_
  refine gg 5 λa F=>?_
  refine Xf (k:=5) (i:=5) Z F Z (λw=>Gt F Z Z (Xm7 ?_)) H (λ_ _ _ h=>h) ?_
  focus omega
  clear F a;intro a F;refine Xd (k:=6) (i:=6) Z F (UK call256 F Z Z (Nj b (UL 1 x.loc v 3 0 r) x.dst v (En r.many) _ (H.blk 1 Z) j.d) ?_);rintro e w ⟨rfl,c⟩
  replace H:=H.turned 1 Z c;clear c
  refine zq λa F=>?_
  refine gg 3 λa F=>?_
  refine bEndR results251 F ?_
  (have p:v≠UX x.aR x.aN r:=g
   refine⟨Z,?_⟩
   unfold XaL
   rw[if_pos p]
   exact H.sel [1] Z Z)
 refine gg 8 λa F=>?_
 refine Xi call258 F Z (Xat b r x v (UX x.bR x.bN r) (G2 x.bR x.bN r) _ (H.blk 1 Z) j hm m) ?_;rintro e w ⟨rfl,c⟩
 replace H:=H.turned 1 Z c;clear c
 refine zq λa F=>?_
 refine gg 2 λa F=>?_
 refine zRO H λH=>?_
 refine gg 5 λa F=>?_
 refine Xe 5 Z F Z Z (λw H=>rLd isAgg207 F Z (H.cell 1 Z (M5 _ hm))) H qq0 λa F=>?_
 refine gg 5 λa F=>?_
 refine Xe 11 Z F Z Z (λw H=>rLd isAgg207 F Z (H.cell 1 Z (ER _ hm))) H qq0 λa F=>?_
 refine gg 1 λa F=>?_
 refine Xf (k:=13) (i:=13) Z F Z (λw=>Gt F Z Z (XcG ?_ ?_)) H (λ_ _ _ h=>h) ?_
 focus(exact o.2.1)
 focus(exact s)
 clear F a;intro a F
 refine Xf (k:=14) (i:=14) Z F Z (λw=>Gt F Z Z (XcG ?_ ?_)) H (λ_ _ _ h=>h) ?_
 focus(exact o.2.2)
 focus(exact q)
 clear F a;intro a F
 refine gg 3 λa F=>?_
 refine Xd (k:=18) (i:=18) Z F (oSt H 1 sizeOf207 F Z Z Z Z (M5 _ hm) λw H=>?_)
 refine gg 2 λa F=>?_
 refine bEnd results251 F ?_
 (have p:v=UX x.aR x.aN r:=g
  refine⟨Z,?_⟩
  have t:=H.sel [1] Z Z
  have e:(GP x v (UX x.bR x.bN r) (G2 x.bR x.bN r) r).cells.set (211+(r.many+1)) (u32 ((GP x v (UX x.bR x.bN r) (G2 x.bR x.bN r) r).ctrl (r.many+1)|||((GP x v (UX x.bR x.bN r) (G2 x.bR x.bN r) r).att (r.many+1)|||G2 x.aR x.aN r)))=(XaL x v r).cells:=by
   unfold XaL
   rw[if_neg (λz=>z p)]
   exact XeI _ hm _
  rw[<-e]
  exact t)
theorem skp4{b:UInt8}(h:fn=4):XeE fn a b=(a==b):=by unfold XeE;rw[if_pos h]
theorem skp5{b:UInt8}(c:fn≠4)(h:fn=5):XeE fn a b=(a != b):=by unfold XeE;rw[if_neg c,if_pos h]
theorem skp6{b:UInt8}(c:fn≠4)(h:fn≠5):XeE fn a b=decide (a<b):=by unfold XeE;rw[if_neg c,if_neg h]
theorem CH{r:RunP}(b:XeE x.fn (UX x.aR x.aN r) (UX x.bR x.bN r)=true):
 (r.wControl (r.control|||(G2 x.aR x.aN r|||G2 x.bR x.bN r))).cells.set 0 (Value.int IntKind.i64 ((r.pc:Int)+(x.skip.toNat:Int)))=(JY x r).cells:=by
 unfold JY
 rw[if_pos b]
 exact Xnp (r.wControl (r.control|||(G2 x.aR x.aN r|||G2 x.bR x.bN r))) (r.pc+x.skip.toNat)
theorem Xdf{r:RunP}(b:XeE x.fn (UX x.aR x.aN r) (UX x.bR x.bN r)=false):
 (r.wControl (r.control|||(G2 x.aR x.aN r|||G2 x.bR x.bN r))).cells=(JY x r).cells:=by
 unfold JY
 rw[if_neg (λh=>Bool.noConfusion (b.symm.trans h))]
theorem Xld(b:Nat)(r:RunP)(x:Ins)(v:UInt8)(p:World)(B:Qm p b r)(o:InR x)(hs:SetsOk r)(u:r.pc<256):
 Calls prog 253 #[Vc b 0,.agg x.cells.toArray,YtajfpcgbnflceaaGreatDoor.b8 v] p λe A=>e=.returned (.tuple #[])/\Own p (some b) A [.blk b (JY x r).cells 212]:=by
 have H:=Own.startRow B
 have s:=hs.arg x.aR o.a
 have t:=hs.arg x.bR o.b
 have q:=XbC s t
 have y:=x.skip.toNat_lt
 refine VU func253 Z ntmps253 Z (λa F=>?_)
 refine gg 2 λa F=>?_
 refine zBx H F λC a w F H=>?_
 refine gg 5 λa F=>?_
 refine zLr F (H.range 0 Z _ 2) λa F=>?_
 refine zCa F (GC b r x.aR x.aN _ (H.blk 1 Z) o.a) H λa w F H=>?_
 refine gg 10 λa F=>?_
 refine zLr F (H.range 0 Z _ 2) λa F=>?_
 refine zCa F (GC b r x.bR x.bN _ (H.blk 1 Z) o.b) H λa w F H=>?_
 refine gg 11 λa F=>?_
 refine zLd F (H.cell 1 Z (Nc _)) λa F=>?_
 refine gg 2 λa F=>?_
 refine Xh F Z Z (XcG ?_ ?_) ?_
 focus(exact s)
 focus(exact t)
 clear F a;intro a F
 refine Xh F Z Z (XcG ?_ ?_) ?_
 focus(exact hs.control)
 focus(exact q)
 clear F a;intro a F
 refine gg 2 λa F=>?_
 refine sSt H 1 sizeOf207 F Z Z Z Z Z (Nc _) λw H=>?_;rw[show Value.int .u32 ((r.control|||(G2 x.aR x.aN r|||G2 x.bR x.bN r):Nat):Int)=u32 (r.control|||(G2 x.aR x.aN r|||G2 x.bR x.bN r))from rfl,Xdh]at H
 refine gg 18 λa F=>zi (λg=>?_) λg=>?_
 ·
  refine gg 11 λa F=>zi (λc=>?_) λc=>?_
  ·
   refine zRO H λH=>?_
   refine gg 3 λa F=>?_
   refine Xe 3 Z F Z Z (λw H=>rLd isAgg3 F Z (show _=some (Ve (r.pc:Int))from H.cell 1 Z (G0 _))) H qq0 λa F=>?_
   refine gg 3 λa F=>?_
   refine Xf (k:=7) (i:=7) Z F Z (λw=>Gt F Z Z (JN ?_)) H (λ_ _ _ h=>h) ?_
   focus omega
   clear F a;intro a F
   refine gg 2 λa F=>?_
   refine Xd (k:=10) (i:=10) Z F (oSt H 1 sizeOf3 F Z Z Z Z (G0 _) λw H=>?_)
   refine gg 2 λa F=>?_
   refine bEnd results253 F ?_
   refine⟨Z,?_⟩
   have d:=H.sel [1] Z Z
   (have j:x.fn=4:=g
    have e:UX x.aR x.aN r=UX x.bR x.bN r:=c
    rw[CH ((skp4 j).trans (beq_iff_eq.2 e))]at d
    exact d)
  refine gg 1 λa F=>?_
  refine bEnd results253 F ?_
  refine⟨Z,?_⟩
  have d:=H.sel [1] Z Z
  (have j:x.fn=4:=g
   have e:UX x.aR x.aN r≠UX x.bR x.bN r:=c
   rw[Xdf ((skp4 j).trans (beq_false_of_ne e))]at d
   exact d)
 refine gg 6 λa F=>zi (λm=>?_) λm=>?_
 ·
  refine gg 11 λa F=>zi (λc=>?_) λc=>?_
  ·
   refine zRO H λH=>?_
   refine gg 3 λa F=>?_
   refine Xe 3 Z F Z Z (λw H=>rLd isAgg3 F Z (show _=some (Ve (r.pc:Int))from H.cell 1 Z (G0 _))) H qq0 λa F=>?_
   refine gg 3 λa F=>?_
   refine Xf (k:=7) (i:=7) Z F Z (λw=>Gt F Z Z (JN ?_)) H (λ_ _ _ h=>h) ?_
   focus omega
   clear F a;intro a F
   refine gg 2 λa F=>?_
   refine Xd (k:=10) (i:=10) Z F (oSt H 1 sizeOf3 F Z Z Z Z (G0 _) λw H=>?_)
   refine gg 2 λa F=>?_
   refine bEnd results253 F ?_
   refine⟨Z,?_⟩
   have d:=H.sel [1] Z Z
   (have j:x.fn≠4:=g
    have n:x.fn=5:=m
    have e:UX x.aR x.aN r≠UX x.bR x.bN r:=c
    rw[CH ((skp5 j n).trans (bne_iff_ne.2 e))]at d
    exact d)
  refine gg 1 λa F=>?_
  refine bEnd results253 F ?_
  refine⟨Z,?_⟩
  have d:=H.sel [1] Z Z
  (have j:x.fn≠4:=g
   have n:x.fn=5:=m
   have e:UX x.aR x.aN r=UX x.bR x.bN r:=c
   have z:(UX x.aR x.aN r != UX x.bR x.bN r)=false:=bne_eq_false_iff_eq.2 e
   rw[Xdf ((skp5 j n).trans z)]at d
   exact d)
 refine gg 11 λa F=>zi (λc=>?_) λc=>?_
 ·
  refine zRO H λH=>?_
  refine gg 3 λa F=>?_
  refine Xe 3 Z F Z Z (λw H=>rLd isAgg3 F Z (show _=some (Ve (r.pc:Int))from H.cell 1 Z (G0 _))) H qq0 λa F=>?_
  refine gg 3 λa F=>?_
  refine Xf (k:=7) (i:=7) Z F Z (λw=>Gt F Z Z (JN ?_)) H (λ_ _ _ h=>h) ?_
  focus omega
  clear F a;intro a F
  refine gg 2 λa F=>?_
  refine Xd (k:=10) (i:=10) Z F (oSt H 1 sizeOf3 F Z Z Z Z (G0 _) λw H=>?_)
  refine gg 2 λa F=>?_
  refine bEnd results253 F ?_
  refine⟨Z,?_⟩
  have d:=H.sel [1] Z Z
  (have j:x.fn≠4:=g
   have n:x.fn≠5:=m
   have e:UX x.aR x.aN r<UX x.bR x.bN r:=c
   rw[CH ((skp6 j n).trans (decide_eq_true e))]at d
   exact d)
 refine gg 1 λa F=>?_
 refine bEnd results253 F ?_
 refine⟨Z,?_⟩
 have d:=H.sel [1] Z Z
 (have j:x.fn≠4:=g
  have n:x.fn≠5:=m
  have e:¬UX x.aR x.aN r<UX x.bR x.bN r:=c
  rw[Xdf ((skp6 j n).trans (decide_eq_false e))]at d
  exact d)
section
variable{P:Program}{l:List Oper}{Q:Exit->Act->World->Prop}{N:Nat}{a:Act}{env:List (Nat×Value)}{rest:List Oper}{d:Tmp}{ty:TypeId}{pos:String}{af:Array Edge}{g:Option (Nat×Bool)}{w:World}
theorem sBa{c:Nat}{b:List (Nat×Operand)}{j:List (Nat×Value)}{zs:Array Value}(r:∀w,(zeroValue t).run P w=.ok (.agg zs) w)(s:P.underlying t=some (.array n e))(hs:∀w,(sizeOf e).run P w=.ok c w)(F:Has N a env)(m:V2 l env g=true)(p:Nat.blt d N=true)(o:evP env b=some j)(q:JF (λi=>some (i*c,c)) zs.toList j=some cs)(K:∀a,Has N a ((d,.agg cs.toArray)::env)->wpList P l.toArray Q rest a w):wpList P l.toArray Q (⟨some d,.build t b.toArray,ty,pos,af,g⟩::rest) a w:=
 UV F m Z p (rBa r s hs F o q) K
theorem qBa{c:Nat}{b:List (Nat×Operand)}{j:List (Nat×Value)}{zs:Array Value}(r:∀w,(zeroValue t).run P w=.ok (.agg zs) w)(s:P.underlying t=some (.array n e))(hs:∀w,(sizeOf e).run P w=.ok c w)(m:V2 l env g=true)(p:Nat.blt d N=true)(o:evP env b=some j)(q:JF (λi=>some (i*c,c)) zs.toList j=some cs)(K:∀a,Has N a ((d,.agg cs.toArray)::env)->wpList P l.toArray Q rest a w):∀a,Has N a env->wpList P l.toArray Q (⟨some d,.build t b.toArray,ty,pos,af,g⟩::rest) a w:=λa F=>sBa r s hs F m p o q K
end
section
variable{P:Program}{l:List Oper}{Q:Exit->Act->World->Prop}{N:Nat}{a:Act}{env:List (Nat×Value)}{rest:List Oper}{d:Tmp}{ty:TypeId}{pos:String}{af:Array Edge}{g:Option (Nat×Bool)}{w:World}
theorem rIdG{x i:Operand}{b:Nat}{k:IntKind}(r:P.underlying t=some (.array b e))(m:∀w,(sizeOf e).run P w=.ok 1 w)(s:∀w,(isAgg e).run P w=.ok false w)(F:Has N a env)(p:ev env x=some (.agg cs.toArray))(u:ev env i=some (.int k (j:Int)))(A:j<b)(q:cs[j]?=some v):
 (execOp a.eval ⟨some d,.index t x i,ty,pos,af,g⟩).run P w=.ok (.value v) w:=by
 obtain⟨c,z⟩:=AB.1 q
 have o:=Jz (P:=P) (e:=e) (n:=1) (off:=j*1) (vs:=cs) w m s (λ_=>rfl) O
 have y:(cs.drop (j*1)).take 1=[v]:=by rw[FZ,FA c,z];rfl
 rw[y]at o
 simp only[execOp,F.eval p,F.eval u,Instr.index,asIntOf,Sem.run_bind,Sem.run_pure,Result.andThen_ok,run_underlying r,m]
 rw[if_pos O]
 simp only[Sem.run_bind,m,Result.andThen_ok,FU,o,Sem.run_pure,pk]
theorem sIdG{x i:Operand}{b:Nat}{k:IntKind}(q:P.underlying t=some (.array b e))(u:∀w,(sizeOf e).run P w=.ok 1 w)(r:∀w,(isAgg e).run P w=.ok false w)(F:Has N a env)(m:V2 l env g=true)(p:Nat.blt d N=true)(c:ev env x=some (.agg cs.toArray))(s:ev env i=some (.int k (j:Int)))(n:j<b)(o:cs[j]?=some v)(K:∀a,Has N a ((d,v)::env)->wpList P l.toArray Q rest a w):wpList P l.toArray Q (⟨some d,.index t x i,ty,pos,af,g⟩::rest) a w:=
 UV F m Z p (rIdG q u r F c s n o) K
end
def effL:List Value:=[.nilFunc,.func (.func 246) #[] #[],.func (.func 247) #[] #[],.func (.func 248) #[] #[],.func (.func 249) #[] #[],.func (.func 250) #[] #[],.func (.func 251) #[] #[],.func (.func 252) #[] #[],.func (.func 253) #[] #[]]
theorem Xcg(b:World):Va 238 #[] b (.agg effL.toArray):=by
 refine Vb func238 ntmps238 λH a F=>?_
 refine gg 2 λa F=>?_
 refine zAl zeroValue332 H F λd a w F H=>?_
 refine gg 3 λa F=>?_
 refine sBa zeroValue332 underlying332 sizeOf331 F Z Z Z Z λa F=>?_
 refine sSr H 0 ?si F Z Z Z ?s1 Z Z ?_
 case si=>exact VT sizeOf332
 case s1=>rfl
 clear H;intro w H
 refine gg 2 λa F=>?_
 refine Nf results238 F Z underlying332 Z H 0 Z sizeOf332 Z ?_
 exact⟨Z,H.below⟩
structure RunOk (r:RunP):Prop where
 sets:SetsOk r
 pc:r.pc<256
 many:r.many+1<24
theorem XpA{r:RunP}(j:InR x)(i:RunOk r)(s:1<=x.op.toNat/\x.op.toNat<=8):∃v,effL[x.op.toNat]?=some v/\∀(c:UInt8)(d:World),Qm d b r ->
 JL prog v [Vc b 0,.agg x.cells.toArray,YtajfpcgbnflceaaGreatDoor.b8 c] d λe o=>e=.returned (.tuple #[])/\Own d (some b) o [.blk b (Js x c r).cells 212]:=by
 have n:=i.many
 have m:r.many<24:=O
 have e:∀k:Nat,x.op.toNat=k->k<256->x.op=UInt8.ofNat k:=λk p t=>by rw[<-p];simp
 have q:x.op=1\/x.op=2\/x.op=3\/x.op=4\/x.op=5\/x.op=6\/x.op=7\/x.op=8:=by
  rcases(by omega:x.op.toNat=1\/x.op.toNat=2\/x.op.toNat=3\/x.op.toNat=4\/x.op.toNat=5\/x.op.toNat=6\/x.op.toNat=7\/x.op.toNat=8)with h|h|h|h|h|h|h|h
  ·exact .inl (e 1 h (by decide))
  ·exact .inr (.inl (e 2 h (by decide)))
  ·exact .inr (.inr (.inl (e 3 h (by decide))))
  ·exact .inr (.inr (.inr (.inl (e 4 h (by decide)))))
  ·exact .inr (.inr (.inr (.inr (.inl (e 5 h (by decide))))))
  ·exact .inr (.inr (.inr (.inr (.inr (.inl (e 6 h (by decide)))))))
  ·exact .inr (.inr (.inr (.inr (.inr (.inr (.inl (e 7 h (by decide))))))))
  ·exact .inr (.inr (.inr (.inr (.inr (.inr (.inr (e 8 h (by decide))))))))
 rcases q with h|h|h|h|h|h|h|h
 ·rw[h];refine⟨_,Z,λc d g=>⟨_,[],[],Z,call246,?_⟩⟩
  rw[show Js x c r=Xai x c r by unfold Js;rw[h];rfl]
  exact Xl2 b r x c d g j m i.pc
 ·rw[h];refine⟨_,Z,λc d g=>⟨_,[],[],Z,call247,?_⟩⟩
  rw[show Js x c r=Mq x r by unfold Js;rw[h];rfl]
  exact XhX b r x c d g j m i.pc
 ·rw[h];refine⟨_,Z,λc d g=>⟨_,[],[],Z,call248,?_⟩⟩
  rw[show Js x c r=QI x r by unfold Js;rw[h];rfl]
  exact Xje b r x c d g j i.sets
 ·rw[h];refine⟨_,Z,λc d g=>⟨_,[],[],Z,call249,?_⟩⟩
  rw[show Js x c r=CA x c r by unfold Js;rw[h];rfl]
  exact Xk9 b r x c d g j n i.pc
 ·rw[h];refine⟨_,Z,λc d g=>⟨_,[],[],Z,call250,?_⟩⟩
  rw[show Js x c r=NS x c r by unfold Js;rw[h];rfl]
  exact XjR b r x c d g j i.sets n i.pc
 ·rw[h];refine⟨_,Z,λc d g=>⟨_,[],[],Z,call251,?_⟩⟩
  rw[show Js x c r=XaL x c r by unfold Js;rw[h];rfl]
  exact XpI b r x c d g j i.sets n i.pc
 ·rw[h];refine⟨_,Z,λc d g=>⟨_,[],[],Z,call252,?_⟩⟩
  rw[show Js x c r=MS x r by unfold Js;rw[h];rfl]
  exact XjS b r x c d g m i.pc
 ·rw[h];refine⟨_,Z,λc d g=>⟨_,[],[],Z,call253,?_⟩⟩
  rw[show Js x c r=JY x r by unfold Js;rw[h];rfl]
  exact Xld b r x c d g j i.sets i.pc
theorem Xol(r:RunP)(d:Nat)(v:UInt8):(r.wReg d v).pc=r.pc:=rfl
theorem Xom(r:RunP)(d n:Nat):(r.wDep d n).pc=r.pc:=rfl
theorem XcW(r:RunP)(n:Nat):(r.wControl n).pc=r.pc:=rfl
theorem Xk1(r:RunP)(n:Nat):(r.wMany n).pc=r.pc:=rfl
theorem Xqw(r:RunP)(k:Nat)(e:Ev):(r.wEv k e).pc=r.pc:=rfl
theorem Xet(r:RunP)(d n:Nat):(r.wData d n).pc=r.pc:=rfl
theorem Xev(r:RunP)(d n:Nat):(r.wCtrl d n).pc=r.pc:=rfl
theorem Xon(r:RunP)(d n:Nat):(r.wAtt d n).pc=r.pc:=rfl
theorem Xnh(r:RunP)(n:Nat):(r.wPc n).pc=n:=rfl
theorem CJ(d v:UInt8)(n:Nat)(r:RunP):(setP d v n r).pc=r.pc:=by unfold setP;rw[Xom,Xol]
theorem N8(c e d b:UInt8)(n:Nat)(r:RunP):(UL c e d b n r).pc=r.pc:=by unfold UL;rw[Xk1,Xev,Xet,Xqw]
theorem XdY(x:Ins)(c b:UInt8)(n:Nat)(r:RunP):(GP x c b n r).pc=r.pc:=by unfold GP;rw[CJ,Xon,N8,N8]
theorem Xjn(x:Ins)(v:UInt8)(r:RunP):(Xai x v r).pc=r.pc:=by unfold Xai;rw[CJ,N8]
theorem Xez(x:Ins)(r:RunP):(Mq x r).pc=r.pc:=by unfold Mq;rw[N8]
theorem Xjb(x:Ins)(r:RunP):(QI x r).pc=r.pc:=by unfold QI;rw[CJ]
theorem XhV(x:Ins)(v:UInt8)(r:RunP):(CA x v r).pc=r.pc:=by unfold CA;rw[XdY]
theorem Xfv(x:Ins)(v:UInt8)(r:RunP):(NS x v r).pc=r.pc:=by unfold NS;rw[Xet,XdY]
theorem Xfw(x:Ins)(r:RunP):(MS x r).pc=r.pc:=by unfold MS;rw[N8]
theorem XnZ(x:Ins)(v:UInt8)(r:RunP):(XaL x v r).pc=r.pc:=by
 unfold XaL
 split
 ·rw[CJ,N8]
 ·rw[Xev,XdY]
theorem Xoz(x:Ins)(r:RunP):r.pc<=(JY x r).pc/\(JY x r).pc<=r.pc+x.skip.toNat:=by
 unfold JY
 split
 ·exact⟨Ia _ _,AI _⟩
 ·exact⟨AI _,Ia _ _⟩
theorem XnV(x:Ins)(v:UInt8)(r:RunP):r.pc<=(Js x v r).pc/\(Js x v r).pc<=r.pc+x.skip.toNat:=by
 have b:∀n:Nat,n=r.pc->r.pc<=n/\n<=r.pc+x.skip.toNat:=λn h=>O
 unfold Js
 split
 ·exact b _ (Xjn x v r)
 ·split
  ·exact b _ (Xez x r)
  ·split
   ·exact b _ (Xjb x r)
   ·split
    ·exact b _ (XhV x v r)
    ·split
     ·exact b _ (Xfv x v r)
     ·split
      ·exact b _ (XnZ x v r)
      ·split
       ·exact b _ (Xfw x r)
       ·exact Xoz x r
theorem DO(b:Nat)(r:RunP)(x:Ins)(c:UInt8)(d:World)(y:Qm d b r)(m:InR x)(g:RunOk r)(p:1<=x.op.toNat/\x.op.toNat<=8):
 Calls prog 220 #[Vc b 0,.agg x.cells.toArray,YtajfpcgbnflceaaGreatDoor.b8 c] d λe t=>e=.returned (.tuple #[])/\Own d (some b) t [.blk b (Ub x c r).cells 212]:=by
 have H:=Own.startRow y
 obtain⟨v,u,n⟩:=XpA (b:=b) m g p
 have o:=g.pc
 have q:=x.skip.toNat_lt
 have s:=XnV x c r
 refine VU func220 Z ntmps220 Z (λa F=>?_)
 refine gg 2 λa F=>?_
 refine zBx H F λz a w F H=>?_
 refine gg 2 λa F=>?_
 refine zRO H λH=>?_
 refine Xb 1 Z F Z (λw=>rFa (f:=0) (k:=0) underlying43 Z sizeOf5 Z Z F Z) H qq0 (qT 2 Z Y Z Z Z Z (λa F w H=>rLd isAgg5 F Z (H.cell 0 Z Z)) H qq0 (Xg 4 Z Z (λa F w=>rMv F Z) H qq0 λa F=>?_))
 refine Xa (k:=3) (i:=5) Z F Z Z (λw H=>rLr underlying43 Z ?si F Z (H.whole 0 Z)) H (λ_ _ _ h=>h) ?_
 case si=>exact VT sizeOf43
 clear F a;intro a F;refine Xb 6 Z F Z (λw=>rMv F Z) H qq0 λa F=>?_
 refine zEc 0 F (Xcg _) H λa w F H=>?_
 refine V6 H ?_;refine Xb 3 Z F Z (λw=>rIdG underlying332 sizeOf331 isAgg331 F Z Z O (u)) H qq0 λa F=>?_;refine Xd (k:=7) (i:=7) Z F (BZ F Z Z Z (n c _ (H.blk 1 Z)) ?_);rintro e w ⟨rfl,j⟩
 replace H:=H.turned 1 Z j;clear j
 refine zq λa F=>?_
 refine gg 6 λa F=>?_
 refine zLd F (show _=some (Ve ((Js x c r).pc:Int))from H.cell 1 Z (G0 _)) λa F=>?_
 refine Xh F Z Z (JN ?_) ?_
 focus omega
 clear F a;intro a F
 refine gg 2 λa F=>?_
 refine sSt H 1 sizeOf3 F Z Z Z Z Z (G0 _) λw H=>?_
 refine gg 1 λa F=>?_
 refine bEnd results220 F ?_
 exact⟨Z,by rw[show(((Js x c r).pc:Int)+1)=(((Js x c r).pc+1:Nat):Int)from Z,Xnp]at H;exact H.sel [1] Z Z⟩
theorem MJ:(0:Nat)<4294967296:=by decide
theorem SetsOk.reg{r:RunP}(h:SetsOk r)(d:Nat)(v:UInt8):SetsOk (r.wReg d v):=⟨h.deps,h.control,h.data,h.ctrl,h.att⟩
theorem Xdo{f:Nat->Nat}(h:∀k,f k<4294967296)(b:n<4294967296)(k:Nat):GB f j n k<4294967296:=by
 unfold GB
 split
 ·exact b
 ·exact h k
theorem SetsOk.dep{r:RunP}(h:SetsOk r)(d:Nat)(c:n<4294967296):SetsOk (r.wDep d n):=
 ⟨λk b=>by
  show GB r.deps d n k<_
  unfold GB
  split
  ·exact c
  ·exact h.deps k b,h.control,h.data,h.ctrl,h.att⟩
theorem SetsOk.ctl{r:RunP}(h:SetsOk r)(b:n<4294967296):SetsOk (r.wControl n):=⟨h.deps,b,h.data,h.ctrl,h.att⟩
theorem SetsOk.many{r:RunP}(h:SetsOk r)(n:Nat):SetsOk (r.wMany n):=⟨h.deps,h.control,h.data,h.ctrl,h.att⟩
theorem SetsOk.ev{r:RunP}(h:SetsOk r)(k:Nat)(e:Ev):SetsOk (r.wEv k e):=⟨h.deps,h.control,h.data,h.ctrl,h.att⟩
theorem SetsOk.pc{r:RunP}(h:SetsOk r)(n:Nat):SetsOk (r.wPc n):=⟨h.deps,h.control,h.data,h.ctrl,h.att⟩
theorem SetsOk.dat{r:RunP}(h:SetsOk r)(k:Nat)(b:n<4294967296):SetsOk (r.wData k n):=⟨h.deps,h.control,Xdo h.data b,h.ctrl,h.att⟩
theorem SetsOk.ctr{r:RunP}(h:SetsOk r)(k:Nat)(b:n<4294967296):SetsOk (r.wCtrl k n):=⟨h.deps,h.control,h.data,Xdo h.ctrl b,h.att⟩
theorem SetsOk.atw{r:RunP}(h:SetsOk r)(k:Nat)(b:n<4294967296):SetsOk (r.wAtt k n):=⟨h.deps,h.control,h.data,h.ctrl,Xdo h.att b⟩
theorem SetsOk.setP{r:RunP}(h:SetsOk r)(d v:UInt8)(b:n<4294967296):SetsOk (setP d v n r):=(h.reg _ _).dep _ b
theorem SetsOk.emit{r:RunP}(h:SetsOk r)(c e d b:UInt8)(g:n<4294967296):SetsOk (UL c e d b n r):=
 (((h.ev _ _).dat _ g).ctr _ h.control).many _
theorem Xhw(r:RunP)(d:Nat)(v:UInt8):(r.wReg d v).many=r.many:=rfl
theorem Xhy(r:RunP)(d n:Nat):(r.wDep d n).many=r.many:=rfl
theorem Mn(r:RunP)(n:Nat):(r.wControl n).many=r.many:=rfl
theorem XfV(r:RunP)(n:Nat):(r.wMany n).many=n:=rfl
theorem Xes(r:RunP)(n:Nat):(r.wPc n).many=r.many:=rfl
theorem XfW(r:RunP)(d n:Nat):(r.wData d n).many=r.many:=rfl
theorem XfX(r:RunP)(d n:Nat):(r.wCtrl d n).many=r.many:=rfl
theorem XhA(r:RunP)(d n:Nat):(r.wAtt d n).many=r.many:=rfl
theorem Mt(d v:UInt8)(n:Nat)(r:RunP):(setP d v n r).many=r.many:=by unfold setP;rw[Xhy,Xhw]
theorem JI(c e d b:UInt8)(n:Nat)(r:RunP):(UL c e d b n r).many=r.many+1:=by unfold UL;rw[XfV]
theorem DQ(x:Ins)(c b:UInt8)(n:Nat)(r:RunP):(GP x c b n r).many=r.many+2:=by unfold GP;rw[Mt,XhA,JI,JI]
theorem SetsOk.exch{r:RunP}(h:SetsOk r)(hm:r.many<24)(x:Ins)(c b:UInt8)(d:n<4294967296):SetsOk (GP x c b n r):=
 (((h.emit 1 x.loc c 3 MJ).emit 2 x.loc b 3 d).atw _ (XcA hm)).setP _ _ (XcA hm)
theorem Xh9(x:Ins)(r:RunP):(JY x r).many=r.many:=by
 unfold JY
 split
 ·rw[Xes,Mn]
 ·rw[Mn]
theorem XmX(x:Ins)(v:UInt8)(r:RunP):r.many+1<=(XaL x v r).many/\(XaL x v r).many<=r.many+2:=by
 unfold XaL
 split
 ·rw[Mt,JI];omega
 ·rw[XfX,DQ];omega
theorem XmH(x:Ins)(v:UInt8)(r:RunP):(Js x v r).many<=r.many+2:=by
 have b:∀(n k:Nat),n=r.many+k->k<=2->n<=r.many+2:=λn k d c=>O
 unfold Js
 split
 ·exact b _ 1 (by unfold Xai;rw[Mt,JI]) (by decide)
 ·split
  ·exact b _ 1 (by unfold Mq;rw[JI]) (by decide)
  ·split
   ·exact b _ 0 (by unfold QI;rw[Mt];rfl) (by decide)
   ·split
    ·exact b _ 2 (by unfold CA;rw[DQ]) (by decide)
    ·split
     ·exact b _ 2 (by unfold NS;rw[XfW,DQ]) (by decide)
     ·split
      ·exact(XmX x v r).2
      ·split
       ·exact b _ 1 (by unfold MS;rw[JI]) (by decide)
       ·exact b _ 0 (Xh9 x r) (by decide)
theorem XmG(v:UInt8){r:RunP}(i:InR x)(h:SetsOk r)(hm:r.many+1<24):SetsOk (Js x v r):=by
 have g:=h.arg x.aR i.a
 have j:=h.arg x.bR i.b
 have e:=XbC g j
 have c:r.many<24:=O
 unfold Js
 split
 ·exact(h.emit 1 x.loc v x.mode MJ).setP _ _ (XcA c)
 ·split
  ·exact h.emit _ _ _ _ g
  ·split
   ·exact h.setP _ _ e
   ·split
    ·exact h.exch c _ _ _ g
    ·split
     ·have d:=h.exch c x v (v+UX x.aR x.aN r) g
      exact d.dat _ (XbC (d.data _) (d.att _))
     ·split
      ·unfold XaL
       split
       ·exact(h.emit 1 x.loc v 3 MJ).setP _ _ (XcA c)
       ·have d:=h.exch c x v (UX x.bR x.bN r) j
        exact d.ctr _ (XbC (d.ctrl _) (XbC (d.att _) g))
      ·split
       ·exact h.emit _ _ _ _ MJ
       ·unfold JY
        split
        ·exact(h.ctl (XbC h.control e)).pc _
        ·exact h.ctl (XbC h.control e)
structure ThrAt (l:List Ins) (k:Nat) (x:Ins):Prop where
 inr:InR x
 op:1<=x.op.toNat/\x.op.toNat<=8
 skip:k+1+x.skip.toNat<=l.length
 loc:x.loc.toNat<6
theorem NW(h:Ua 6 l=true):l.length<=12:=by
 simp only[Ua,AJ,decide_eq_true_eq]at h
 exact h.1
theorem Xn7{r:Bool}{n:UInt8}(h:XaU r n=true)(b:r=true):n.toNat<8:=by
 unfold XaU at h
 rw[b]at h
 exact Aa.1 (of_decide_eq_true h)
theorem BL(h:Ua 6 l=true)(o:l[k]?=some x):ThrAt l k x:=by
 have t:=(AB.1 o).1
 simp only[Ua,AJ,decide_eq_true_eq]at h
 have b:=Jo h.2 o
 have d:(decide (1<=x.op)&&decide (x.op<=8))=true:=U8 b 0 (by decide)
 have q:(x==x.needed)=true:=U8 b 1 (by decide)
 have s:decide (x.dst<8)=true:=U8 b 2 (by decide)
 have m:(!UW x.op 2||decide ((x.loc.toNat:Int)<6))=true:=U8 b 3 (by decide)
 have i:(XaU x.aR x.aN&&XaU x.bR x.bN)=true:=U8 b 4 (by decide)
 have n:(!UW x.op 64||(decide (1<=x.skip)&&decide ((x.skip.toNat:Int)<=(l.length:Int)-1-((0+k:Nat):Int))))=true:=U8 b 7 (by decide)
 have e:x=x.needed:=beq_iff_eq.1 q
 rw[AJ]at d i
 have p:=Ai.1 (of_decide_eq_true d.1)
 have r:=Ai.1 (of_decide_eq_true d.2)
 refine⟨⟨Aa.1 (of_decide_eq_true s),Xn7 i.1,Xn7 i.2⟩,⟨p,r⟩,?_,?_⟩
 ·cases c:UW x.op 64 with
  |true=>
   rw[c,I6,Ho,AJ]at n
   have:=of_decide_eq_true n.2
   omega
  |false=>
   have:x.skip=0:=by
    have j:x.skip=x.needed.skip:=congrArg Ins.skip e
    have g:x.needed.skip=bif UW x.op 64 then x.skip else 0:=rfl
    rw[j,g,c];rfl
   rw[this]
   show k+1+0<=_
   omega
 ·cases c:UW x.op 2 with
  |true=>
   rw[c,I6,Ho]at m
   have:=of_decide_eq_true m
   omega
  |false=>
   have:x.loc=0:=by
    have j:x.loc=x.needed.loc:=congrArg Ins.loc e
    have g:x.needed.loc=bif UW x.op 2 then x.loc else 0:=rfl
    rw[j,g,c];rfl
   rw[this]
   decide
structure InvR (l:List Ins) (r:RunP):Prop where
 pc:r.pc<=l.length
 many:r.many<=2*r.pc
 sets:SetsOk r
theorem Xfj(l:List Ins):InvR l zRun:=⟨AU _,AU _,⟨λ_ _=>MJ,MJ,λ_=>MJ,λ_=>MJ,λ_=>MJ⟩⟩
theorem InvR.ok{r:RunP}(h:InvR l r)(b:Ua 6 l=true)(c:r.pc<l.length):RunOk r:=by
 have:=NW b
 have:=h.many
 exact⟨h.sets,O,O⟩
theorem JG(x:Ins)(v:UInt8)(r:RunP):r.pc+1<=(Ub x v r).pc/\(Ub x v r).pc<=r.pc+1+x.skip.toNat:=by
 have:=XnV x v r
 unfold Ub
 rw[Xnh]
 omega
theorem EO{r:RunP}(v:UInt8)(h:InvR l r)(c:Ua 6 l=true)(b:l[r.pc]?=some x):InvR l (Ub x v r):=by
 have e:=(AB.1 b).1
 have d:=BL c b
 have g:=h.ok c e
 have n:=JG x v r
 have m:=XmH x v r
 have i:=d.skip
 have j:=h.many
 refine⟨O,?_,(XmG v d.inr h.sets g.many).pc _⟩
 have:(Ub x v r).many=(Js x v r).many:=by unfold Ub;rw[Xes]
 omega
def Ug(op:UInt8):Bool:=op==1||op==4||op==5||op==6
def Uj(l:List Ins):Nat->RunP->RunP
 |0,r=>r
 |n+1,r=>match l[r.pc]? with
  |some x=>if Ug x.op=true then r else Uj l n (Ub x 0 r)
  |none=>r
def VY(l:List Ins)(r:RunP):RunP:=Uj l (l.length-r.pc) r
def U2(l:List Ins)(r:RunP):Bool:=match l[r.pc]? with
 |some x=>Ug x.op
 |none=>false
theorem U7{l:List Ins}{r:RunP}(h:U2 l r=true\/l[r.pc]?=none):∀n,Uj l n r=r
 |0=>rfl
 |n+1=>by
  unfold Uj
  rcases h with h|h
  ·unfold U2 at h
   cases b:l[r.pc]? with
   |none=>rfl
   |some x=>
    rw[b]at h
    show(if Ug x.op=true then r else _)=r
    rw[if_pos h]
  ·rw[h]
theorem CS{l:List Ins}:∀(n:Nat)(r:RunP),l.length-r.pc<=n->Uj l n r=VY l r
 |n,r,h=>by
  induction n using Nat.strongRecOn generalizing r with
  |_ n c=>
   cases b:l[r.pc]? with
   |none=>rw[U7 (.inr b)];unfold VY;rw[U7 (.inr b)]
   |some x=>
    have p:=(AB.1 b).1
    obtain⟨m,o⟩:∃m,l.length-r.pc=m+1:=⟨l.length-r.pc-1,O⟩
    obtain⟨k,rfl⟩:∃k,n=k+1:=⟨n-1,O⟩
    cases d:Ug x.op with
    |true=>
     have g:U2 l r=true:=by unfold U2;rw[b];exact d
     rw[U7 (.inl g)];unfold VY;rw[U7 (.inl g)]
    |false=>
     have e:∀j,Uj l (j+1) r=Uj l j (Ub x 0 r):=λj=>by
      show(match l[r.pc]? with|some x=>if Ug x.op=true then r else Uj l j (Ub x 0 r)|none=>r)=_
      rw[b]
      show(if Ug x.op=true then r else Uj l j (Ub x 0 r))=_
      rw[if_neg (by rw[d];exact Bool.noConfusion)]
     have i:=JG x 0 r
     unfold VY
     rw[o,e k,e m,c k O _ O,c m O _ O]
theorem Xbu{r:RunP}(b:l[r.pc]?=some x)(d:Ug x.op=false):VY l r=VY l (Ub x 0 r):=by
 have g:=(AB.1 b).1
 have c:=JG x 0 r
 obtain⟨m,e⟩:∃m,l.length-r.pc=m+1:=⟨l.length-r.pc-1,O⟩
 rw[<-CS m (Ub x 0 r) O]
 unfold VY
 rw[e]
 show(match l[r.pc]? with|some x=>if Ug x.op=true then r else Uj l m (Ub x 0 r)|none=>r)=_
 rw[b]
 show(if Ug x.op=true then r else Uj l m (Ub x 0 r))=_
 rw[if_neg (by rw[d];exact Bool.noConfusion)]
theorem Jd{r:RunP}(h:U2 l r=true\/l[r.pc]?=none):VY l r=r:=U7 h _
theorem N0{l:List Ins}{M:RunP->Prop}(hs:∀r x,M r->l[r.pc]?=some x->Ug x.op=false->M (Ub x 0 r)):∀(n:Nat)(r:RunP),M r->M (Uj l n r)
 |0,_,h=>h
 |n+1,r,h=>by
  unfold Uj
  cases b:l[r.pc]? with
  |none=>exact h
  |some x=>
   show M (if Ug x.op=true then r else Uj l n (Ub x 0 r))
   cases c:Ug x.op with
   |true=>rw[if_pos Z];exact h
   |false=>rw[if_neg Bool.noConfusion];exact N0 hs n _ (hs r x h b c)
theorem Xdp{r:RunP}(c:Ua 6 l=true)(h:InvR l r):InvR l (VY l r):=N0 (λ_ _ h b _=>EO 0 h c b) _ r h
theorem Dc{l:List Ins}:∀(n:Nat)(r:RunP),l.length-r.pc<=n->U2 l (Uj l n r)=true\/l[(Uj l n r).pc]?=none
 |0,r,h=>.inr (AV (by show l.length<=r.pc;omega))
 |n+1,r,h=>by
  unfold Uj
  cases b:l[r.pc]? with
  |none=>exact .inr b
  |some x=>
   show U2 l (if Ug x.op=true then r else Uj l n (Ub x 0 r))=true\/l[(if Ug x.op=true then r else Uj l n (Ub x 0 r)).pc]?=none
   cases c:Ug x.op with
   |true=>rw[if_pos Z];exact .inl (by unfold U2;rw[b];exact c)
   |false=>rw[if_neg Bool.noConfusion];exact Dc n _ (by have:=JG x 0 r;omega)
def QB(l:List Ins)(r:RunP):Ins:=(l[r.pc]?).getD ⟨0,0,0,false,0,false,0,0,0,0⟩
theorem Xa5{r:RunP}(h:U2 l r=true):l[r.pc]?=some (QB l r)/\Ug (QB l r).op=true:=by
 unfold U2 at h
 unfold QB
 cases b:l[r.pc]? with
 |none=>rw[b]at h;exact Bool.noConfusion h
 |some x=>rw[b]at h;exact⟨Z,h⟩
end Go.Proofs.YtajfpcgbnflceaaGreatDoor
