/-
  Plain Lean: instructions, and when an instruction and a thread are valid. Nothing of the program. Conditions: none.

  Package check: argRight, has, needed, modeRight, fnRight. Conditions: the spot lies in memory; block 0 holds the table of needs.

  Package check: needed, modeRight, fnRight, conditions. Conditions: the spot lies in memory; block 0 holds the table of needs.

  Package check: the conditions of an instruction, as closures. Conditions: the spot lies in memory; block 0 holds the table of needs.

  Package check: Thread. Conditions: the slice holds instructions; block 0 holds the table of needs.

  Plain Lean: conditions and when one is valid; how one lies in memory. Conditions: none.

  Package check: condRight, Cond. Conditions: the condition lies in memory.

  slices.Index and slices.Contains of strings. Conditions: the slice holds the strings.

  Plain Lean: programs, and how one lies in memory. Conditions: none.

  Package check: the demands on a program that read no names. Conditions: the program lies in memory; block 0 holds the table of needs.
-/
import Derived.Test.YtagnefpgidbhnaaGreatDoorVcK
set_option linter.unusedSimpArgs false
set_option linter.unusedVariables false
namespace Go.Proofs.YtagnefpgidbhnaaGreatDoor
set_option maxRecDepth 100000
open Go.Proofs.Tryz
structure Ins where
 op:UInt8
 dst:UInt8
 loc:UInt8
 aR:Bool
 aN:UInt8
 bR:Bool
 bN:UInt8
 fn:UInt8
 mode:UInt8
 skip:UInt8
deriving DecidableEq
def Ins.cells (x:Ins):List Value:=[b8 x.op,b8 x.dst,b8 x.loc,.bool x.aR,b8 x.aN,.bool x.bR,b8 x.bN,b8 x.fn,b8 x.mode,b8 x.skip]
def M5 (op:UInt8):UInt8:=if op=1 then 35 else if op=2 then 38 else if op=3 then 29 else if op=4 then 7 else if op=5 then 7 else if op=6 then 15 else if op=7 then 32 else if op=8 then 92 else 0
def X7 (op f:UInt8):Bool:=(M5 op &&& f) != 0
def Ins.needed (x:Ins):Ins where
 op:=x.op
 dst:=bif X7 x.op 1 then x.dst else 0
 loc:=bif X7 x.op 2 then x.loc else 0
 aR:=bif X7 x.op 4 then x.aR else false
 aN:=bif X7 x.op 4 then x.aN else 0
 bR:=bif X7 x.op 8 then x.bR else false
 bN:=bif X7 x.op 8 then x.bN else 0
 fn:=bif X7 x.op 16 then x.fn else 0
 mode:=bif X7 x.op 32 then x.mode else 0
 skip:=bif X7 x.op 64 then x.skip else 0
def ZC (r:Bool) (n:UInt8):Bool:=!r || decide (n < 8)
def Zp (op mode:UInt8):Bool:=if op=1 then mode == 0 || mode == 1 else if op=2 then mode == 0 || mode == 2 else if op=7 then mode == 3 || mode == 4 || mode == 5 else true
def JC (op fn:UInt8):Bool:=if op=3 then fn == 1 || fn == 2 || fn == 3 else if op=8 then fn == 4 || fn == 5 || fn == 6 else true
def Yr (x:Ins) (locs after:Int):Nat→Bool
 | 0=>decide (1≤x.op) && decide (x.op≤8)
 | 1=>x == x.needed
 | 2=>decide (x.dst < 8)
 | 3=>!X7 x.op 2 || decide ((x.loc.toNat:Int) < locs)
 | 4=>ZC x.aR x.aN && ZC x.bR x.bN
 | 5=>Zp x.op x.mode
 | 6=>JC x.op x.fn
 | 7=>!X7 x.op 64 || (decide (1≤x.skip) && decide ((x.skip.toNat:Int)≤after))
 | _=>true
def ZV (x:Ins) (locs after:Int):Bool:=(List.range 8).all (Yr x locs after)
def YP (locs:Int) (n:Nat):Nat→List Ins→Bool
 | _,[]=>true
 | i,x :: r=>ZV x locs ((n:Int) - 1 - i) && YP locs n (i+1) r
def XH (locs:Int) (l:List Ins):Bool:=decide (l.length≤12) && YP locs l.length 0 l
section
open Go.RowKit
theorem X1 {a b:Bool} (h:a=b):(Ending.returned (.bool a):Ending) = .returned (.bool b):=by rw [h]
def WY (w:World) (B:Nat) (x:Ins) (locs after:Int):Prop:=w.rangeAt B 0 (x.cells++[.int .i64 locs,.int .i64 after])
def NeedsAt (w:World):Prop:=∀ i:UInt8,i < 9→w.cell? ⟨1,i.toNat,none⟩=some (b8 (M5 i))
theorem NeedsAt.at {w:World} (h:NeedsAt w) (op:UInt8) (ho:op < 9):w.cell? ⟨1,0+op.toNat * 1,none⟩=some (b8 (M5 op)):=by
 rw [Nat.zero_add,Nat.mul_one];exact h op ho
theorem UU (r:Bool) (n:UInt8) (w0:World):Calls Tryz.prog 92 #[.agg #[.bool r,b8 n]] w0 fun e w'=>e = .returned (.bool (ZC r n))∧Below w0.heap.size w0 w':=by
 have H:=Own.start w0 none
 refine XE func92 rfl ntmps92 rfl (fun a F=>?_);refine cSR fun K1 hK1=>?_;refine sBx H F rfl rfl rfl ?_;clear F a H;intro b1 a w F H;refine Xa F rfl (qNK hK1 (qSR fun K2 hK2=>Xb (f:=0) (k:=0) underlying59 rfl sizeOf4 rfl rfl rfl (Xc isAgg4 rfl (H.cell 0 rfl rfl) (Es rfl rfl rfl (Xd rfl ?_)))));clear hK1;clear F a;intro a F
 refine F.split 6 rfl ?_ ?_ <;> (clear F;intro h6 F)
 ·
  replace h6:=ZA h6;refine Xe F (Xf (Xf (Xg rfl rfl (Xh rfl (qNK hK2 ?_)))));clear hK2;clear F a;intro a F;refine wp_ret ?_;refine bRet results92 F rfl ?_
  exact ⟨X1 (by simp_all [ZC]),H.below⟩
 replace h6:=ZB h6;refine Xi (f:=1) (k:=1) underlying59 rfl sizeOf5 rfl rfl F rfl (Xc isAgg5 rfl (H.cell 0 rfl rfl) (Xj rfl rfl (GY (y:=8)) (Xg rfl rfl (Xh rfl (qNK hK2 ?_)))));clear hK2;clear F a;intro a F;refine wp_ret ?_;refine bRet results92 F rfl ?_
 exact ⟨X1 (by simp_all [ZC]),H.below⟩
theorem WF (B:Nat) (x:Ins) (locs after:Int) (f:UInt8) (w0:World) (hS:WY w0 B x locs after) (hN:NeedsAt w0) (ho:x.op < 9) :
   Calls Tryz.prog 90 #[.pointer (some ⟨B,0,none⟩),b8 f] w0 fun e w'=>e = .returned (.bool (X7 x.op f))∧Below w0.heap.size w0 w':=by
 have H:=Own.start w0 none
 have hop:x.op.toNat < 9:=ho
 refine XE func90 rfl ntmps90 rfl (fun a F=>?_);refine cSR fun K1 hK1=>Xa F rfl (qNK hK1 (qSR fun K2 hK2=>Xd rfl (Xk rfl (Xb (f:=0) (k:=0) underlying117 rfl sizeOf61 rfl rfl rfl (Xb (f:=0) (k:=0) underlying61 rfl sizeOf5 rfl rfl rfl (Xc isAgg5 rfl (H.arg (hS 0 _ rfl)) ?_))))));clear hK1;clear F a;intro a F
 refine sIa underlying168 sizeOf5 F rfl rfl rfl rfl ?_ ?_
 focus exact hop
 clear F a;intro a F;refine sLd isAgg5 F rfl rfl rfl (H.arg (hN.at _ ho)) (Xd rfl (Xj rfl rfl (bAndB) (Xj rfl rfl (En (y:=0)) (Xh rfl (qNK hK2 ?_)))));clear hK2;clear F a;intro a F;refine wp_ret ?_;refine bRet results90 F rfl ?_
 exact ⟨rfl,H.below⟩
end
section
open Go.RowKit
theorem Ug {t:TypeId} {x' y':Operand} {x y:Ins} (ht:t=61):ZF Tryz.prog .eql t x' y' (.agg x.cells.toArray) (.agg y.cells.toArray) (.bool (x == y)):=fun w=>by
 subst ht
 simp [Ins.cells,go_sem,underlying61]
 obtain ⟨x0,x1,x2,x3,x4,x5,x6,x7,x8,x9⟩:=x
 obtain ⟨y0,y1,y2,y3,y4,y5,y6,y7,y8,y9⟩:=y
 simp only [Int.natCast_inj,UInt8.toNat_inj]
 repeat' split
 all_goals
   congr 2
   symm
   simp_all [beq_eq_false_iff_ne]
set_option maxRecDepth 10000 in
theorem J4 (B:Nat) (x:Ins) (locs after:Int) (w0:World) (hS:WY w0 B x locs after):Calls Tryz.prog 93 #[.pointer (some ⟨B,0,none⟩)] w0 fun e w'=>e = .returned (.bool (Zp x.op x.mode))∧Below w0.heap.size w0 w':=by
 have H:=Own.start w0 none
 refine XE func93 rfl ntmps93 rfl (fun a F=>?_);refine cSR fun K1 hK1=>Xa F rfl (qNK hK1 ?_);clear hK1;clear F a;intro a F;refine cSeq (fun K2 hK2=>?_);refine cSR fun K3 hK3=>Xl F rfl (Xk rfl (Xb (f:=0) (k:=0) underlying117 rfl sizeOf61 rfl rfl rfl (Xb (f:=0) (k:=0) underlying61 rfl sizeOf5 rfl rfl rfl (Xc isAgg5 rfl (H.arg (hS 0 _ rfl)) (qNK hK3 ?_)))));clear hK3;clear F a;intro a F;refine wp_block ?_;refine cSR fun K4 hK4=>Xm F rfl rfl (XZ (y:=1)) (Xh rfl (qNK hK4 ?_));clear hK4;clear F a;intro a F
 refine cIf F rfl (fun h8=>?_) (fun h8=>?_)
 ·
  replace h8:=Yh h8;refine cSR fun K5 hK5=>Xl F rfl (Xk rfl (Xb (f:=0) (k:=0) underlying117 rfl sizeOf61 rfl rfl rfl (Xb (f:=6) (k:=8) underlying61 rfl sizeOf5 rfl rfl rfl (Xc isAgg5 rfl (H.arg (hS 8 _ rfl)) (Xj rfl rfl (XZ (y:=0)) (Xd rfl ?_))))));clear F a;intro a F
  refine F.split 16 rfl ?_ ?_ <;> (clear F;intro h16 F)
  ·
   replace h16:=Yh h16;refine Xe F (Xf (Xf (Xf (Xf (Xf (Xg rfl rfl (Xh rfl (qNK hK5 ?_))))))));clear hK5;clear F a;intro a F;refine wp_ret ?_;refine xI ?_;refine bRet results93 F rfl ?_
   exact ⟨X1 (by simp_all [Zp]),H.below⟩
  replace h16:=Yi h16;refine Xl F rfl (Xk rfl (Xb (f:=0) (k:=0) underlying117 rfl sizeOf61 rfl rfl rfl (Xb (f:=6) (k:=8) underlying61 rfl sizeOf5 rfl rfl rfl (Xc isAgg5 rfl (H.arg (hS 8 _ rfl)) (Xj rfl rfl (XZ (y:=1)) (Xg rfl rfl (Xh rfl (qNK hK5 ?_))))))));clear hK5;clear F a;intro a F;refine wp_ret ?_;refine xI ?_;refine bRet results93 F rfl ?_
  exact ⟨X1 (by simp_all [Zp]),H.below⟩
 replace h8:=Yi h8;refine cSR fun K6 hK6=>Xm F rfl rfl (XZ (y:=2)) (Xh rfl (qNK hK6 ?_));clear hK6;clear F a;intro a F
 refine cIf F rfl (fun h24=>?_) (fun h24=>?_)
 ·
  replace h24:=Yh h24;refine cSR fun K7 hK7=>Xl F rfl (Xk rfl (Xb (f:=0) (k:=0) underlying117 rfl sizeOf61 rfl rfl rfl (Xb (f:=6) (k:=8) underlying61 rfl sizeOf5 rfl rfl rfl (Xc isAgg5 rfl (H.arg (hS 8 _ rfl)) (Xj rfl rfl (XZ (y:=0)) (Xd rfl ?_))))));clear F a;intro a F
  refine F.split 32 rfl ?_ ?_ <;> (clear F;intro h32 F)
  ·
   replace h32:=Yh h32;refine Xe F (Xf (Xf (Xf (Xf (Xf (Xg rfl rfl (Xh rfl (qNK hK7 ?_))))))));clear hK7;clear F a;intro a F;refine wp_ret ?_;refine xI ?_;refine bRet results93 F rfl ?_
   exact ⟨X1 (by simp_all [Zp]),H.below⟩
  replace h32:=Yi h32;refine Xl F rfl (Xk rfl (Xb (f:=0) (k:=0) underlying117 rfl sizeOf61 rfl rfl rfl (Xb (f:=6) (k:=8) underlying61 rfl sizeOf5 rfl rfl rfl (Xc isAgg5 rfl (H.arg (hS 8 _ rfl)) (Xj rfl rfl (XZ (y:=2)) (Xg rfl rfl (Xh rfl (qNK hK7 ?_))))))));clear hK7;clear F a;intro a F;refine wp_ret ?_;refine xI ?_;refine bRet results93 F rfl ?_
  exact ⟨X1 (by simp_all [Zp]),H.below⟩
 replace h24:=Yi h24;refine cSR fun K8 hK8=>Xm F rfl rfl (XZ (y:=7)) (Xh rfl (qNK hK8 ?_));clear hK8;clear F a;intro a F
 refine cIf F rfl (fun h40=>?_) (fun h40=>?_)
 ·
  replace h40:=Yh h40;refine cSR fun K9 hK9=>Xl F rfl (Xk rfl (Xb (f:=0) (k:=0) underlying117 rfl sizeOf61 rfl rfl rfl (Xb (f:=6) (k:=8) underlying61 rfl sizeOf5 rfl rfl rfl (Xc isAgg5 rfl (H.arg (hS 8 _ rfl)) (Xj rfl rfl (XZ (y:=3)) (Xd rfl ?_))))));clear F a;intro a F
  refine F.split 48 rfl ?_ ?_ <;> (clear F;intro h48 F)
  ·
   replace h48:=Yh h48;refine Xe F (Xf (Xf (Xf (Xf (Xf (Xg rfl rfl (Xd rfl (Xf (Xf (Xf (Xf (Xf (Xf (Xg rfl rfl (Xh rfl (qNK hK9 ?_))))))))))))))));clear hK9;clear F a;intro a F;refine wp_ret ?_;refine xI ?_;refine bRet results93 F rfl ?_
   exact ⟨X1 (by simp_all [Zp]),H.below⟩
  replace h48:=Yi h48;refine Xl F rfl (Xk rfl (Xb (f:=0) (k:=0) underlying117 rfl sizeOf61 rfl rfl rfl (Xb (f:=6) (k:=8) underlying61 rfl sizeOf5 rfl rfl rfl (Xc isAgg5 rfl (H.arg (hS 8 _ rfl)) (Xj rfl rfl (XZ (y:=4)) (Xg rfl rfl (Xd rfl ?_)))))));clear F a;intro a F
  refine F.split 56 rfl ?_ ?_ <;> (clear F;intro h56 F)
  ·
   replace h56:=Yh h56;refine Xe F (Xf (Xf (Xf (Xf (Xf (Xg rfl rfl (Xh rfl (qNK hK9 ?_))))))));clear hK9;clear F a;intro a F;refine wp_ret ?_;refine xI ?_;refine bRet results93 F rfl ?_
   exact ⟨X1 (by simp_all [Zp]),H.below⟩
  replace h56:=Yi h56;refine Xl F rfl (Xk rfl (Xb (f:=0) (k:=0) underlying117 rfl sizeOf61 rfl rfl rfl (Xb (f:=6) (k:=8) underlying61 rfl sizeOf5 rfl rfl rfl (Xc isAgg5 rfl (H.arg (hS 8 _ rfl)) (Xj rfl rfl (XZ (y:=5)) (Xg rfl rfl (Xh rfl (qNK hK9 ?_))))))));clear hK9;clear F a;intro a F;refine wp_ret ?_;refine xI ?_;refine bRet results93 F rfl ?_
  exact ⟨X1 (by simp_all [Zp]),H.below⟩
 replace h40:=Yi h40;refine wp_skip (hK2 _ _ (cSR fun K10 hK10=>Xa F rfl (qNK hK10 ?_)));clear hK2 hK10;clear F a;intro a F;refine wp_ret ?_;refine bRet results93 F rfl ?_
 exact ⟨X1 (by simp_all [Zp]),H.below⟩
theorem Mh (B:Nat) (x:Ins) (locs after:Int) (w0:World) (hS:WY w0 B x locs after):Calls Tryz.prog 94 #[.pointer (some ⟨B,0,none⟩)] w0 fun e w'=>e = .returned (.bool (JC x.op x.fn))∧Below w0.heap.size w0 w':=by
 have H:=Own.start w0 none
 refine XE func94 rfl ntmps94 rfl (fun a F=>?_);refine cSR fun K1 hK1=>Xa F rfl (qNK hK1 ?_);clear hK1;clear F a;intro a F;refine cSeq (fun K2 hK2=>?_);refine cSR fun K3 hK3=>Xl F rfl (Xk rfl (Xb (f:=0) (k:=0) underlying117 rfl sizeOf61 rfl rfl rfl (Xb (f:=0) (k:=0) underlying61 rfl sizeOf5 rfl rfl rfl (Xc isAgg5 rfl (H.arg (hS 0 _ rfl)) (qNK hK3 ?_)))));clear hK3;clear F a;intro a F;refine wp_block ?_;refine cSR fun K4 hK4=>Xm F rfl rfl (XZ (y:=3)) (Xh rfl (qNK hK4 ?_));clear hK4;clear F a;intro a F
 refine cIf F rfl (fun h8=>?_) (fun h8=>?_)
 ·
  replace h8:=Yh h8;refine cSR fun K5 hK5=>Xl F rfl (Xk rfl (Xb (f:=0) (k:=0) underlying117 rfl sizeOf61 rfl rfl rfl (Xb (f:=5) (k:=7) underlying61 rfl sizeOf5 rfl rfl rfl (Xc isAgg5 rfl (H.arg (hS 7 _ rfl)) (Xj rfl rfl (XZ (y:=1)) (Xd rfl ?_))))));clear F a;intro a F
  refine F.split 16 rfl ?_ ?_ <;> (clear F;intro h16 F)
  ·
   replace h16:=Yh h16;refine Xe F (Xf (Xf (Xf (Xf (Xf (Xg rfl rfl (Xd rfl (Xf (Xf (Xf (Xf (Xf (Xf (Xg rfl rfl (Xh rfl (qNK hK5 ?_))))))))))))))));clear hK5;clear F a;intro a F;refine wp_ret ?_;refine xI ?_;refine bRet results94 F rfl ?_
   exact ⟨X1 (by simp_all [JC]),H.below⟩
  replace h16:=Yi h16;refine Xl F rfl (Xk rfl (Xb (f:=0) (k:=0) underlying117 rfl sizeOf61 rfl rfl rfl (Xb (f:=5) (k:=7) underlying61 rfl sizeOf5 rfl rfl rfl (Xc isAgg5 rfl (H.arg (hS 7 _ rfl)) (Xj rfl rfl (XZ (y:=2)) (Xg rfl rfl (Xd rfl ?_)))))));clear F a;intro a F
  refine F.split 24 rfl ?_ ?_ <;> (clear F;intro h24 F)
  ·
   replace h24:=Yh h24;refine Xe F (Xf (Xf (Xf (Xf (Xf (Xg rfl rfl (Xh rfl (qNK hK5 ?_))))))));clear hK5;clear F a;intro a F;refine wp_ret ?_;refine xI ?_;refine bRet results94 F rfl ?_
   exact ⟨X1 (by simp_all [JC]),H.below⟩
  replace h24:=Yi h24;refine Xl F rfl (Xk rfl (Xb (f:=0) (k:=0) underlying117 rfl sizeOf61 rfl rfl rfl (Xb (f:=5) (k:=7) underlying61 rfl sizeOf5 rfl rfl rfl (Xc isAgg5 rfl (H.arg (hS 7 _ rfl)) (Xj rfl rfl (XZ (y:=3)) (Xg rfl rfl (Xh rfl (qNK hK5 ?_))))))));clear hK5;clear F a;intro a F;refine wp_ret ?_;refine xI ?_;refine bRet results94 F rfl ?_
  exact ⟨X1 (by simp_all [JC]),H.below⟩
 replace h8:=Yi h8;refine cSR fun K6 hK6=>Xm F rfl rfl (XZ (y:=8)) (Xh rfl (qNK hK6 ?_));clear hK6;clear F a;intro a F
 refine cIf F rfl (fun h32=>?_) (fun h32=>?_)
 ·
  replace h32:=Yh h32;refine cSR fun K7 hK7=>Xl F rfl (Xk rfl (Xb (f:=0) (k:=0) underlying117 rfl sizeOf61 rfl rfl rfl (Xb (f:=5) (k:=7) underlying61 rfl sizeOf5 rfl rfl rfl (Xc isAgg5 rfl (H.arg (hS 7 _ rfl)) (Xj rfl rfl (XZ (y:=4)) (Xd rfl ?_))))));clear F a;intro a F
  refine F.split 40 rfl ?_ ?_ <;> (clear F;intro h40 F)
  ·
   replace h40:=Yh h40;refine Xe F (Xf (Xf (Xf (Xf (Xf (Xg rfl rfl (Xd rfl (Xf (Xf (Xf (Xf (Xf (Xf (Xg rfl rfl (Xh rfl (qNK hK7 ?_))))))))))))))));clear hK7;clear F a;intro a F;refine wp_ret ?_;refine xI ?_;refine bRet results94 F rfl ?_
   exact ⟨X1 (by simp_all [JC]),H.below⟩
  replace h40:=Yi h40;refine Xl F rfl (Xk rfl (Xb (f:=0) (k:=0) underlying117 rfl sizeOf61 rfl rfl rfl (Xb (f:=5) (k:=7) underlying61 rfl sizeOf5 rfl rfl rfl (Xc isAgg5 rfl (H.arg (hS 7 _ rfl)) (Xj rfl rfl (XZ (y:=5)) (Xg rfl rfl (Xd rfl ?_)))))));clear F a;intro a F
  refine F.split 48 rfl ?_ ?_ <;> (clear F;intro h48 F)
  ·
   replace h48:=Yh h48;refine Xe F (Xf (Xf (Xf (Xf (Xf (Xg rfl rfl (Xh rfl (qNK hK7 ?_))))))));clear hK7;clear F a;intro a F;refine wp_ret ?_;refine xI ?_;refine bRet results94 F rfl ?_
   exact ⟨X1 (by simp_all [JC]),H.below⟩
  replace h48:=Yi h48;refine Xl F rfl (Xk rfl (Xb (f:=0) (k:=0) underlying117 rfl sizeOf61 rfl rfl rfl (Xb (f:=5) (k:=7) underlying61 rfl sizeOf5 rfl rfl rfl (Xc isAgg5 rfl (H.arg (hS 7 _ rfl)) (Xj rfl rfl (XZ (y:=6)) (Xg rfl rfl (Xh rfl (qNK hK7 ?_))))))));clear hK7;clear F a;intro a F;refine wp_ret ?_;refine xI ?_;refine bRet results94 F rfl ?_
  exact ⟨X1 (by simp_all [JC]),H.below⟩
 replace h32:=Yi h32;refine wp_skip (hK2 _ _ (cSR fun K8 hK8=>Xa F rfl (qNK hK8 ?_)));clear hK2 hK8;clear F a;intro a F;refine wp_ret ?_;refine bRet results94 F rfl ?_
 exact ⟨X1 (by simp_all [JC]),H.below⟩
theorem XbH {c:Bool} {u:UInt8}:b8 (bif c then u else 0)=bif c then b8 u else .int .u8 0:=by cases c <;> rfl
theorem QT (x:Ins):x.needed.cells=[b8 x.op,(bif X7 x.op 1 then b8 x.dst else .int .u8 0),(bif X7 x.op 2 then b8 x.loc else .int .u8 0),.bool (bif X7 x.op 4 then x.aR else false),(bif X7 x.op 4 then b8 x.aN else .int .u8 0),.bool (bif X7 x.op 8 then x.bR else false),(bif X7 x.op 8 then b8 x.bN else .int .u8 0),(bif X7 x.op 16 then b8 x.fn else .int .u8 0),(bif X7 x.op 32 then b8 x.mode else .int .u8 0),(bif X7 x.op 64 then b8 x.skip else .int .u8 0)]:=by
 simp only [Ins.cells,Ins.needed,XbH]
set_option maxHeartbeats 1000000 in
theorem LX (B:Nat) (x:Ins) (locs after:Int) (w0:World) (hS:WY w0 B x locs after) (hN:NeedsAt w0) (ho:x.op < 9) :
   Calls Tryz.prog 87 #[.pointer (some ⟨B,0,none⟩)] w0 fun e w'=>e = .returned (.agg x.needed.cells.toArray)∧Below w0.heap.size w0 w':=by
 have H:=Own.start w0 none
 rw [QT];refine XE func87 rfl ntmps87 rfl (fun a F=>?_);refine cSR fun K1 hK1=>?_;refine sAl H zeroValue61 F rfl rfl ?_;clear F a H;intro b2 a w F H;refine nK hK1 (cSR fun K2 hK2=>Xl F rfl (Xk rfl (Xb (f:=0) (k:=0) underlying117 rfl sizeOf61 rfl rfl rfl (Xb (f:=0) (k:=0) underlying61 rfl sizeOf5 rfl rfl rfl (Xc isAgg5 rfl (H.arg (hS 0 _ rfl)) (qBd (places:=[(0,1),(1,1),(2,1),(3,2),(5,2),(7,1),(8,1),(9,1)]) zeroValue61 underlying61 (by kernel_rfl) rfl rfl rfl rfl ?_))))));clear hK1;clear F a;intro a F;refine sAl H zeroValue61 F rfl rfl ?_;clear F a H;intro b3 a w F H
 refine sSr H 0 ?si F rfl rfl rfl ?s1 rfl rfl ?_
 case si=>exact XC sizeOf61
 case s1=>rfl
 clear H;intro w H;refine nK hK2 ?_;clear hK2
 refine cSeqS [0,2,3] (fun ups w=>ups=[]∧Own w0 none w [.blk b3 [b8 x.op,(bif X7 x.op 1 then b8 x.dst else .int .u8 0),.int .u8 0,.bool false,.int .u8 0,.bool false,.int .u8 0,.int .u8 0,.int .u8 0,.int .u8 0] 61,.blk b2 [.int .u8 0,.int .u8 0,.int .u8 0,.bool false,.int .u8 0,.bool false,.int .u8 0,.int .u8 0,.int .u8 0,.int .u8 0] 61]) F ?_ ?_
 ·
  refine cSR fun K3 hK3=>Xl F rfl ?_;clear F a;intro a F;refine Xn call90 F rfl (WF B x locs after 1 _ (fun j v hv=>H.arg (hS j v hv)) (fun i hi=>H.arg (hN i hi)) ho) (gG H ?_);clear F a H;intro a w F H;refine nK hK3 ?_;clear hK3
  refine cIf F rfl (fun h11=>?_) (fun h11=>?_)
  ·
   refine cReg (Xl F rfl (Xk rfl (Xb (f:=0) (k:=0) underlying117 rfl sizeOf61 rfl rfl rfl (Xb (f:=1) (k:=1) underlying61 rfl sizeOf5 rfl rfl rfl (Xc isAgg5 rfl (H.arg (hS 1 _ rfl)) (Xb (f:=1) (k:=1) underlying61 rfl sizeOf5 rfl rfl rfl ?_))))));clear F a;intro a F;refine sSt H 0 sizeOf5 F rfl rfl rfl rfl rfl rfl ?_;clear H;intro w H;refine sNil ?_
   exact ⟨[],⟨rfl,by rw [h11];exact H⟩,F.tt⟩
  refine wp_skip ?_
  exact ⟨[],⟨rfl,by rw [h11];exact H⟩,F.tt⟩
 clear F H
 intro ups a w hI F
 obtain ⟨rfl,H⟩:=hI
 refine cSeqS [0,2,3] (fun ups w=>ups=[]∧Own w0 none w [.blk b3 [b8 x.op,(bif X7 x.op 1 then b8 x.dst else .int .u8 0),(bif X7 x.op 2 then b8 x.loc else .int .u8 0),.bool false,.int .u8 0,.bool false,.int .u8 0,.int .u8 0,.int .u8 0,.int .u8 0] 61,.blk b2 [.int .u8 0,.int .u8 0,.int .u8 0,.bool false,.int .u8 0,.bool false,.int .u8 0,.int .u8 0,.int .u8 0,.int .u8 0] 61]) F ?_ ?_
 ·
  refine cSR fun K4 hK4=>Xl F rfl ?_;clear F a;intro a F;refine Xn call90 F rfl (WF B x locs after 2 _ (fun j v hv=>H.arg (hS j v hv)) (fun i hi=>H.arg (hN i hi)) ho) (gG H ?_);clear F a H;intro a w F H;refine nK hK4 ?_;clear hK4
  refine cIf F rfl (fun h19=>?_) (fun h19=>?_)
  ·
   refine cReg (Xl F rfl (Xk rfl (Xb (f:=0) (k:=0) underlying117 rfl sizeOf61 rfl rfl rfl (Xb (f:=2) (k:=2) underlying61 rfl sizeOf5 rfl rfl rfl (Xc isAgg5 rfl (H.arg (hS 2 _ rfl)) (Xb (f:=2) (k:=2) underlying61 rfl sizeOf5 rfl rfl rfl ?_))))));clear F a;intro a F;refine sSt H 0 sizeOf5 F rfl rfl rfl rfl rfl rfl ?_;clear H;intro w H;refine sNil ?_
   exact ⟨[],⟨rfl,by rw [h19];exact H⟩,F.tt⟩
  refine wp_skip ?_
  exact ⟨[],⟨rfl,by rw [h19];exact H⟩,F.tt⟩
 clear F H
 intro ups a w hI F
 obtain ⟨rfl,H⟩:=hI
 refine cSeqS [0,2,3] (fun ups w=>ups=[]∧Own w0 none w [.blk b3 [b8 x.op,(bif X7 x.op 1 then b8 x.dst else .int .u8 0),(bif X7 x.op 2 then b8 x.loc else .int .u8 0),.bool (bif X7 x.op 4 then x.aR else false),(bif X7 x.op 4 then b8 x.aN else .int .u8 0),.bool false,.int .u8 0,.int .u8 0,.int .u8 0,.int .u8 0] 61,.blk b2 [.int .u8 0,.int .u8 0,.int .u8 0,.bool false,.int .u8 0,.bool false,.int .u8 0,.int .u8 0,.int .u8 0,.int .u8 0] 61]) F ?_ ?_
 ·
  refine cSR fun K5 hK5=>Xl F rfl ?_;clear F a;intro a F;refine Xn call90 F rfl (WF B x locs after 4 _ (fun j v hv=>H.arg (hS j v hv)) (fun i hi=>H.arg (hN i hi)) ho) (gG H ?_);clear F a H;intro a w F H;refine nK hK5 ?_;clear hK5
  refine cIf F rfl (fun h27=>?_) (fun h27=>?_)
  ·
   refine cReg (Xl F rfl (Xk rfl (Xb (f:=0) (k:=0) underlying117 rfl sizeOf61 rfl rfl rfl (Xb (f:=3) (k:=3) underlying61 rfl sizeOf59 rfl rfl rfl ?_))));clear F a;intro a F
   refine Xo underlying59 rfl ?si F rfl (H.argR (XbY hS 3 2)) ?_
   case si=>exact XC sizeOf59
   clear F a;intro a F;refine Xi (f:=3) (k:=3) underlying61 rfl sizeOf59 rfl rfl F rfl ?_;clear F a;intro a F
   refine sSr H 0 ?si F rfl rfl rfl ?s1 rfl rfl ?_
   case si=>exact XC sizeOf59
   case s1=>rfl
   clear H;intro w H;refine sNil ?_
   exact ⟨[],⟨rfl,by rw [h27];exact H⟩,F.tt⟩
  refine wp_skip ?_
  exact ⟨[],⟨rfl,by rw [h27];exact H⟩,F.tt⟩
 clear F H
 intro ups a w hI F
 obtain ⟨rfl,H⟩:=hI
 refine cSeqS [0,2,3] (fun ups w=>ups=[]∧Own w0 none w [.blk b3 [b8 x.op,(bif X7 x.op 1 then b8 x.dst else .int .u8 0),(bif X7 x.op 2 then b8 x.loc else .int .u8 0),.bool (bif X7 x.op 4 then x.aR else false),(bif X7 x.op 4 then b8 x.aN else .int .u8 0),.bool (bif X7 x.op 8 then x.bR else false),(bif X7 x.op 8 then b8 x.bN else .int .u8 0),.int .u8 0,.int .u8 0,.int .u8 0] 61,.blk b2 [.int .u8 0,.int .u8 0,.int .u8 0,.bool false,.int .u8 0,.bool false,.int .u8 0,.int .u8 0,.int .u8 0,.int .u8 0] 61]) F ?_ ?_
 ·
  refine cSR fun K6 hK6=>Xl F rfl ?_;clear F a;intro a F;refine Xn call90 F rfl (WF B x locs after 8 _ (fun j v hv=>H.arg (hS j v hv)) (fun i hi=>H.arg (hN i hi)) ho) (gG H ?_);clear F a H;intro a w F H;refine nK hK6 ?_;clear hK6
  refine cIf F rfl (fun h35=>?_) (fun h35=>?_)
  ·
   refine cReg (Xl F rfl (Xk rfl (Xb (f:=0) (k:=0) underlying117 rfl sizeOf61 rfl rfl rfl (Xb (f:=4) (k:=5) underlying61 rfl sizeOf59 rfl rfl rfl ?_))));clear F a;intro a F
   refine Xo underlying59 rfl ?si F rfl (H.argR (XbY hS 5 2)) ?_
   case si=>exact XC sizeOf59
   clear F a;intro a F;refine Xi (f:=4) (k:=5) underlying61 rfl sizeOf59 rfl rfl F rfl ?_;clear F a;intro a F
   refine sSr H 0 ?si F rfl rfl rfl ?s1 rfl rfl ?_
   case si=>exact XC sizeOf59
   case s1=>rfl
   clear H;intro w H;refine sNil ?_
   exact ⟨[],⟨rfl,by rw [h35];exact H⟩,F.tt⟩
  refine wp_skip ?_
  exact ⟨[],⟨rfl,by rw [h35];exact H⟩,F.tt⟩
 clear F H
 intro ups a w hI F
 obtain ⟨rfl,H⟩:=hI
 refine cSeqS [0,2,3] (fun ups w=>ups=[]∧Own w0 none w [.blk b3 [b8 x.op,(bif X7 x.op 1 then b8 x.dst else .int .u8 0),(bif X7 x.op 2 then b8 x.loc else .int .u8 0),.bool (bif X7 x.op 4 then x.aR else false),(bif X7 x.op 4 then b8 x.aN else .int .u8 0),.bool (bif X7 x.op 8 then x.bR else false),(bif X7 x.op 8 then b8 x.bN else .int .u8 0),(bif X7 x.op 16 then b8 x.fn else .int .u8 0),.int .u8 0,.int .u8 0] 61,.blk b2 [.int .u8 0,.int .u8 0,.int .u8 0,.bool false,.int .u8 0,.bool false,.int .u8 0,.int .u8 0,.int .u8 0,.int .u8 0] 61]) F ?_ ?_
 ·
  refine cSR fun K7 hK7=>Xl F rfl ?_;clear F a;intro a F;refine Xn call90 F rfl (WF B x locs after 16 _ (fun j v hv=>H.arg (hS j v hv)) (fun i hi=>H.arg (hN i hi)) ho) (gG H ?_);clear F a H;intro a w F H;refine nK hK7 ?_;clear hK7
  refine cIf F rfl (fun h43=>?_) (fun h43=>?_)
  ·
   refine cReg (Xl F rfl (Xk rfl (Xb (f:=0) (k:=0) underlying117 rfl sizeOf61 rfl rfl rfl (Xb (f:=5) (k:=7) underlying61 rfl sizeOf5 rfl rfl rfl (Xc isAgg5 rfl (H.arg (hS 7 _ rfl)) (Xb (f:=5) (k:=7) underlying61 rfl sizeOf5 rfl rfl rfl ?_))))));clear F a;intro a F;refine sSt H 0 sizeOf5 F rfl rfl rfl rfl rfl rfl ?_;clear H;intro w H;refine sNil ?_
   exact ⟨[],⟨rfl,by rw [h43];exact H⟩,F.tt⟩
  refine wp_skip ?_
  exact ⟨[],⟨rfl,by rw [h43];exact H⟩,F.tt⟩
 clear F H
 intro ups a w hI F
 obtain ⟨rfl,H⟩:=hI
 refine cSeqS [0,2,3] (fun ups w=>ups=[]∧Own w0 none w [.blk b3 [b8 x.op,(bif X7 x.op 1 then b8 x.dst else .int .u8 0),(bif X7 x.op 2 then b8 x.loc else .int .u8 0),.bool (bif X7 x.op 4 then x.aR else false),(bif X7 x.op 4 then b8 x.aN else .int .u8 0),.bool (bif X7 x.op 8 then x.bR else false),(bif X7 x.op 8 then b8 x.bN else .int .u8 0),(bif X7 x.op 16 then b8 x.fn else .int .u8 0),(bif X7 x.op 32 then b8 x.mode else .int .u8 0),.int .u8 0] 61,.blk b2 [.int .u8 0,.int .u8 0,.int .u8 0,.bool false,.int .u8 0,.bool false,.int .u8 0,.int .u8 0,.int .u8 0,.int .u8 0] 61]) F ?_ ?_
 ·
  refine cSR fun K8 hK8=>Xl F rfl ?_;clear F a;intro a F;refine Xn call90 F rfl (WF B x locs after 32 _ (fun j v hv=>H.arg (hS j v hv)) (fun i hi=>H.arg (hN i hi)) ho) (gG H ?_);clear F a H;intro a w F H;refine nK hK8 ?_;clear hK8
  refine cIf F rfl (fun h51=>?_) (fun h51=>?_)
  ·
   refine cReg (Xl F rfl (Xk rfl (Xb (f:=0) (k:=0) underlying117 rfl sizeOf61 rfl rfl rfl (Xb (f:=6) (k:=8) underlying61 rfl sizeOf5 rfl rfl rfl (Xc isAgg5 rfl (H.arg (hS 8 _ rfl)) (Xb (f:=6) (k:=8) underlying61 rfl sizeOf5 rfl rfl rfl ?_))))));clear F a;intro a F;refine sSt H 0 sizeOf5 F rfl rfl rfl rfl rfl rfl ?_;clear H;intro w H;refine sNil ?_
   exact ⟨[],⟨rfl,by rw [h51];exact H⟩,F.tt⟩
  refine wp_skip ?_
  exact ⟨[],⟨rfl,by rw [h51];exact H⟩,F.tt⟩
 clear F H
 intro ups a w hI F
 obtain ⟨rfl,H⟩:=hI
 refine cSeqS [2,3] (fun ups w=>ups=[]∧Own w0 none w [.blk b3 [b8 x.op,(bif X7 x.op 1 then b8 x.dst else .int .u8 0),(bif X7 x.op 2 then b8 x.loc else .int .u8 0),.bool (bif X7 x.op 4 then x.aR else false),(bif X7 x.op 4 then b8 x.aN else .int .u8 0),.bool (bif X7 x.op 8 then x.bR else false),(bif X7 x.op 8 then b8 x.bN else .int .u8 0),(bif X7 x.op 16 then b8 x.fn else .int .u8 0),(bif X7 x.op 32 then b8 x.mode else .int .u8 0),(bif X7 x.op 64 then b8 x.skip else .int .u8 0)] 61,.blk b2 [.int .u8 0,.int .u8 0,.int .u8 0,.bool false,.int .u8 0,.bool false,.int .u8 0,.int .u8 0,.int .u8 0,.int .u8 0] 61]) F ?_ ?_
 ·
  refine cSR fun K9 hK9=>Xl F rfl ?_;clear F a;intro a F;refine Xn call90 F rfl (WF B x locs after 64 _ (fun j v hv=>H.arg (hS j v hv)) (fun i hi=>H.arg (hN i hi)) ho) (gG H ?_);clear F a H;intro a w F H;refine nK hK9 ?_;clear hK9
  refine cIf F rfl (fun h59=>?_) (fun h59=>?_)
  ·
   refine cReg (Xl F rfl (Xk rfl (Xb (f:=0) (k:=0) underlying117 rfl sizeOf61 rfl rfl rfl (Xb (f:=7) (k:=9) underlying61 rfl sizeOf5 rfl rfl rfl (Xc isAgg5 rfl (H.arg (hS 9 _ rfl)) (Xb (f:=7) (k:=9) underlying61 rfl sizeOf5 rfl rfl rfl ?_))))));clear F a;intro a F;refine sSt H 0 sizeOf5 F rfl rfl rfl rfl rfl rfl ?_;clear H;intro w H;refine sNil ?_
   exact ⟨[],⟨rfl,by rw [h59];exact H⟩,F.tt⟩
  refine wp_skip ?_
  exact ⟨[],⟨rfl,by rw [h59];exact H⟩,F.tt⟩
 clear F H
 intro ups a w hI F
 obtain ⟨rfl,H⟩:=hI
 refine cSR fun K10 hK10=>?_
 refine Xo underlying61 rfl ?si F rfl (H.range 0 rfl _ 10) ?_
 case si=>exact XC sizeOf61
 clear F a;intro a F
 refine sSr H 1 ?si F rfl rfl rfl ?s1 rfl rfl ?_
 case si=>exact XC sizeOf61
 case s1=>(repeat (first | exact VA | (apply Wx;· first | rfl | assumption | exact VB rfl rfl)))
 clear H;intro w H;refine nK hK10 ?_;clear hK10;refine wp_ret ?_;refine bodyPost_ret (v:=.agg (List.toArray [b8 x.op,(bif X7 x.op 1 then b8 x.dst else .int .u8 0),(bif X7 x.op 2 then b8 x.loc else .int .u8 0),.bool (bif X7 x.op 4 then x.aR else false),(bif X7 x.op 4 then b8 x.aN else .int .u8 0),.bool (bif X7 x.op 8 then x.bR else false),(bif X7 x.op 8 then b8 x.bN else .int .u8 0),(bif X7 x.op 16 then b8 x.fn else .int .u8 0),(bif X7 x.op 32 then b8 x.mode else .int .u8 0),(bif X7 x.op 64 then b8 x.skip else .int .u8 0)])) (Gl results87 F rfl underlying61 rfl (XC sizeOf61) (H.blk 1 rfl)) F.nod ?_
 exact ⟨rfl,H.below⟩
end
section
open Go.RowKit
def VJ (B V:Nat):List Value:=[.func (.func 85) #[] #[.pointer (some ⟨V,0,none⟩)],.func (.func 86) #[] #[.pointer (some ⟨V,0,none⟩)],
 .func (.func 88) #[] #[.pointer (some ⟨V,0,none⟩)],.func (.func 89) #[] #[.pointer (some ⟨V,0,none⟩)],.func (.func 91) #[] #[.pointer (some ⟨V,0,none⟩)],
 .func (.func 93) #[.pointer (some ⟨B,0,none⟩)] #[],.func (.func 94) #[.pointer (some ⟨B,0,none⟩)] #[],.func (.func 95) #[] #[.pointer (some ⟨V,0,none⟩)]]
theorem Jb (B:Nat) (w0:World) :
   Calls Tryz.prog 46 #[.pointer (some ⟨B,0,none⟩)] w0 fun e w'=>∃ V F,e = .returned (.slice (some ⟨F,0,none⟩) 8 8)∧Own w0 none w' [.blk F (VJ B V) 32,.blk V [.pointer (some ⟨B,0,none⟩)] 140]:=by
 have H:=Own.start w0 none
 refine XE func46 rfl ntmps46 rfl (fun a F=>?_);refine cSR fun K1 hK1=>?_;refine sBx H F rfl rfl rfl ?_;clear F a H;intro b1 a w F H;refine Xa F rfl (qNK hK1 (qSR fun K2 hK2=>qFn rfl rfl rfl rfl (qFn rfl rfl rfl rfl (qFn rfl rfl rfl rfl (qFn rfl rfl rfl rfl (qFn rfl rfl rfl rfl (Xc isAgg140 rfl (H.cell 0 rfl rfl) (qFn rfl rfl rfl rfl (Xc isAgg140 rfl (H.cell 0 rfl rfl) (qFn rfl rfl rfl rfl (qFn rfl rfl rfl rfl ?_)))))))))));clear hK1;clear F a;intro a F;refine sBs H underlying118 sizeOf32 zeroValue32 rfl F rfl rfl rfl rfl rfl ?_;clear F a H;intro b13 a w F H;refine Xa F rfl (qNK hK2 ?_);clear hK2;clear F a;intro a F;refine wp_ret ?_;refine bRet results46 F rfl ?_
 exact ⟨_,_,rfl,H⟩
def Mx (w:World) (V B:Nat):Prop:=w.rangeAt V 0 [.pointer (some ⟨B,0,none⟩)]
theorem Bo (V B:Nat) (x:Ins) (locs after:Int) (w0:World) (hV:Mx w0 V B) (hS:WY w0 B x locs after) :
   Calls Tryz.prog 85 #[.pointer (some ⟨V,0,none⟩)] w0 fun e w'=>e = .returned (.bool (Yr x locs after 0))∧Below w0.heap.size w0 w':=by
 have H:=Own.start w0 none
 refine XE func85 rfl ntmps85 rfl (fun a F=>?_);refine cSR fun K1 hK1=>Xa F rfl (qNK hK1 (qSR fun K2 hK2=>Xc isAgg140 rfl (H.arg (hV 0 _ rfl)) (Xk rfl (Xb (f:=0) (k:=0) underlying117 rfl sizeOf61 rfl rfl rfl (Xb (f:=0) (k:=0) underlying61 rfl sizeOf5 rfl rfl rfl (Xc isAgg5 rfl (H.arg (hS 0 _ rfl)) (Xj rfl rfl (Mw (y:=1)) (Xd rfl ?_))))))));clear hK1;clear F a;intro a F
 refine F.split 8 rfl ?_ ?_ <;> (clear F;intro h8 F)
 ·
  replace h8:=of_decide_eq_true h8;refine sLd isAgg140 F rfl rfl rfl (H.arg (hV 0 _ rfl)) (Xk rfl (Xb (f:=0) (k:=0) underlying117 rfl sizeOf61 rfl rfl rfl (Xb (f:=0) (k:=0) underlying61 rfl sizeOf5 rfl rfl rfl (Xc isAgg5 rfl (H.arg (hS 0 _ rfl)) (Xj rfl rfl (BB (y:=8)) (Xg rfl rfl (Xh rfl (qNK hK2 ?_))))))));clear hK2;clear F a;intro a F;refine wp_ret ?_;refine bRet results85 F rfl ?_
  exact ⟨X1 (by simp_all [Yr]),H.below⟩
 replace h8:=of_decide_eq_false h8;refine Xe F (Xf (Xf (Xf (Xf (Xf (Xg rfl rfl (Xh rfl (qNK hK2 ?_))))))));clear hK2;clear F a;intro a F;refine wp_ret ?_;refine bRet results85 F rfl ?_
 exact ⟨X1 (by simp_all [Yr]),H.below⟩
set_option maxRecDepth 10000 in
theorem Bn (V B:Nat) (x:Ins) (locs after:Int) (w0:World) (hV:Mx w0 V B) (hS:WY w0 B x locs after) (hN:NeedsAt w0) (ho:x.op < 9) :
   Calls Tryz.prog 86 #[.pointer (some ⟨V,0,none⟩)] w0 fun e w'=>e = .returned (.bool (Yr x locs after 1))∧Below w0.heap.size w0 w':=by
 have H:=Own.start w0 none
 refine XE func86 rfl ntmps86 rfl (fun a F=>?_);refine cSR fun K1 hK1=>Xa F rfl (qNK hK1 ?_);clear hK1;clear F a;intro a F;refine cSeq (fun K2 hK2=>?_);refine Nm (by kernel_rfl) H ?_;replace H:=H.drew;refine Xp F rfl (fun w H=>rLd isAgg140 F rfl (H.arg (hV 0 _ rfl))) H qq0 (Xq rfl (fun a F w H=>rNc F rfl) H qq0 (Xq rfl (fun a F w H=>rFa (f:=0) (k:=0) underlying117 rfl sizeOf61 rfl rfl F rfl) H qq0 ?_));clear F a;intro a F
 refine Xp (k:=3) F rfl (fun w H=>rLr underlying61 rfl ?si F rfl (H.argR (XbY hS 0 10))) H (fun _ _ _ h=>h) ?_
 case si=>exact XC sizeOf61
 clear F a;intro a F;refine Xp F rfl (fun w H=>rLd isAgg140 F rfl (H.arg (hV 0 _ rfl))) H qq0 ?_;clear F a;intro a F;refine dOne (k:=5) (by kernel_rfl) F rfl (XS call87 F rfl rfl (LX B x locs after _ (fun j v hv=>H.arg (hS j v hv)) (fun i hi=>H.arg (hN i hi)) ho) ?_);rintro e w ⟨rfl,hb⟩;replace H:=H.grow hb;clear hb;refine ⟨_,rfl,?_⟩;clear F a;intro a F;refine dOnO (j:=5) rfl (by kernel_rfl) H H (fun w h=>h) ?_;refine Xp F rfl (fun w H=>YA F rfl rfl (Ug (x:=x) (y:=x.needed) rfl)) H qq0 (Xq rfl (fun a F w H=>rAs F rfl) H qq0 ?_);clear F a;intro a F
 refine BI (k:=8) ?_ rfl
 refine hK2 _ _ ?_;clear hK2;refine wp_ret ?_;refine bRet results86 F rfl ?_
 exact ⟨rfl,H.below⟩
theorem Bm (V B:Nat) (x:Ins) (locs after:Int) (w0:World) (hV:Mx w0 V B) (hS:WY w0 B x locs after) :
   Calls Tryz.prog 88 #[.pointer (some ⟨V,0,none⟩)] w0 fun e w'=>e = .returned (.bool (Yr x locs after 2))∧Below w0.heap.size w0 w':=by
 have H:=Own.start w0 none
 refine XE func88 rfl ntmps88 rfl (fun a F=>?_);refine cSR fun K1 hK1=>Xa F rfl (qNK hK1 (qSR fun K2 hK2=>Xc isAgg140 rfl (H.arg (hV 0 _ rfl)) (Xk rfl (Xb (f:=0) (k:=0) underlying117 rfl sizeOf61 rfl rfl rfl (Xb (f:=1) (k:=1) underlying61 rfl sizeOf5 rfl rfl rfl (Xc isAgg5 rfl (H.arg (hS 1 _ rfl)) (Xj rfl rfl (GY (y:=8)) (Xh rfl (qNK hK2 ?_)))))))));clear hK1 hK2;clear F a;intro a F;refine wp_ret ?_;refine bRet results88 F rfl ?_
 exact ⟨rfl,H.below⟩
set_option maxRecDepth 10000 in
theorem Bl (V B:Nat) (x:Ins) (locs after:Int) (w0:World) (hV:Mx w0 V B) (hS:WY w0 B x locs after) (hN:NeedsAt w0) (ho:x.op < 9) :
   Calls Tryz.prog 89 #[.pointer (some ⟨V,0,none⟩)] w0 fun e w'=>e = .returned (.bool (Yr x locs after 3))∧Below w0.heap.size w0 w':=by
 have H:=Own.start w0 none
 refine XE func89 rfl ntmps89 rfl (fun a F=>?_);refine cSR fun K1 hK1=>Xa F rfl (qNK hK1 ?_);clear hK1;clear F a;intro a F;refine cSeq (fun K2 hK2=>?_);refine Nm (by kernel_rfl) H ?_;replace H:=H.drew;refine Xp F rfl (fun w H=>rLd isAgg140 F rfl (H.arg (hV 0 _ rfl))) H qq0 ?_;clear F a;intro a F;refine dOne (k:=1) (by kernel_rfl) F rfl (XS call90 F rfl rfl (WF B x locs after 2 _ (fun j v hv=>H.arg (hS j v hv)) (fun i hi=>H.arg (hN i hi)) ho) ?_);rintro e w ⟨rfl,hb⟩;replace H:=H.grow hb;clear hb;refine ⟨_,rfl,?_⟩;clear F a;intro a F;refine Bh (j:=1) rfl (by kernel_rfl) (by kernel_rfl) H ?_;refine Xp F rfl (fun w H=>NA F rfl) H qq0 (Xq rfl (fun a F w H=>rMv F rfl) H qq0 ?_);clear F a;intro a F
 refine F.split 5 rfl ?_ ?_ <;> (clear F;intro h5 F)
 ·
  replace h5:=ZA h5;refine Eh (by kernel_rfl) (by kernel_rfl) F rfl rfl rfl H qq0 (Xr rfl H qq0 (Xr rfl H qq0 (Xr rfl H qq0 (Xr rfl H qq0 (Xr rfl H qq0 (Xr rfl H qq0 (Xr rfl H qq0 (Xr rfl H qq0 (Xr rfl H qq0 (Xr rfl H qq0 (Xq rfl (fun a F w H=>rPk F rfl rfl) H qq0 (Xq rfl (fun a F w H=>rAs F rfl) H qq0 ?_))))))))))));clear F a;intro a F
  refine BI (k:=17) ?_ rfl
  refine hK2 _ _ ?_;clear hK2;refine wp_ret ?_;refine bRet results89 F rfl ?_
  exact ⟨X1 (by simp_all [Yr]),H.below⟩
 replace h5:=ZB h5;refine Xp F rfl (fun w H=>rLd isAgg140 F rfl (H.arg (hV 0 _ rfl))) H qq0 (Xq rfl (fun a F w H=>rNc F rfl) H qq0 (Xq rfl (fun a F w H=>rFa (f:=0) (k:=0) underlying117 rfl sizeOf61 rfl rfl F rfl) H qq0 (Xq rfl (fun a F w H=>rFa (f:=2) (k:=2) underlying61 rfl sizeOf5 rfl rfl F rfl) H qq0 (Xq rfl (fun a F w H=>rLd isAgg5 F rfl (H.arg (hS 2 _ rfl))) H qq0 (Xq rfl (fun a F w H=>rCv underlying5 underlying3 F rfl (ZT _)) H qq0 (Xq rfl (fun a F w H=>rLd isAgg140 F rfl (H.arg (hV 0 _ rfl))) H qq0 (Xq rfl (fun a F w H=>rNc F rfl) H qq0 (Xq rfl (fun a F w H=>rFa (f:=1) (k:=10) underlying117 rfl sizeOf3 rfl rfl F rfl) H qq0 (Xq rfl (fun a F w H=>rLd isAgg3 F rfl (H.arg (hS 10 _ rfl))) H qq0 (Xq rfl (fun a F w H=>YA F rfl rfl YW) H qq0 (Xq rfl (fun a F w H=>rPk F rfl rfl) H qq0 (Xq rfl (fun a F w H=>rAs F rfl) H qq0 ?_))))))))))));clear F a;intro a F
 refine BI (k:=17) ?_ rfl
 refine hK2 _ _ ?_;clear hK2;refine wp_ret ?_;refine bRet results89 F rfl ?_
 exact ⟨X1 (by simp_all [Yr]),H.below⟩
theorem Bk (V B:Nat) (x:Ins) (locs after:Int) (w0:World) (hV:Mx w0 V B) (hS:WY w0 B x locs after) :
   Calls Tryz.prog 91 #[.pointer (some ⟨V,0,none⟩)] w0 fun e w'=>e = .returned (.bool (Yr x locs after 4))∧Below w0.heap.size w0 w':=by
 have H:=Own.start w0 none
 refine XE func91 rfl ntmps91 rfl (fun a F=>?_);refine cSR fun K1 hK1=>Xa F rfl (qNK hK1 (qSR fun K2 hK2=>Xc isAgg140 rfl (H.arg (hV 0 _ rfl)) (Xk rfl (Xb (f:=0) (k:=0) underlying117 rfl sizeOf61 rfl rfl rfl (Xb (f:=3) (k:=3) underlying61 rfl sizeOf59 rfl rfl rfl ?_)))));clear hK1;clear F a;intro a F
 refine Xo underlying59 rfl ?si F rfl (H.argR (XbY hS 3 2)) ?_
 case si=>exact XC sizeOf59
 clear F a;intro a F;refine Xn call92 F rfl (UU x.aR x.aN _) (gG H ?_);clear F a H;intro a w F H;refine Xl F rfl ?_;clear F a;intro a F
 refine F.split 8 rfl ?_ ?_ <;> (clear F;intro h8 F)
 ·
  refine sLd isAgg140 F rfl rfl rfl (H.arg (hV 0 _ rfl)) (Xk rfl (Xb (f:=0) (k:=0) underlying117 rfl sizeOf61 rfl rfl rfl (Xb (f:=4) (k:=5) underlying61 rfl sizeOf59 rfl rfl rfl ?_)));clear F a;intro a F
  refine Xo underlying59 rfl ?si F rfl (H.argR (XbY hS 5 2)) ?_
  case si=>exact XC sizeOf59
  clear F a;intro a F;refine Xn call92 F rfl (UU x.bR x.bN _) (gG H ?_);clear F a H;intro a w F H;refine sPk F rfl rfl rfl rfl (Xh rfl (qNK hK2 ?_));clear hK2;clear F a;intro a F;refine wp_ret ?_;refine bRet results91 F rfl ?_
  exact ⟨X1 (by simp_all [Yr]),H.below⟩
 refine Xe F (Xf (Xf (Xf (Xf (Xf (Xg rfl rfl (Xh rfl (qNK hK2 ?_))))))));clear hK2;clear F a;intro a F;refine wp_ret ?_;refine bRet results91 F rfl ?_
 exact ⟨X1 (by simp_all [Yr]),H.below⟩
set_option maxRecDepth 10000 in
theorem Bj (V B:Nat) (x:Ins) (locs after:Int) (w0:World) (hV:Mx w0 V B) (hS:WY w0 B x locs after) (hN:NeedsAt w0) (ho:x.op < 9) :
   Calls Tryz.prog 95 #[.pointer (some ⟨V,0,none⟩)] w0 fun e w'=>e = .returned (.bool (Yr x locs after 7))∧Below w0.heap.size w0 w':=by
 have H:=Own.start w0 none
 refine XE func95 rfl ntmps95 rfl (fun a F=>?_);refine cSR fun K1 hK1=>Xa F rfl (qNK hK1 ?_);clear hK1;clear F a;intro a F;refine cSeq (fun K2 hK2=>?_);refine Nm (by kernel_rfl) H ?_;replace H:=H.drew;refine Xp F rfl (fun w H=>rLd isAgg140 F rfl (H.arg (hV 0 _ rfl))) H qq0 ?_;clear F a;intro a F;refine dOne (k:=1) (by kernel_rfl) F rfl (XS call90 F rfl rfl (WF B x locs after 64 _ (fun j v hv=>H.arg (hS j v hv)) (fun i hi=>H.arg (hN i hi)) ho) ?_);rintro e w ⟨rfl,hb⟩;replace H:=H.grow hb;clear hb;refine ⟨_,rfl,?_⟩;clear F a;intro a F;refine Bh (j:=1) rfl (by kernel_rfl) (by kernel_rfl) H ?_;refine Xp F rfl (fun w H=>NA F rfl) H qq0 (Xq rfl (fun a F w H=>rMv F rfl) H qq0 ?_);clear F a;intro a F
 refine F.split 5 rfl ?_ ?_ <;> (clear F;intro h5 F)
 ·
  replace h5:=ZA h5;refine Eh (by kernel_rfl) (by kernel_rfl) F rfl rfl rfl H qq0 (Xr rfl H qq0 (Xr rfl H qq0 (Xr rfl H qq0 (Xr rfl H qq0 (Xr rfl H qq0 (Xr rfl H qq0 (Xr rfl H qq0 (Xr rfl H qq0 (Xr rfl H qq0 (Xr rfl H qq0 (Xr rfl H qq0 (Xr rfl H qq0 (Xr rfl H qq0 (Xr rfl H qq0 (Xr rfl H qq0 (Xr rfl H qq0 (Xr rfl H qq0 (Xr rfl H qq0 (Xq rfl (fun a F w H=>rPk F rfl rfl) H qq0 (Xq rfl (fun a F w H=>rAs F rfl) H qq0 ?_))))))))))))))))))));clear F a;intro a F
  refine BI (k:=25) ?_ rfl
  refine hK2 _ _ ?_;clear hK2;refine wp_ret ?_;refine bRet results95 F rfl ?_
  exact ⟨X1 (by simp_all [Yr]),H.below⟩
 replace h5:=ZB h5;refine Xp F rfl (fun w H=>rLd isAgg140 F rfl (H.arg (hV 0 _ rfl))) H qq0 (Xq rfl (fun a F w H=>rNc F rfl) H qq0 (Xq rfl (fun a F w H=>rFa (f:=0) (k:=0) underlying117 rfl sizeOf61 rfl rfl F rfl) H qq0 (Xq rfl (fun a F w H=>rFa (f:=7) (k:=9) underlying61 rfl sizeOf5 rfl rfl F rfl) H qq0 (Xq rfl (fun a F w H=>rLd isAgg5 F rfl (H.arg (hS 9 _ rfl))) H qq0 (Xq rfl (fun a F w H=>YA F rfl rfl (Mw (y:=1))) H qq0 (Xq rfl (fun a F w H=>rMv F rfl) H qq0 ?_))))));clear F a;intro a F
 refine F.split 12 rfl ?_ ?_ <;> (clear F;intro h12 F)
 ·
  replace h12:=of_decide_eq_true h12;refine Xp F rfl (fun w H=>rLd isAgg140 F rfl (H.arg (hV 0 _ rfl))) H qq0 (Xq rfl (fun a F w H=>rNc F rfl) H qq0 (Xq rfl (fun a F w H=>rFa (f:=0) (k:=0) underlying117 rfl sizeOf61 rfl rfl F rfl) H qq0 (Xq rfl (fun a F w H=>rFa (f:=7) (k:=9) underlying61 rfl sizeOf5 rfl rfl F rfl) H qq0 (Xq rfl (fun a F w H=>rLd isAgg5 F rfl (H.arg (hS 9 _ rfl))) H qq0 (Xq rfl (fun a F w H=>rCv underlying5 underlying3 F rfl (ZT _)) H qq0 (Xq rfl (fun a F w H=>rLd isAgg140 F rfl (H.arg (hV 0 _ rfl))) H qq0 (Xq rfl (fun a F w H=>rNc F rfl) H qq0 (Xq rfl (fun a F w H=>rFa (f:=2) (k:=11) underlying117 rfl sizeOf3 rfl rfl F rfl) H qq0 (Xq rfl (fun a F w H=>rLd isAgg3 F rfl (H.arg (hS 11 _ rfl))) H qq0 (Xq rfl (fun a F w H=>YA F rfl rfl GZ) H qq0 (Xq rfl (fun a F w H=>rPk F rfl rfl) H qq0 (Xq rfl (fun a F w H=>rPk F rfl rfl) H qq0 (Xq rfl (fun a F w H=>rAs F rfl) H qq0 ?_)))))))))))));clear F a;intro a F
  refine BI (k:=25) ?_ rfl
  refine hK2 _ _ ?_;clear hK2;refine wp_ret ?_;refine bRet results95 F rfl ?_
  exact ⟨X1 (by simp_all [Yr]),H.below⟩
 replace h12:=of_decide_eq_false h12;refine Eh (by kernel_rfl) (by kernel_rfl) F rfl rfl rfl H qq0 (Xr rfl H qq0 (Xr rfl H qq0 (Xr rfl H qq0 (Xr rfl H qq0 (Xr rfl H qq0 (Xr rfl H qq0 (Xr rfl H qq0 (Xr rfl H qq0 (Xr rfl H qq0 (Xr rfl H qq0 (Xq rfl (fun a F w H=>rPk F rfl rfl) H qq0 (Xq rfl (fun a F w H=>rPk F rfl rfl) H qq0 (Xq rfl (fun a F w H=>rAs F rfl) H qq0 ?_)))))))))))));clear F a;intro a F
 refine BI (k:=25) ?_ rfl
 refine hK2 _ _ ?_;clear hK2;refine wp_ret ?_;refine bRet results95 F rfl ?_
 exact ⟨X1 (by simp_all [Yr]),H.below⟩
end
section
open Go.RowKit
theorem Bi (k V B:Nat) (v:Value) (x:Ins) (locs after:Int) (w0:World) (hV:Mx w0 V B) (hS:WY w0 B x locs after) (hN:NeedsAt w0) (hk:(VJ B V)[k]? = some v) (hp:∀ j,j < k→Yr x locs after j=true) :
   JJ Tryz.prog v [] w0 (fun e w'=>e = .returned (.bool (Yr x locs after k))∧Below w0.heap.size w0 w'):=by
 have ho:0 < k→x.op < 9:=fun h=>by
   have h0:=hp 0 h
   simp only [Yr,Bool.and_eq_true,decide_eq_true_eq] at h0
   have:=UInt8.le_iff_toNat_le.1 h0.2
   exact UInt8.lt_iff_toNat_lt.2 (by simpa using Nat.lt_succ_of_le this)
 match k,hk with
 | 0,hk=>cases hk;exact ⟨_,[],[.pointer (some ⟨V,0,none⟩)],rfl,call85,Bo V B x locs after w0 hV hS⟩
 | 1,hk=>cases hk;exact ⟨_,[],[.pointer (some ⟨V,0,none⟩)],rfl,call86,Bn V B x locs after w0 hV hS hN (ho (by decide))⟩
 | 2,hk=>cases hk;exact ⟨_,[],[.pointer (some ⟨V,0,none⟩)],rfl,call88,Bm V B x locs after w0 hV hS⟩
 | 3,hk=>cases hk;exact ⟨_,[],[.pointer (some ⟨V,0,none⟩)],rfl,call89,Bl V B x locs after w0 hV hS hN (ho (by decide))⟩
 | 4,hk=>cases hk;exact ⟨_,[],[.pointer (some ⟨V,0,none⟩)],rfl,call91,Bk V B x locs after w0 hV hS⟩
 | 5,hk=>cases hk;exact ⟨_,[.pointer (some ⟨B,0,none⟩)],[],rfl,call93,J4 B x locs after w0 hS⟩
 | 6,hk=>cases hk;exact ⟨_,[.pointer (some ⟨B,0,none⟩)],[],rfl,call94,Mh B x locs after w0 hS⟩
 | 7,hk=>cases hk;exact ⟨_,[],[.pointer (some ⟨V,0,none⟩)],rfl,call95,Bj V B x locs after w0 hV hS hN (ho (by decide))⟩
 | n+8,hk=>simp [VJ] at hk
theorem DT {x:Ins} {locs after:Int} (h:∀ j,j < 8→Yr x locs after j=true):ZV x locs after=true:=by
 simp only [ZV,List.all_eq_true,List.mem_range];exact h
theorem DS {x:Ins} {locs after:Int} {k:Nat} (hk:k < 8) (h:Yr x locs after k=false):ZV x locs after=false:=by
 cases hb:ZV x locs after with
 | false=>rfl
 | true=>
   simp only [ZV,List.all_eq_true,List.mem_range] at hb
   rw [hb k hk] at h;cases h
theorem NeedsAt.own {w0 w:World} {rs:List Res} (hN:NeedsAt w0) (H:Own w0 none w rs):NeedsAt w:=fun i hi=>H.arg (hN i hi)
theorem JA {l:List Ins} {j:Nat} {x:Ins} {locs:Int} {n:Nat} (hx:l[j]? = some x):YP locs n j (l.drop j)=(ZV x locs ((n:Int) - 1 - j) && YP locs n (j+1) (l.drop (j+1))):=by
 obtain ⟨hj,rfl⟩:=List.getElem?_eq_some_iff.1 hx
 rw [List.drop_eq_getElem_cons hj]
 rfl
set_option maxHeartbeats 1000000 in
theorem Jp (A:Option Addr) (C:Nat) (l:List Ins) (locs:Int) (w0:World) (hA:RowsAt w0 A 10 (l.map Ins.cells)) (hN:NeedsAt w0) (hn:l.length≤9223372036854775807) :
   Calls Tryz.prog 32 #[.slice A l.length C,.int .i64 locs] w0 fun e w'=>e = .returned (.bool (XH locs l))∧Below w0.heap.size w0 w':=by
 have H:=Own.start w0 none
 refine XE func32 rfl ntmps32 rfl (fun a F=>?_);refine cSR fun K1 hK1=>Xa F rfl (qNK hK1 ?_);clear hK1;clear F a;intro a F;refine cSeq (fun K2 hK2=>?_);refine cSR fun K3 hK3=>Xl F rfl (Xs underlying22 rfl (Xj rfl rfl UO (qNK hK3 ?_)));clear hK3;clear F a;intro a F
 refine cIf F rfl (fun h13=>?_) (fun h13=>?_)
 ·
  replace h13:=of_decide_eq_true h13;refine cSR fun K4 hK4=>Xa F rfl (qNK hK4 ?_);clear hK4;clear F a;intro a F;refine wp_ret ?_;simp only [Exit.then];refine bRet results32 F rfl ?_
  exact ⟨X1 (by rw [XH,decide_eq_false (by omega),Bool.false_and]),H.below⟩
 replace h13:=of_decide_eq_false h13;refine wp_skip (hK2 _ _ (cSR fun K5 hK5=>Xl F rfl (qBd (places:=[(0,10),(10,1),(11,1)]) zeroValue117 underlying117 (by kernel_rfl) rfl rfl rfl rfl ?_)));clear hK2;clear F a;intro a F;refine sAl H zeroValue117 F rfl rfl ?_;clear F a H;intro b5 a w F H
 refine sSr H 0 ?si F rfl rfl rfl ?s1 rfl rfl ?_
 case si=>exact XC sizeOf117
 case s1=>rfl
 clear H;intro w H;refine nK hK5 (cSR fun K6 hK6=>?_);clear hK5;refine Xn call46 F rfl (Jb _ _) ?_;rintro e w ⟨V,Fb,rfl,H2⟩;replace H:=H.join H2;clear H2;refine ⟨_,rfl,?_⟩;clear F a;intro a F;refine Xa F rfl (qNK hK6 ?_);clear hK6;clear F a;intro a F;refine cSeq (fun K7 hK7=>?_);refine cSR fun K8 hK8=>Xl F rfl (Xs underlying22 rfl (Xd rfl (qNK hK8 ?_)));clear hK8;clear F a;intro a F;refine wp_block ?_
 refine cLoopS [0,5,6,17,18] (fun m ups w=>∃ (j:Nat) (x:Ins) (after:Int),m=l.length - j∧ups=[(19,.int .i64 (j:Int))]∧j≤l.length∧YP locs l.length 0 l=YP locs l.length j (l.drop j)∧Own w0 none w [.blk Fb (VJ b5 V) 32,.blk V [.pointer (some ⟨b5,0,none⟩)] 140,.blk b5 (x.cells++[.int .i64 locs,.int .i64 after]) 117]) F (l.length) [(19,.int .i64 ((0:Nat):Int))] ?_ ?_
 · exact ⟨0,⟨0,0,0,false,0,false,0,0,0,0⟩,0,rfl,rfl,Nat.zero_le _,rfl,H⟩
 clear F
 clear H
 intro m ups a w hI F
 obtain ⟨j,x0,af0,rfl,rfl,hj,ht,H⟩:=hI
 refine cSR fun K9 hK9=>Xm F rfl rfl YW (qNK hK9 ?_);clear hK9;clear F a;intro a F;refine cSeq (fun K10 hK10=>?_)
 refine cIf F rfl (fun h20=>?_) (fun h20=>?_)
 ·
  replace h20:=of_decide_eq_true h20
  have hjl:j < l.length:=by omega
  obtain ⟨x,hx⟩:∃ x,l[j]? = some x:=⟨_,List.getElem?_eq_getElem hjl⟩
  obtain ⟨b,off,rfl,hc⟩:=hA j x.cells (by rw [List.getElem?_map,hx];rfl)
  refine wp_skip (hK10 _ _ ?_);clear hK10;refine cSeq (fun K11 hK11=>?_);refine wp_block ?_;refine cSR fun K12 hK12=>Xl F rfl ?_;clear F a;intro a F
  refine sIx underlying22 sizeOf61 F rfl rfl rfl rfl ?_ ?_
  focus (omega)
  clear F a;intro a F
  refine Xo underlying61 rfl ?si F rfl (H.argR hc) ?_
  case si=>exact XC sizeOf61
  clear F a;intro a F;refine sAl H zeroValue61 F rfl rfl ?_;clear F a H;intro b8 a w F H;refine Xa F rfl ?_;clear F a;intro a F
  refine sSr H 0 ?si F rfl rfl rfl ?s1 rfl rfl ?_
  case si=>exact XC sizeOf61
  case s1=>rfl
  clear H;intro w H;refine nK hK12 (cSR fun K13 hK13=>?_);clear hK12
  refine Xo underlying61 rfl ?si F rfl (H.range 0 rfl _ 10) ?_
  case si=>exact XC sizeOf61
  clear F a;intro a F;refine Xl F rfl (Xs underlying22 rfl ?_);clear F a;intro a F
  refine Xm F rfl rfl (Ns ?_) ?_
  focus omega
  clear F a;intro a F;refine Xl F rfl ?_;clear F a;intro a F
  refine Xm F rfl rfl (Ns ?_) ?_
  focus omega
  clear F a;intro a F;refine Xi (f:=0) (k:=0) underlying117 rfl sizeOf61 rfl rfl F rfl ?_;clear F a;intro a F
  refine sSr H 3 ?si F rfl rfl rfl ?s1 rfl rfl ?_
  case si=>exact XC sizeOf61
  case s1=>rfl
  clear H;intro w H;refine Xi (f:=2) (k:=11) underlying117 rfl sizeOf3 rfl rfl F rfl ?_;clear F a;intro a F;refine sSt H 3 sizeOf3 F rfl rfl rfl rfl rfl rfl ?_;clear H;intro w H;refine nK hK13 (cSR fun K14 hK14=>Xl F rfl (Xs underlying118 rfl (Xd rfl (qNK hK14 ?_))));clear hK13 hK14;clear F a;intro a F;refine wp_block ?_
  refine cLoopS [0,5,6,17,18,19,32,33] (fun m ups w=>∃ k:Nat,m=8 - k∧ups=[(34,.int .i64 (k:Int))]∧k≤8∧(∀ i,i < k→Yr x locs ((l.length:Int) - 1 - j) i=true)∧Own w0 none w [.blk b8 x.cells 61,.blk Fb (VJ b5 V) 32,.blk V [.pointer (some ⟨b5,0,none⟩)] 140,.blk b5 (x.cells++[.int .i64 locs,.int .i64 ((l.length:Int) - 1 - j)]) 117]) F (8) [(34,.int .i64 ((0:Nat):Int))] ?_ ?_
  · exact ⟨0,rfl,rfl,by omega,fun i hi=>by omega,H⟩
  clear F
  clear H
  intro m ups a w hI F
  obtain ⟨k,rfl,rfl,hk,hp,H⟩:=hI
  refine cSR fun K15 hK15=>Xm F rfl rfl YW (qNK hK15 ?_);clear hK15;clear F a;intro a F;refine cSeq (fun K16 hK16=>?_)
  refine cIf F rfl (fun h35=>?_) (fun h35=>?_)
  ·
   replace h35:=of_decide_eq_true h35;refine wp_skip (hK16 _ _ ?_);clear hK16;refine cSeq (fun K17 hK17=>?_);refine wp_block ?_;refine cSR fun K18 hK18=>?_
   refine sIx underlying118 sizeOf32 F rfl rfl rfl rfl ?_ ?_
   focus (omega)
   clear F a;intro a F
   refine sLd isAgg32 F rfl rfl rfl (by rw [Nat.zero_add,Nat.mul_one];exact H.cell 1 rfl (List.getElem?_eq_getElem (show k < (VJ b5 V).length by simp only [VJ,List.length_cons,List.length_nil];omega))) ?_;clear F a;intro a F
   refine Xa F rfl (qNK hK18 (qSR fun K19 hK19=>Xd rfl ?_));clear hK18;clear F a;intro a F
   refine EY F rfl rfl rfl rfl (Bi k V b5 _ x locs ((l.length:Int) - 1 - j) _ (H.range 2 rfl 0 1) (H.range 3 rfl 0 12) (hN.own H) (List.getElem?_eq_getElem _) hp) ?_
   rintro e w ⟨rfl,hb⟩;replace H:=H.grow hb;clear hb;refine ⟨_,rfl,?_⟩;clear F a;intro a F;refine UV F rfl rfl rfl (qNK hK19 ?_);clear hK19;clear F a;intro a F
   refine cIf F rfl (fun h40=>?_) (fun h40=>?_)
   ·
    replace h40:=ZA h40;refine cSR fun K20 hK20=>Xa F rfl (qNK hK20 ?_);clear hK20;clear F a;intro a F;refine wp_ret ?_;refine xI ?_;refine bRet results32 F rfl ?_
    exact ⟨X1 (by rw [XH,ht,JA hx,DS (by omega) h40];simp),H.below⟩
   replace h40:=ZB h40;refine wp_skip (hK17 _ _ (cReg ?_));clear hK17
   refine Xm F rfl rfl (XJ (j:=1) ?_) ?_
   focus omega
   clear F a;intro a F;refine Xl F rfl ?_;clear F a;intro a F;refine sNil ?_
   exact ⟨8 - (k+1),by omega,_,⟨k+1,rfl,rfl,by omega,fun i hi=>by rcases Nat.lt_succ_iff_lt_or_eq.1 hi with h | rfl;exact hp i h;exact h40,H⟩,F.tt⟩
  replace h35:=of_decide_eq_false h35;refine wp_exit ?_;refine hK11 _ _ (cReg ?_);clear hK11
  refine Xm F rfl rfl (XJ (j:=1) ?_) ?_
  focus omega
  clear F a;intro a F;refine Xl F rfl ?_;clear F a;intro a F;refine sNil ?_
  exact ⟨l.length - (j+1),by omega,_,⟨j+1,x,_,rfl,rfl,by omega,by rw [ht,JA hx,DT (fun i hi=>hp i (by omega)),Bool.true_and],H.tail⟩,F.tt⟩
 replace h20:=of_decide_eq_false h20;refine wp_exit ?_;refine hK7 _ _ (cSR fun K21 hK21=>Xa F rfl (qNK hK21 ?_));clear hK7 hK21;clear F a;intro a F;refine wp_ret ?_;refine bRet results32 F rfl ?_
 exact ⟨X1 (by rw [XH,ht,List.drop_eq_nil_of_le (by omega)];simp only [YP,Bool.and_true];symm;rw [decide_eq_true_eq];omega),H.below⟩
end
section
open Go.RowKit
inductive Cnd where
 | mk (kind thread n val:UInt8) (kids:List Cnd)
def Cnd.kids:Cnd→List Cnd | .mk _ _ _ _ l=>l
def Yk (threads locs:Int):Nat→Cnd→Bool
 | 0,_=>false
 | d+1,.mk k t n v kids=>
   if k=0 then (t == 0 && n == 0 && v == 0) && kids.length == 0
   else if k=1 then decide ((t.toNat:Int) < threads) && decide (n < 8) && kids.length == 0
   else if k=2 then decide ((n.toNat:Int) < locs) && t == 0 && kids.length == 0
   else if k=3∨k=4 then (t == 0 && n == 0 && v == 0) && decide (2≤kids.length) && kids.all (Yk threads locs d)
   else if k=5 then (t == 0 && n == 0 && v == 0) && kids.length == 1 && kids.all (Yk threads locs d)
   else false
def CondAt (w:World):Nat→List Value→Cnd→Prop
 | 0,_,_=>False
 | h+1,cs,.mk k t n v kids=>∃ A C,cs=[b8 k,b8 t,b8 n,b8 v,.slice A kids.length C]∧kids.length≤9223372036854775807 ∧
     ∀ j kid,kids[j]? = some kid→∃ b off cs',A=some ⟨b,off,none⟩∧w.rangeAt b (off+j * 5) cs'∧CondAt w h cs' kid
theorem CondAt.grown {w w':World} {row:Option Nat} (hg:w.grownBy w' row) (hr:row=none):∀ (h:Nat) (cs:List Value) (c:Cnd),CondAt w h cs c→CondAt w' h cs c
 | 0,_,_,hc=>hc
 | h+1,cs,.mk k t n v kids,hc=>by
   obtain ⟨A,C,h1,h2,h3⟩:=hc
   refine ⟨A,C,h1,h2,fun j kid hj=>?_⟩
   obtain ⟨b,off,cs',h4,h5,h6⟩:=h3 j kid hj
   exact ⟨b,off,cs',h4,fun i u hu=>hg.cell (h5 i u hu) (by subst hr;simp),CondAt.grown hg hr h cs' kid h6⟩
theorem GR {threads locs:Int} {d:Nat} {k t n v:UInt8} {kids:List Cnd} (h:(k=3∨k=4)∧2≤kids.length∨k=5∧kids.length=1) (hb:(t == 0 && n == 0 && v == 0)=true) :
   Yk threads locs (d+1) (.mk k t n v kids)=kids.all (Yk threads locs d):=by
 rcases h with ⟨rfl | rfl,h⟩ | ⟨rfl,h⟩ <;> simp [Yk,h,hb] <;> simp_all
theorem X6 (n:Nat):((n:Int) == 0)=(n == 0):=by rw [Bool.eq_iff_iff];simp
theorem WH {α:Type} (p:α→Bool) {l:List α} {j:Nat} {x:α} (hx:l[j]? = some x):(l.drop j).all p=(p x && (l.drop (j+1)).all p):=by
 obtain ⟨hj,rfl⟩:=List.getElem?_eq_some_iff.1 hx
 rw [List.drop_eq_getElem_cons hj]
 rfl
end
section
open Go.RowKit
set_option maxHeartbeats 2000000 in
theorem Qp (threads locs:Int) (d:Nat):∀ (_hd:d≤100) (h b off:Nat) (cs:List Value) (c:Cnd) (w0:World),w0.rangeAt b off cs→CondAt w0 h cs c →
   Calls Tryz.prog 114 #[.pointer (some ⟨b,off,none⟩),.int .i64 threads,.int .i64 locs,.int .i64 (d:Int)] w0 fun e w'=>e = .returned (.bool (Yk threads locs d c))∧Below w0.heap.size w0 w':=by
 induction d with
 | zero=>
   intro _hd h b off cs c w0 hR hC
   have H:=Own.start w0 none
   refine XE func114 rfl ntmps114 rfl (fun a F=>?_);refine cSR fun K1 hK1=>Xa F rfl (qNK hK1 ?_);clear hK1;clear F a;intro a F;refine cSeq (fun K2 hK2=>?_);refine cSR fun K3 hK3=>Xl F rfl (Xj rfl rfl ZQ (qNK hK3 ?_));clear hK3;clear F a;intro a F
   refine cIf F rfl (fun h12=>?_) (fun h12=>?_)
   ·
    replace h12:=Yh h12;refine cSR fun K4 hK4=>Xa F rfl (qNK hK4 ?_);clear hK4;clear F a;intro a F;refine wp_ret ?_;simp only [Exit.then];refine bRet results114 F rfl ?_
    exact ⟨rfl,H.below⟩
   replace h12:=Yi h12
   exact absurd rfl h12
 | succ d ih=>
   intro _hd h b off cs c w0 hR hC
   obtain ⟨k,t,n,v,kids⟩:=c
   match h,hC with
   | h+1,hC=>
   obtain ⟨A,C,rfl,hkl,hK⟩:=hC
   have H:=Own.start w0 none
   refine XE func114 rfl ntmps114 rfl (fun a F=>?_);refine cSR fun K1 hK1=>Xa F rfl (qNK hK1 ?_);clear hK1;clear F a;intro a F;refine cSeq (fun K2 hK2=>?_);refine cSR fun K3 hK3=>Xl F rfl (Xj rfl rfl ZQ (qNK hK3 ?_));clear hK3;clear F a;intro a F
   refine cIf F rfl (fun h12=>?_) (fun h12=>?_)
   ·
    replace h12:=Yh h12
    omega
   replace h12:=Yi h12;refine wp_skip (hK2 _ _ ?_);clear hK2
   refine cSeqS [0,1,2,3] (fun ups w=>∃ r,ups=[(9,.bool r)]∧r=(t == 0 && n == 0 && v == 0)∧Own w0 none w []) F ?_ ?_
   ·
    refine cReg (Xl F rfl (Xk rfl (Xb (f:=1) underlying28 rfl sizeOf5 rfl rfl rfl (Xc isAgg5 rfl (H.arg (hR 1 _ rfl)) (Xj rfl rfl (XZ (y:=0)) (Xd rfl ?_))))));clear F a;intro a F
    refine F.split 18 rfl ?_ ?_ <;> (clear F;intro h18 F)
    ·
     replace h18:=Yh h18;refine Xl F rfl (Xk rfl (Xb (f:=2) underlying28 rfl sizeOf5 rfl rfl rfl (Xc isAgg5 rfl (H.arg (hR 2 _ rfl)) (Xj rfl rfl (XZ (y:=0)) (Xg rfl rfl (Xd rfl ?_))))));clear F a;intro a F
     refine F.split 25 rfl ?_ ?_ <;> (clear F;intro h25 F)
     ·
      replace h25:=Yh h25;refine Xl F rfl (Xk rfl (Xb (f:=3) underlying28 rfl sizeOf5 rfl rfl rfl (Xc isAgg5 rfl (H.arg (hR 3 _ rfl)) (Xj rfl rfl (XZ (y:=0)) (Xg rfl rfl (Xh rfl ?_))))));clear F a;intro a F;refine sNil ?_
      refine ⟨_,⟨_,rfl,?_,H⟩,F.tt⟩
      simp_all
     replace h25:=Yi h25;refine Xe F (Xf (Xf (Xf (Xf (Xg rfl rfl (Xh rfl ?_))))));clear F a;intro a F;refine sNil ?_
     refine ⟨_,⟨_,rfl,?_,H⟩,F.tt⟩
     simp_all
    replace h18:=Yi h18;refine Xe F (Xf (Xf (Xf (Xf (Xg rfl rfl (Xd rfl (Xf (Xf (Xf (Xf (Xf (Xg rfl rfl (Xh rfl ?_)))))))))))));clear F a;intro a F;refine sNil ?_
    refine ⟨_,⟨_,rfl,?_,H⟩,F.tt⟩
    simp_all
   clear F H
   intro ups a w hI F
   obtain ⟨r,rfl,hr,H⟩:=hI
   refine cSeqS [0,1,2,3] (fun ups w=>ups=[]∧r=true∧((k=3∨k=4)∧2≤kids.length∨k=5∧kids.length=1)∧Own w0 none w []) F ?_ ?_
   ·
    refine cSR fun K4 hK4=>Xl F rfl (Xk rfl (Xb (f:=0) underlying28 rfl sizeOf5 rfl rfl rfl (Xc isAgg5 rfl (H.arg (hR 0 _ rfl)) (qNK hK4 ?_))));clear hK4;clear F a;intro a F;refine wp_block ?_;refine cSR fun K5 hK5=>Xm F rfl rfl (XZ (y:=0)) (Xh rfl (qNK hK5 ?_));clear hK5;clear F a;intro a F
    refine cIf F rfl (fun h36=>?_) (fun h36=>?_)
    ·
     replace h36:=Yh h36;refine cSR fun K6 hK6=>Xl F rfl (Xd rfl ?_);clear F a;intro a F
     refine F.split 39 rfl ?_ ?_ <;> (clear F;intro h39 F)
     ·
      refine Xl F rfl (Xk rfl (Xb (f:=4) underlying28 rfl sizeOf26 rfl rfl rfl (Xc isAgg26 rfl (H.arg (hR 4 _ rfl)) (Xs underlying26 rfl (Xj rfl rfl ZQ (Xg rfl rfl (Xh rfl (qNK hK6 ?_))))))));clear hK6;clear F a;intro a F;refine wp_ret ?_;refine xI ?_;refine bRet results114 F rfl ?_
      exact ⟨X1 (by clear F H hK ih hR;simp_all [Yk,X6,UInt8.lt_iff_toNat_lt,UInt8.le_iff_toNat_le] <;> (intros;omega)),H.below⟩
     refine Xe F (Xf (Xf (Xf (Xf (Xf (Xg rfl rfl (Xh rfl (qNK hK6 ?_))))))));clear hK6;clear F a;intro a F;refine wp_ret ?_;refine xI ?_;refine bRet results114 F rfl ?_
     exact ⟨X1 (by clear F H hK ih hR;simp_all [Yk,X6,UInt8.lt_iff_toNat_lt,UInt8.le_iff_toNat_le] <;> (intros;omega)),H.below⟩
    replace h36:=Yi h36;refine cSR fun K7 hK7=>Xm F rfl rfl (XZ (y:=1)) (Xh rfl (qNK hK7 ?_));clear hK7;clear F a;intro a F
    refine cIf F rfl (fun h47=>?_) (fun h47=>?_)
    ·
     replace h47:=Yh h47;refine cSR fun K8 hK8=>Xl F rfl (Xk rfl (Xb (f:=1) underlying28 rfl sizeOf5 rfl rfl rfl (Xc isAgg5 rfl (H.arg (hR 1 _ rfl)) (qCv underlying5 underlying3 rfl rfl rfl (ZT _) (Xd rfl (Xj rfl rfl YW (Xd rfl ?_)))))));clear F a;intro a F
     refine F.split 56 rfl ?_ ?_ <;> (clear F;intro h56 F)
     ·
      replace h56:=of_decide_eq_true h56;refine Xl F rfl (Xk rfl (Xb (f:=2) underlying28 rfl sizeOf5 rfl rfl rfl (Xc isAgg5 rfl (H.arg (hR 2 _ rfl)) (Xj rfl rfl (GY (y:=8)) (Xg rfl rfl (Xd rfl ?_))))));clear F a;intro a F
      refine F.split 63 rfl ?_ ?_ <;> (clear F;intro h63 F)
      ·
       replace h63:=of_decide_eq_true h63;refine Xl F rfl (Xk rfl (Xb (f:=4) underlying28 rfl sizeOf26 rfl rfl rfl (Xc isAgg26 rfl (H.arg (hR 4 _ rfl)) (Xs underlying26 rfl (Xj rfl rfl ZQ (Xg rfl rfl (Xh rfl (qNK hK8 ?_))))))));clear hK8;clear F a;intro a F;refine wp_ret ?_;refine xI ?_;refine bRet results114 F rfl ?_
       exact ⟨X1 (by clear F H hK ih hR;simp_all [Yk,X6,UInt8.lt_iff_toNat_lt,UInt8.le_iff_toNat_le] <;> (intros;omega)),H.below⟩
      replace h63:=of_decide_eq_false h63;refine Xe F (Xf (Xf (Xf (Xf (Xf (Xg rfl rfl (Xh rfl (qNK hK8 ?_))))))));clear hK8;clear F a;intro a F;refine wp_ret ?_;refine xI ?_;refine bRet results114 F rfl ?_
      exact ⟨X1 (by clear F H hK ih hR;simp_all [Yk,X6,UInt8.lt_iff_toNat_lt,UInt8.le_iff_toNat_le] <;> (intros;omega)),H.below⟩
     replace h56:=of_decide_eq_false h56;refine Xe F (Xf (Xf (Xf (Xf (Xg rfl rfl (Xd rfl (Xf (Xf (Xf (Xf (Xf (Xf (Xg rfl rfl (Xh rfl (qNK hK8 ?_)))))))))))))));clear hK8;clear F a;intro a F;refine wp_ret ?_;refine xI ?_;refine bRet results114 F rfl ?_
     exact ⟨X1 (by clear F H hK ih hR;simp_all [Yk,X6,UInt8.lt_iff_toNat_lt,UInt8.le_iff_toNat_le] <;> (intros;omega)),H.below⟩
    replace h47:=Yi h47;refine cSR fun K9 hK9=>Xm F rfl rfl (XZ (y:=2)) (Xh rfl (qNK hK9 ?_));clear hK9;clear F a;intro a F
    refine cIf F rfl (fun h71=>?_) (fun h71=>?_)
    ·
     replace h71:=Yh h71;refine cSR fun K10 hK10=>Xl F rfl (Xk rfl (Xb (f:=2) underlying28 rfl sizeOf5 rfl rfl rfl (Xc isAgg5 rfl (H.arg (hR 2 _ rfl)) (qCv underlying5 underlying3 rfl rfl rfl (ZT _) (Xd rfl (Xj rfl rfl YW (Xd rfl ?_)))))));clear F a;intro a F
     refine F.split 80 rfl ?_ ?_ <;> (clear F;intro h80 F)
     ·
      replace h80:=of_decide_eq_true h80;refine Xl F rfl (Xk rfl (Xb (f:=1) underlying28 rfl sizeOf5 rfl rfl rfl (Xc isAgg5 rfl (H.arg (hR 1 _ rfl)) (Xj rfl rfl (XZ (y:=0)) (Xg rfl rfl (Xd rfl ?_))))));clear F a;intro a F
      refine F.split 87 rfl ?_ ?_ <;> (clear F;intro h87 F)
      ·
       replace h87:=Yh h87;refine Xl F rfl (Xk rfl (Xb (f:=4) underlying28 rfl sizeOf26 rfl rfl rfl (Xc isAgg26 rfl (H.arg (hR 4 _ rfl)) (Xs underlying26 rfl (Xj rfl rfl ZQ (Xg rfl rfl (Xh rfl (qNK hK10 ?_))))))));clear hK10;clear F a;intro a F;refine wp_ret ?_;refine xI ?_;refine bRet results114 F rfl ?_
       exact ⟨X1 (by clear F H hK ih hR;simp_all [Yk,X6,UInt8.lt_iff_toNat_lt,UInt8.le_iff_toNat_le] <;> (intros;omega)),H.below⟩
      replace h87:=Yi h87;refine Xe F (Xf (Xf (Xf (Xf (Xf (Xg rfl rfl (Xh rfl (qNK hK10 ?_))))))));clear hK10;clear F a;intro a F;refine wp_ret ?_;refine xI ?_;refine bRet results114 F rfl ?_
      exact ⟨X1 (by clear F H hK ih hR;simp_all [Yk,X6,UInt8.lt_iff_toNat_lt,UInt8.le_iff_toNat_le] <;> (intros;omega)),H.below⟩
     replace h80:=of_decide_eq_false h80;refine Xe F (Xf (Xf (Xf (Xf (Xg rfl rfl (Xd rfl (Xf (Xf (Xf (Xf (Xf (Xf (Xg rfl rfl (Xh rfl (qNK hK10 ?_)))))))))))))));clear hK10;clear F a;intro a F;refine wp_ret ?_;refine xI ?_;refine bRet results114 F rfl ?_
     exact ⟨X1 (by clear F H hK ih hR;simp_all [Yk,X6,UInt8.lt_iff_toNat_lt,UInt8.le_iff_toNat_le] <;> (intros;omega)),H.below⟩
    replace h71:=Yi h71;refine cSeq (fun K11 hK11=>?_);refine cSR fun K12 hK12=>Xm F rfl rfl (XZ (y:=3)) (Xh rfl (qNK hK12 ?_));clear hK12;clear F a;intro a F
    refine cIf F rfl (fun h95=>?_) (fun h95=>?_)
    ·
     replace h95:=Yh h95;refine wp_skip (hK11 _ _ ?_);clear hK11
     refine cIf F rfl (fun h95=>?_) (fun h95=>?_)
     ·
      replace h95:=Yh h95;refine cSR fun K13 hK13=>Xl F rfl (Es rfl rfl rfl (Xd rfl ?_));clear F a;intro a F
      refine F.split 100 rfl ?_ ?_ <;> (clear F;intro h100 F)
      ·
       replace h100:=ZA h100;refine Xe F (Xf (Xf (Xf (Xf (Xf (Xg rfl rfl (qNK hK13 ?_)))))));clear hK13;clear F a;intro a F;refine cIfT F rfl ?_;refine cSR fun K14 hK14=>Xa F rfl (qNK hK14 ?_);clear hK14;clear F a;intro a F;refine wp_ret ?_;refine xI ?_;refine bRet results114 F rfl ?_
       exact ⟨X1 (by clear F H hK ih hR;simp_all [Yk,X6,UInt8.lt_iff_toNat_lt,UInt8.le_iff_toNat_le] <;> (intros;omega)),H.below⟩
      replace h100:=ZB h100;refine Xl F rfl (Xk rfl (Xb (f:=4) underlying28 rfl sizeOf26 rfl rfl rfl (Xc isAgg26 rfl (H.arg (hR 4 _ rfl)) (Xs underlying26 rfl (Xj rfl rfl YW (Xg rfl rfl (qNK hK13 ?_)))))));clear hK13;clear F a;intro a F
      refine cIf F rfl (fun h107=>?_) (fun h107=>?_)
      ·
       replace h107:=of_decide_eq_true h107;refine cSR fun K15 hK15=>Xa F rfl (qNK hK15 ?_);clear hK15;clear F a;intro a F;refine wp_ret ?_;refine xI ?_;refine bRet results114 F rfl ?_
       exact ⟨X1 (by clear F H hK ih hR;simp_all [Yk,X6,UInt8.lt_iff_toNat_lt,UInt8.le_iff_toNat_le] <;> (intros;omega)),H.below⟩
      replace h107:=of_decide_eq_false h107;refine wp_skip ?_
      refine ⟨_,⟨rfl,?_,?_,H⟩,F.tt⟩
      · simp_all
      · clear F H hK ih hR;simp_all <;> omega
     replace h95:=Yi h95;refine cSR fun K16 hK16=>Xm F rfl rfl (XZ (y:=5)) (Xh rfl (qNK hK16 ?_));clear hK16;clear F a;intro a F
     refine cIf F rfl (fun h108=>?_) (fun h108=>?_)
     ·
      replace h108:=Yh h108;refine cSR fun K17 hK17=>Xl F rfl (Es rfl rfl rfl (Xd rfl ?_));clear F a;intro a F
      refine F.split 112 rfl ?_ ?_ <;> (clear F;intro h112 F)
      ·
       replace h112:=ZA h112;refine Xe F (Xf (Xf (Xf (Xf (Xf (Xg rfl rfl (qNK hK17 ?_)))))));clear hK17;clear F a;intro a F;refine cIfT F rfl ?_;refine cSR fun K18 hK18=>Xa F rfl (qNK hK18 ?_);clear hK18;clear F a;intro a F;refine wp_ret ?_;refine xI ?_;refine bRet results114 F rfl ?_
       exact ⟨X1 (by clear F H hK ih hR;simp_all [Yk,X6,UInt8.lt_iff_toNat_lt,UInt8.le_iff_toNat_le] <;> (intros;omega)),H.below⟩
      replace h112:=ZB h112;refine Xl F rfl (Xk rfl (Xb (f:=4) underlying28 rfl sizeOf26 rfl rfl rfl (Xc isAgg26 rfl (H.arg (hR 4 _ rfl)) (Xs underlying26 rfl (Xj rfl rfl U7 (Xg rfl rfl (qNK hK17 ?_)))))));clear hK17;clear F a;intro a F
      refine cIf F rfl (fun h119=>?_) (fun h119=>?_)
      ·
       replace h119:=UL h119;refine cSR fun K19 hK19=>Xa F rfl (qNK hK19 ?_);clear hK19;clear F a;intro a F;refine wp_ret ?_;refine xI ?_;refine bRet results114 F rfl ?_
       exact ⟨X1 (by clear F H hK ih hR;simp_all [Yk,X6,UInt8.lt_iff_toNat_lt,UInt8.le_iff_toNat_le] <;> (intros;omega)),H.below⟩
      replace h119:=UM h119;refine wp_skip ?_
      refine ⟨_,⟨rfl,?_,?_,H⟩,F.tt⟩
      · simp_all
      · clear F H hK ih hR;simp_all <;> omega
     replace h108:=Yi h108;refine cSR fun K20 hK20=>Xa F rfl (qNK hK20 ?_);clear hK20;clear F a;intro a F;refine wp_ret ?_;refine xI ?_;refine bRet results114 F rfl ?_
     exact ⟨X1 (by clear F H hK ih hR;simp_all [Yk,X6,UInt8.lt_iff_toNat_lt,UInt8.le_iff_toNat_le] <;> (intros;omega)),H.below⟩
    replace h95:=Yi h95;refine cReg (Xm F rfl rfl (XZ (y:=4)) (Xh rfl (qNK hK11 ?_)));clear hK11;clear F a;intro a F
    refine cIf F rfl (fun h95=>?_) (fun h95=>?_)
    ·
     replace h95:=Yh h95;refine cSR fun K21 hK21=>Xl F rfl (Es rfl rfl rfl (Xd rfl ?_));clear F a;intro a F
     refine F.split 100 rfl ?_ ?_ <;> (clear F;intro h100 F)
     ·
      replace h100:=ZA h100;refine Xe F (Xf (Xf (Xf (Xf (Xf (Xg rfl rfl (qNK hK21 ?_)))))));clear hK21;clear F a;intro a F;refine cIfT F rfl ?_;refine cSR fun K22 hK22=>Xa F rfl (qNK hK22 ?_);clear hK22;clear F a;intro a F;refine wp_ret ?_;refine xI ?_;refine bRet results114 F rfl ?_
      exact ⟨X1 (by clear F H hK ih hR;simp_all [Yk,X6,UInt8.lt_iff_toNat_lt,UInt8.le_iff_toNat_le] <;> (intros;omega)),H.below⟩
     replace h100:=ZB h100;refine Xl F rfl (Xk rfl (Xb (f:=4) underlying28 rfl sizeOf26 rfl rfl rfl (Xc isAgg26 rfl (H.arg (hR 4 _ rfl)) (Xs underlying26 rfl (Xj rfl rfl YW (Xg rfl rfl (qNK hK21 ?_)))))));clear hK21;clear F a;intro a F
     refine cIf F rfl (fun h107=>?_) (fun h107=>?_)
     ·
      replace h107:=of_decide_eq_true h107;refine cSR fun K23 hK23=>Xa F rfl (qNK hK23 ?_);clear hK23;clear F a;intro a F;refine wp_ret ?_;refine xI ?_;refine bRet results114 F rfl ?_
      exact ⟨X1 (by clear F H hK ih hR;simp_all [Yk,X6,UInt8.lt_iff_toNat_lt,UInt8.le_iff_toNat_le] <;> (intros;omega)),H.below⟩
     replace h107:=of_decide_eq_false h107;refine wp_skip ?_
     refine ⟨_,⟨rfl,?_,?_,H⟩,F.tt⟩
     · simp_all
     · clear F H hK ih hR;simp_all <;> omega
    replace h95:=Yi h95;refine cSR fun K24 hK24=>Xm F rfl rfl (XZ (y:=5)) (Xh rfl (qNK hK24 ?_));clear hK24;clear F a;intro a F
    refine cIf F rfl (fun h108=>?_) (fun h108=>?_)
    ·
     replace h108:=Yh h108;refine cSR fun K25 hK25=>Xl F rfl (Es rfl rfl rfl (Xd rfl ?_));clear F a;intro a F
     refine F.split 112 rfl ?_ ?_ <;> (clear F;intro h112 F)
     ·
      replace h112:=ZA h112;refine Xe F (Xf (Xf (Xf (Xf (Xf (Xg rfl rfl (qNK hK25 ?_)))))));clear hK25;clear F a;intro a F;refine cIfT F rfl ?_;refine cSR fun K26 hK26=>Xa F rfl (qNK hK26 ?_);clear hK26;clear F a;intro a F;refine wp_ret ?_;refine xI ?_;refine bRet results114 F rfl ?_
      exact ⟨X1 (by clear F H hK ih hR;simp_all [Yk,X6,UInt8.lt_iff_toNat_lt,UInt8.le_iff_toNat_le] <;> (intros;omega)),H.below⟩
     replace h112:=ZB h112;refine Xl F rfl (Xk rfl (Xb (f:=4) underlying28 rfl sizeOf26 rfl rfl rfl (Xc isAgg26 rfl (H.arg (hR 4 _ rfl)) (Xs underlying26 rfl (Xj rfl rfl U7 (Xg rfl rfl (qNK hK25 ?_)))))));clear hK25;clear F a;intro a F
     refine cIf F rfl (fun h119=>?_) (fun h119=>?_)
     ·
      replace h119:=UL h119;refine cSR fun K27 hK27=>Xa F rfl (qNK hK27 ?_);clear hK27;clear F a;intro a F;refine wp_ret ?_;refine xI ?_;refine bRet results114 F rfl ?_
      exact ⟨X1 (by clear F H hK ih hR;simp_all [Yk,X6,UInt8.lt_iff_toNat_lt,UInt8.le_iff_toNat_le] <;> (intros;omega)),H.below⟩
     replace h119:=UM h119;refine wp_skip ?_
     refine ⟨_,⟨rfl,?_,?_,H⟩,F.tt⟩
     · simp_all
     · clear F H hK ih hR;simp_all <;> omega
    replace h108:=Yi h108;refine cSR fun K28 hK28=>Xa F rfl (qNK hK28 ?_);clear hK28;clear F a;intro a F;refine wp_ret ?_;refine xI ?_;refine bRet results114 F rfl ?_
    exact ⟨X1 (by clear F H hK ih hR;simp_all [Yk,X6,UInt8.lt_iff_toNat_lt,UInt8.le_iff_toNat_le] <;> (intros;omega)),H.below⟩
   clear F H
   intro ups a w hI F
   obtain ⟨rfl,hrt,hkk,H⟩:=hI
   refine cSeq (fun K29 hK29=>?_);refine cSR fun K30 hK30=>Xl F rfl (Xk rfl (Xb (f:=4) underlying28 rfl sizeOf26 rfl rfl rfl (Xc isAgg26 rfl (H.arg (hR 4 _ rfl)) (Xs underlying26 rfl (Xd rfl (qNK hK30 ?_))))));clear hK30;clear F a;intro a F;refine wp_block ?_
   refine cLoopS [0,1,2,3,124] (fun m ups w=>∃ j:Nat,m=kids.length - j∧ups=[(125,.int .i64 (j:Int))]∧j≤kids.length∧kids.all (Yk threads locs d)=(kids.drop j).all (Yk threads locs d)∧Own w0 none w []) F (kids.length) [(125,.int .i64 ((0:Nat):Int))] ?_ ?_
   · exact ⟨0,rfl,rfl,by omega,rfl,H⟩
   clear F
   clear H
   intro m ups a w hI F
   obtain ⟨j,rfl,rfl,hj,ht,H⟩:=hI
   refine cSR fun K31 hK31=>Xm F rfl rfl YW (qNK hK31 ?_);clear hK31;clear F a;intro a F;refine cSeq (fun K32 hK32=>?_)
   refine cIf F rfl (fun h126=>?_) (fun h126=>?_)
   ·
    replace h126:=of_decide_eq_true h126
    have hjl:j < kids.length:=by omega
    obtain ⟨kid,hx⟩:∃ x,kids[j]? = some x:=⟨_,List.getElem?_eq_getElem hjl⟩
    obtain ⟨b',off',cs',rfl,hR',hC'⟩:=hK j kid hx
    refine wp_skip (hK32 _ _ ?_);clear hK32;refine cSeq (fun K33 hK33=>?_);refine wp_block ?_;refine cSR fun K34 hK34=>Xl F rfl (Xh rfl (qNK hK34 (qSR fun K35 hK35=>Xd rfl (Xk rfl (Xb (f:=4) underlying28 rfl sizeOf26 rfl rfl rfl (Xc isAgg26 rfl (H.arg (hR 4 _ rfl)) (Xd rfl ?_)))))));clear hK34;clear F a;intro a F
    refine sIx underlying26 sizeOf28 F rfl rfl rfl rfl ?_ ?_
    focus (omega)
    clear F a;intro a F;refine Xl F rfl (Xd rfl (Xd rfl ?_));clear F a;intro a F
    refine Xm F rfl rfl (Yp (j:=1) ?_ ?_) ?_
    focus omega
    focus omega
    clear F a;intro a F;refine Xn call114 F rfl (ih (by omega) h b' (off'+j * 5) cs' kid _ (H.argR hR') (CondAt.grown H.grown rfl _ _ _ hC')) (gG H ?_);clear F a H;intro a w F H;refine UV F rfl rfl rfl (qNK hK35 ?_);clear hK35;clear F a;intro a F
    refine cIf F rfl (fun h139=>?_) (fun h139=>?_)
    ·
     replace h139:=ZA h139;refine cSR fun K36 hK36=>Xa F rfl (qNK hK36 ?_);clear hK36;clear F a;intro a F;refine wp_ret ?_;refine xI ?_;refine bRet results114 F rfl ?_
     exact ⟨X1 (by rw [GR hkk (by rw [← hr,hrt]),ht,WH _ hx,h139,Bool.false_and]),H.below⟩
    replace h139:=ZB h139;refine wp_skip (hK33 _ _ (cReg ?_));clear hK33
    refine Xm F rfl rfl (XJ (j:=1) ?_) ?_
    focus omega
    clear F a;intro a F;refine Xl F rfl ?_;clear F a;intro a F;refine sNil ?_
    exact ⟨kids.length - (j+1),by omega,_,⟨j+1,rfl,rfl,by omega,by rw [ht,WH _ hx,h139,Bool.true_and],H⟩,F.tt⟩
   replace h126:=of_decide_eq_false h126;refine wp_exit ?_;refine hK29 _ _ (cSR fun K37 hK37=>Xa F rfl (qNK hK37 ?_));clear hK29 hK37;clear F a;intro a F;refine wp_ret ?_;refine bRet results114 F rfl ?_
   exact ⟨X1 (by rw [GR hkk (by rw [← hr,hrt]),ht,List.drop_eq_nil_of_le (by omega)];rfl),H.below⟩
theorem C6 (threads locs:Int) (h:Nat) (cs:List Value) (c:Cnd) (w0:World) (hC:CondAt w0 h cs c) :
   Calls Tryz.prog 76 #[.agg cs.toArray,.int .i64 threads,.int .i64 locs] w0 fun e w'=>e = .returned (.bool (Yk threads locs 20 c))∧Below w0.heap.size w0 w':=by
 have H:=Own.start w0 none
 refine XE func76 rfl ntmps76 rfl (fun a F=>?_);refine cSR fun K1 hK1=>?_;refine sBx H F rfl rfl rfl ?_;clear F a H;intro b3 a w F H;refine Xa F rfl (qNK hK1 (qSR fun K2 hK2=>Xd rfl (Xd rfl ?_)));clear hK1;clear F a;intro a F;refine Xn call114 F rfl (Qp threads locs 20 (by omega) h b3 0 cs c _ (H.whole 0 rfl) (CondAt.grown H.grown rfl _ _ _ hC)) (gG H ?_);clear F a H;intro a w F H;refine Xa F rfl (qNK hK2 ?_);clear hK2;clear F a;intro a F;refine wp_ret ?_;refine bRet results76 F rfl ?_
 exact ⟨rfl,H.below⟩
end
section
open Go.RowKit
def StrsAt (w:World) (A:Option Addr) (l:List ByteArray):Prop:=RowsAt w A 1 (l.map fun s=>[.string s])
theorem StrsAt.get {w:World} {A:Option Addr} {l:List ByteArray} (h:StrsAt w A l) {j:Nat} {s:ByteArray} (hj:l[j]? = some s):∃ b off,A=some ⟨b,off,none⟩∧w.cell? ⟨b,off+j * 1,none⟩=some (.string s):=by
 obtain ⟨b,off,h1,h2⟩:=h j [.string s] (by rw [List.getElem?_map,hj];rfl)
 exact ⟨b,off,h1,by have:=h2 0 _ rfl;rwa [Nat.add_zero] at this⟩
def UW (s:ByteArray):List ByteArray→Nat→Option Nat
 | [],_=>none
 | x :: r,k=>if s.toList == x.toList then some k else UW s r (k+1)
theorem J9 {s x:ByteArray} {l:List ByteArray} {j:Nat} (hx:l[j]? = some x):UW s (l.drop j) j=if s.toList == x.toList then some j else UW s (l.drop (j+1)) (j+1):=by
 obtain ⟨hj,rfl⟩:=List.getElem?_eq_some_iff.1 hx
 rw [List.drop_eq_getElem_cons hj]
 rfl
def idxI (o:Option Nat):Int:=match o with | some k=>k | none=>-1
theorem DU (A:Option Addr) (C:Nat) (l:List ByteArray) (s:ByteArray) (w0:World) (hA:StrsAt w0 A l) (hl:l.length≤9223372036854775807) :
   Calls Tryz.prog 125 #[.slice A l.length C,.string s] w0 fun e w'=>e = .returned (.int .i64 (idxI (UW s l 0)))∧Below w0.heap.size w0 w':=by
 have H:=Own.start w0 none
 refine XE func125 rfl ntmps125 rfl (fun a F=>?_);refine cSR fun K1 hK1=>Xa F rfl (qNK hK1 ?_);clear hK1;clear F a;intro a F;refine cSeq (fun K2 hK2=>?_);refine cSR fun K3 hK3=>Xl F rfl (Xs underlying24 rfl (Xd rfl (qNK hK3 ?_)));clear hK3;clear F a;intro a F;refine wp_block ?_
 refine cLoopS [0,1,7] (fun m ups w=>∃ j:Nat,m=l.length - j∧ups=[(8,.int .i64 (j:Int))]∧j≤l.length∧UW s l 0=UW s (l.drop j) j∧Own w0 none w []) F (l.length) [(8,.int .i64 ((0:Nat):Int))] ?_ ?_
 · exact ⟨0,rfl,rfl,Nat.zero_le _,rfl,H⟩
 clear F
 clear H
 intro m ups a w hI F
 obtain ⟨j,rfl,rfl,hj,ht,H⟩:=hI
 refine cSR fun K4 hK4=>Xm F rfl rfl YW (qNK hK4 ?_);clear hK4;clear F a;intro a F;refine cSeq (fun K5 hK5=>?_)
 refine cIf F rfl (fun h9=>?_) (fun h9=>?_)
 ·
  replace h9:=of_decide_eq_true h9
  have hjl:j < l.length:=by omega
  obtain ⟨x,hx⟩:∃ x,l[j]? = some x:=⟨_,List.getElem?_eq_getElem hjl⟩
  obtain ⟨b,off,rfl,hc⟩:=hA.get hx
  refine wp_skip (hK5 _ _ ?_);clear hK5;refine cSeq (fun K6 hK6=>?_);refine wp_block ?_;refine cSR fun K7 hK7=>Xl F rfl (Xh rfl (qNK hK7 (qSR fun K8 hK8=>Xd rfl (Xd rfl (Xd rfl ?_)))));clear hK7;clear F a;intro a F
  refine sIx underlying24 sizeOf9 F rfl rfl rfl rfl ?_ ?_
  focus (omega)
  clear F a;intro a F;refine sLd isAgg9 F rfl rfl rfl (H.arg hc) (Xj rfl rfl Lp (qNK hK8 ?_));clear hK8;clear F a;intro a F
  refine cIf F rfl (fun h16=>?_) (fun h16=>?_)
  ·
   replace h16:=Yh h16;refine cSR fun K9 hK9=>Xl F rfl (Xh rfl (qNK hK9 ?_));clear hK9;clear F a;intro a F;refine wp_ret ?_;refine xI ?_;refine bRet results125 F rfl ?_
   exact ⟨by rw [ht,J9 hx,if_pos (by simpa using h16)];rfl,H.below⟩
  replace h16:=Yi h16;refine wp_skip (hK6 _ _ (cReg ?_));clear hK6
  refine Xm F rfl rfl (XJ (j:=1) ?_) ?_
  focus omega
  clear F a;intro a F;refine Xl F rfl ?_;clear F a;intro a F;refine sNil ?_
  exact ⟨l.length - (j+1),by omega,_,⟨j+1,rfl,rfl,by omega,by rw [ht,J9 hx,if_neg (by simpa using h16)],H⟩,F.tt⟩
 replace h9:=of_decide_eq_false h9;refine wp_exit ?_;refine hK2 _ _ (cSR fun K10 hK10=>Xa F rfl (qNK hK10 ?_));clear hK2 hK10;clear F a;intro a F;refine wp_ret ?_;refine bRet results125 F rfl ?_
 exact ⟨by rw [ht,List.drop_eq_nil_of_le (by omega)];rfl,H.below⟩
theorem Q9 (A:Option Addr) (C:Nat) (l:List ByteArray) (s:ByteArray) (w0:World) (hA:StrsAt w0 A l) (hl:l.length≤9223372036854775807) :
   Calls Tryz.prog 113 #[.slice A l.length C,.string s] w0 fun e w'=>e = .returned (.bool (UW s l 0).isSome)∧Below w0.heap.size w0 w':=by
 have H:=Own.start w0 none
 refine XE func113 rfl ntmps113 rfl (fun a F=>?_);refine cSR fun K1 hK1=>Xa F rfl (qNK hK1 (qSR fun K2 hK2=>Xd rfl (Xd rfl ?_)));clear hK1;clear F a;intro a F;refine Xn call125 F rfl (DU A C l s _ hA hl) (gG H ?_);clear F a H;intro a w F H;refine Xm F rfl rfl Jc (Xh rfl (qNK hK2 ?_));clear hK2;clear F a;intro a F;refine wp_ret ?_;refine bRet results113 F rfl ?_
 exact ⟨X1 (by cases UW s l 0 <;> simp [idxI]),H.below⟩
end
section
open Go.RowKit
structure Prg where
 name:ByteArray
 locs:List ByteArray
 init:List UInt8
 threads:List (List Ins)
 ask:UInt8
 cond:Cnd
def ThreadsAt (w:World) (A:Option Addr) (l:List (List Ins)):Prop:=∀ (j:Nat) (t:List Ins),l[j]? = some t→∃ b off B C,A=some ⟨b,off,none⟩∧w.cell? ⟨b,off+j * 1,none⟩=some (.slice B t.length C)∧RowsAt w B 10 (t.map Ins.cells)∧t.length≤9223372036854775807
structure ProgIn (w:World) (cs:List Value) (p:Prg) (LA:Option Addr) (LC:Nat) (IA:Option Addr) (IC:Nat) (TA:Option Addr) (TC h:Nat) (ccs:List Value):Prop where
 cs:cs=[.string p.name,.slice LA p.locs.length LC,.slice IA p.init.length IC,.slice TA p.threads.length TC,b8 p.ask]++ccs
 name:p.name.size≤maxLen
 locs:StrsAt w LA p.locs
 locsN:p.locs.length≤9223372036854775807
 locsC:p.locs.length≤LC
 locsS:∀ s ∈ p.locs,s.size≤maxLen
 init:RowsAt w IA 1 (p.init.map fun x=>[b8 x])
 initN:p.init.length≤9223372036854775807
 threads:ThreadsAt w TA p.threads
 threadsN:p.threads.length≤9223372036854775807
 cond:CondAt w h ccs p.cond
def ProgAt (w:World) (cs:List Value) (p:Prg):Prop:=∃ LA LC IA IC TA TC h ccs,ProgIn w cs p LA LC IA IC TA TC h ccs
theorem RowsAt.own {w0 w:World} {rs:List Res} {A:Option Addr} {sz:Nat} {rows:List (List Value)} (h:RowsAt w0 A sz rows) (H:Own w0 none w rs):RowsAt w A sz rows:=fun j cs hj=>by
 obtain ⟨b,off,h1,h2⟩:=h j cs hj
 exact ⟨b,off,h1,H.argR h2⟩
theorem ThreadsAt.own {w0 w:World} {rs:List Res} {A:Option Addr} {l:List (List Ins)} (h:ThreadsAt w0 A l) (H:Own w0 none w rs):ThreadsAt w A l:=fun j t hj=>by
 obtain ⟨b,off,B,C,h1,h2,h3,h4⟩:=h j t hj
 exact ⟨b,off,B,C,h1,H.arg h2,h3.own H,h4⟩
theorem ProgIn.own {w0 w:World} {rs:List Res} {cs:List Value} {p:Prg} {LA IA TA:Option Addr} {LC IC TC h:Nat} {ccs:List Value} (hp:ProgIn w0 cs p LA LC IA IC TA TC h ccs) (H:Own w0 none w rs):ProgIn w cs p LA LC IA IC TA TC h ccs:=
 ⟨hp.cs,hp.name,RowsAt.own hp.locs H,hp.locsN,hp.locsC,hp.locsS,RowsAt.own hp.init H,hp.initN,hp.threads.own H,hp.threadsN,CondAt.grown H.grown rfl _ _ _ hp.cond⟩
theorem ProgAt.own {w0 w:World} {rs:List Res} {cs:List Value} {p:Prg} (h:ProgAt w0 cs p) (H:Own w0 none w rs):ProgAt w cs p:=by
 obtain ⟨LA,LC,IA,IC,TA,TC,h,ccs,hp⟩:=h
 exact ⟨LA,LC,IA,IC,TA,TC,h,ccs,hp.own H⟩
theorem Zc {w:World}:∀ {h:Nat} {cs:List Value} {c:Cnd},CondAt w h cs c→cs.length=5
 | 0,_,_,h=>h.elim
 | _+1,cs,.mk _ _ _ _ _,h=>by obtain ⟨A,C,rfl,_⟩:=h;rfl
theorem Xat:∀ {l:List Value},l.length=5→∃ a b c d e,l=[a,b,c,d,e]
 | [a,b,c,d,e],_=>⟨a,b,c,d,e,rfl⟩
def XO (p:Prg):Bool:=decide (1≤p.threads.length) && decide (p.threads.length≤4) && p.threads.all (fun l=>decide (l.length≤12))
def YC (p:Prg):Bool:=p.threads.all (XH p.locs.length)
def Vh (p:Prg):Bool:=p.ask == 1 || p.ask == 2 || p.ask == 3
end
section
open Go.RowKit
structure PvAt (w:World) (V B:Nat) (cs:List Value) (p:Prg):Prop where
 var:w.rangeAt V 0 [.pointer (some ⟨B,0,none⟩)]
 blk:w.rangeAt B 0 cs
 prg:ProgAt w cs p
theorem PvAt.own {w0 w:World} {rs:List Res} {V B:Nat} {cs:List Value} {p:Prg} (h:PvAt w0 V B cs p) (H:Own w0 none w rs):PvAt w V B cs p:=⟨H.argR h.var,H.argR h.blk,h.prg.own H⟩
def XbV (P:Program) (f:List Ins→Bool) (fv:Value) (w0:World):Prop:=∀ (w:World) (rs:List Res) (A:Option Addr) (C:Nat) (l:List Ins),Own w0 none w rs→RowsAt w A 10 (l.map Ins.cells)→l.length≤9223372036854775807 →
 JJ P fv [.slice A l.length C] w (fun e w'=>e = .returned (.bool (f l))∧Below w.heap.size w w')
theorem Q6 (f:List Ins→Bool) (fv:Value) (V B:Nat) (cs:List Value) (p:Prg) (w0:World) (hP:PvAt w0 V B cs p) (hf:XbV Tryz.prog f fv w0) :
   Calls Tryz.prog 65 #[fv,.pointer (some ⟨V,0,none⟩)] w0 fun e w'=>e = .returned (.bool (p.threads.all f))∧Below w0.heap.size w0 w':=by
 obtain ⟨hV,hB,LA,LC,IA,IC,TA,TC,h,ccs,hp⟩:=hP
 have hcs:=hp.cs
 subst hcs
 have H:=Own.start w0 none
 have hn:=hp.threadsN
 refine XE func65 rfl ntmps65 rfl (fun a F=>?_);refine cSR fun K1 hK1=>Xa F rfl (qNK hK1 ?_);clear hK1;clear F a;intro a F;refine cSeq (fun K2 hK2=>?_);refine cSR fun K3 hK3=>sLd isAgg105 F rfl rfl rfl (H.arg (hV 0 _ rfl)) (Xk rfl (Xb (f:=3) (k:=3) underlying30 rfl sizeOf25 rfl rfl rfl (Xc isAgg25 rfl (H.arg (hB 3 _ rfl)) (Xs underlying25 rfl (Xd rfl (qNK hK3 ?_))))));clear hK3;clear F a;intro a F;refine wp_block ?_
 refine cLoopS [0,9,10] (fun m ups w=>∃ j:Nat,m=p.threads.length - j∧ups=[(11,.int .i64 (j:Int))]∧j≤p.threads.length∧p.threads.all f=(p.threads.drop j).all f∧Own w0 none w []) F (p.threads.length) [(11,.int .i64 ((0:Nat):Int))] ?_ ?_
 · exact ⟨0,rfl,rfl,Nat.zero_le _,rfl,H⟩
 clear F
 clear H
 intro m ups a w hI F
 obtain ⟨j,rfl,rfl,hj,ht,H⟩:=hI
 refine cSR fun K4 hK4=>Xm F rfl rfl YW (qNK hK4 ?_);clear hK4;clear F a;intro a F;refine cSeq (fun K5 hK5=>?_)
 refine cIf F rfl (fun h12=>?_) (fun h12=>?_)
 ·
  replace h12:=of_decide_eq_true h12
  have hjl:j < p.threads.length:=by omega
  obtain ⟨t,hx⟩:∃ x,p.threads[j]? = some x:=⟨_,List.getElem?_eq_getElem hjl⟩
  obtain ⟨b,off,tA,tC,rfl,hc,hR,hl⟩:=hp.threads j t hx
  refine wp_skip (hK5 _ _ ?_);clear hK5;refine cSeq (fun K6 hK6=>?_);refine wp_block ?_;refine cSR fun K7 hK7=>?_
  refine sIx underlying25 sizeOf22 F rfl rfl rfl rfl ?_ ?_
  focus (omega)
  clear F a;intro a F;refine sLd isAgg22 F rfl rfl rfl (H.arg hc) (Xh rfl (qNK hK7 (qSR fun K8 hK8=>Xd rfl (Xd rfl ?_))));clear hK7;clear F a;intro a F;refine EY F rfl rfl rfl rfl (hf _ _ tA tC t H (RowsAt.own hR H) hl) (gG H ?_);clear F a H;intro a w F H;refine UV F rfl rfl rfl (qNK hK8 ?_);clear hK8;clear F a;intro a F
  refine cIf F rfl (fun h18=>?_) (fun h18=>?_)
  ·
   replace h18:=ZA h18;refine cSR fun K9 hK9=>Xa F rfl (qNK hK9 ?_);clear hK9;clear F a;intro a F;refine wp_ret ?_;refine xI ?_;refine bRet results65 F rfl ?_
   exact ⟨X1 (by rw [ht,WH _ hx,h18,Bool.false_and]),H.below⟩
  replace h18:=ZB h18;refine wp_skip (hK6 _ _ (cReg ?_));clear hK6
  refine Xm F rfl rfl (XJ (j:=1) ?_) ?_
  focus omega
  clear F a;intro a F;refine Xl F rfl ?_;clear F a;intro a F;refine sNil ?_
  exact ⟨p.threads.length - (j+1),by omega,_,⟨j+1,rfl,rfl,by omega,by rw [ht,WH _ hx,h18,Bool.true_and],H⟩,F.tt⟩
 replace h12:=of_decide_eq_false h12;refine wp_exit ?_;refine hK2 _ _ (cSR fun K10 hK10=>Xa F rfl (qNK hK10 ?_));clear hK2 hK10;clear F a;intro a F;refine wp_ret ?_;refine bRet results65 F rfl ?_
 exact ⟨X1 (by rw [ht,List.drop_eq_nil_of_le (by omega)];rfl),H.below⟩
theorem ET (w0:World):XbV Tryz.prog (fun l=>decide (l.length≤12)) (.func (.func 71) #[] #[]) w0:=by
 intro w0 _ A C l _ _ hl
 refine ⟨_,[],[],rfl,call71,?_⟩
 have H:=Own.start w0 none
 refine XE func71 rfl ntmps71 rfl (fun a F=>?_);refine cSR fun K1 hK1=>Xa F rfl (qNK hK1 (qSR fun K2 hK2=>Xd rfl (Xs underlying22 rfl (Xj rfl rfl GZ (Xh rfl (qNK hK2 ?_))))));clear hK1 hK2;clear F a;intro a F;refine wp_ret ?_;refine bRet results71 F rfl ?_
 exact ⟨X1 (by rw [Bool.eq_iff_iff];simp;omega),H.below⟩
theorem E5 (V B:Nat) (cs:List Value) (p:Prg) (w0:World) (hP:PvAt w0 V B cs p) (hN:NeedsAt w0):XbV Tryz.prog (XH p.locs.length) (.func (.func 73) #[] #[.pointer (some ⟨V,0,none⟩)]) w0:=by
 intro w0' _ A C l H0 hR hl
 refine ⟨_,[],[.pointer (some ⟨V,0,none⟩)],rfl,call73,?_⟩
 replace hP:=hP.own H0
 replace hN:=hN.own H0
 clear H0 w0
 obtain ⟨w0,rfl⟩:∃ w0,w0=w0':=⟨_,rfl⟩
 obtain ⟨hV,hB,LA,LC,IA,IC,TA,TC,h,ccs,hp⟩:=hP
 have hcs:=hp.cs
 subst hcs
 have H:=Own.start w0 none
 refine XE func73 rfl ntmps73 rfl (fun a F=>?_);refine cSR fun K1 hK1=>Xa F rfl (qNK hK1 (qSR fun K2 hK2=>Xd rfl (Xc isAgg105 rfl (H.arg (hV 0 _ rfl)) (Xk rfl (Xb (f:=1) (k:=1) underlying30 rfl sizeOf24 rfl rfl rfl (Xc isAgg24 rfl (H.arg (hB 1 _ rfl)) (Xs underlying24 rfl ?_)))))));clear hK1;clear F a;intro a F;refine Xn call32 F rfl (Jp A C l p.locs.length _ (RowsAt.own hR H) (hN.own H) hl) (gG H ?_);clear F a H;intro a w F H;refine Xa F rfl (qNK hK2 ?_);clear hK2;clear F a;intro a F;refine wp_ret ?_;refine bRet results73 F rfl ?_
 exact ⟨rfl,H.below⟩
theorem Mq (E V B:Nat) (cs:List Value) (p:Prg) (w0:World) (hP:PvAt w0 V B cs p) (hE:w0.rangeAt E 0 [.func (.func 65) #[] #[.pointer (some ⟨V,0,none⟩)]]) :
   Calls Tryz.prog 70 #[.pointer (some ⟨V,0,none⟩),.pointer (some ⟨E,0,none⟩)] w0 fun e w'=>e = .returned (.bool (XO p))∧Below w0.heap.size w0 w':=by
 have hP0:=hP
 obtain ⟨hV,hB,LA,LC,IA,IC,TA,TC,h,ccs,hp⟩:=hP
 have hcs:=hp.cs
 subst hcs
 have H:=Own.start w0 none
 refine XE func70 rfl ntmps70 rfl (fun a F=>?_);refine cSR fun K1 hK1=>Xa F rfl (qNK hK1 (qSR fun K2 hK2=>Xc isAgg105 rfl (H.arg (hV 0 _ rfl)) (Xk rfl (Xb (f:=3) (k:=3) underlying30 rfl sizeOf25 rfl rfl rfl (Xc isAgg25 rfl (H.arg (hB 3 _ rfl)) (Xs underlying25 rfl (Xj rfl rfl Jc (Xd rfl ?_))))))));clear hK1;clear F a;intro a F
 refine F.split 9 rfl ?_ ?_ <;> (clear F;intro h9 F)
 ·
  replace h9:=of_decide_eq_true h9;refine sLd isAgg105 F rfl rfl rfl (H.arg (hV 0 _ rfl)) (Xk rfl (Xb (f:=3) (k:=3) underlying30 rfl sizeOf25 rfl rfl rfl (Xc isAgg25 rfl (H.arg (hB 3 _ rfl)) (Xs underlying25 rfl (Xj rfl rfl GZ (Xg rfl rfl (Xd rfl ?_)))))));clear F a;intro a F
  refine F.split 17 rfl ?_ ?_ <;> (clear F;intro h17 F)
  ·
   replace h17:=of_decide_eq_true h17;refine sLd isAgg133 F rfl rfl rfl (H.arg (hE 0 _ rfl)) ?_;clear F a;intro a F;refine EZ F rfl rfl rfl call65 rfl (Q6 _ _ V B _ p _ (hP0.own H) (ET _)) (gG H ?_);clear F a H;intro a w F H;refine sPk F rfl rfl rfl rfl (Xh rfl (qNK hK2 ?_));clear hK2;clear F a;intro a F;refine wp_ret ?_;refine bRet results70 F rfl ?_
   exact ⟨X1 (by clear F hP0 hB;simp_all [XO] <;> (intros;omega)),H.below⟩
  replace h17:=of_decide_eq_false h17;refine Xe F (Xf (Xg rfl rfl (Xh rfl (qNK hK2 ?_))));clear hK2;clear F a;intro a F;refine wp_ret ?_;refine bRet results70 F rfl ?_
  exact ⟨X1 (by clear F hP0 hB;simp_all [XO] <;> (intros;omega)),H.below⟩
 replace h9:=of_decide_eq_false h9;refine Xe F (Xf (Xf (Xf (Xf (Xf (Xg rfl rfl (Xd rfl (Xf (Xf (Xg rfl rfl (Xh rfl (qNK hK2 ?_))))))))))));clear hK2;clear F a;intro a F;refine wp_ret ?_;refine bRet results70 F rfl ?_
 exact ⟨X1 (by clear F hP0 hB;simp_all [XO] <;> (intros;omega)),H.below⟩
theorem Mp (E V B:Nat) (cs:List Value) (p:Prg) (w0:World) (hP:PvAt w0 V B cs p) (hN:NeedsAt w0) (hE:w0.rangeAt E 0 [.func (.func 65) #[] #[.pointer (some ⟨V,0,none⟩)]]) :
   Calls Tryz.prog 72 #[.pointer (some ⟨E,0,none⟩),.pointer (some ⟨V,0,none⟩)] w0 fun e w'=>e = .returned (.bool (YC p))∧Below w0.heap.size w0 w':=by
 have H:=Own.start w0 none
 refine XE func72 rfl ntmps72 rfl (fun a F=>?_);refine cSR fun K1 hK1=>Xa F rfl (qNK hK1 (qSR fun K2 hK2=>Xc isAgg133 rfl (H.arg (hE 0 _ rfl)) (qFn rfl rfl rfl rfl ?_)));clear hK1;clear F a;intro a F;refine EZ F rfl rfl rfl call65 rfl (Q6 _ _ V B _ p _ (hP.own H) (E5 V B cs p _ (hP.own H) (hN.own H))) (gG H ?_);clear F a H;intro a w F H;refine Xa F rfl (qNK hK2 ?_);clear hK2;clear F a;intro a F;refine wp_ret ?_;refine bRet results72 F rfl ?_
 exact ⟨rfl,H.below⟩
theorem Mo (V B:Nat) (cs:List Value) (p:Prg) (w0:World) (hP:PvAt w0 V B cs p) :
   Calls Tryz.prog 74 #[.pointer (some ⟨V,0,none⟩)] w0 fun e w'=>e = .returned (.bool (Vh p))∧Below w0.heap.size w0 w':=by
 obtain ⟨hV,hB,LA,LC,IA,IC,TA,TC,h,ccs,hp⟩:=hP
 have hcs:=hp.cs
 subst hcs
 have H:=Own.start w0 none
 refine XE func74 rfl ntmps74 rfl (fun a F=>?_);refine cSR fun K1 hK1=>Xa F rfl (qNK hK1 (qSR fun K2 hK2=>Xc isAgg105 rfl (H.arg (hV 0 _ rfl)) (Xk rfl (Xb (f:=4) (k:=4) underlying30 rfl sizeOf5 rfl rfl rfl (Xc isAgg5 rfl (H.arg (hB 4 _ rfl)) (Xj rfl rfl (XZ (y:=1)) (Xd rfl ?_)))))));clear hK1;clear F a;intro a F
 refine F.split 7 rfl ?_ ?_ <;> (clear F;intro h7 F)
 ·
  replace h7:=Yh h7;refine Xe F (Xf (Xf (Xf (Xf (Xg rfl rfl (Xd rfl (Xf (Xf (Xf (Xf (Xf (Xg rfl rfl (Xh rfl (qNK hK2 ?_))))))))))))));clear hK2;clear F a;intro a F;refine wp_ret ?_;refine bRet results74 F rfl ?_
  exact ⟨X1 (by clear F hB;simp_all [Vh]),H.below⟩
 replace h7:=Yi h7;refine sLd isAgg105 F rfl rfl rfl (H.arg (hV 0 _ rfl)) (Xk rfl (Xb (f:=4) (k:=4) underlying30 rfl sizeOf5 rfl rfl rfl (Xc isAgg5 rfl (H.arg (hB 4 _ rfl)) (Xj rfl rfl (XZ (y:=2)) (Xg rfl rfl (Xd rfl ?_))))));clear F a;intro a F
 refine F.split 14 rfl ?_ ?_ <;> (clear F;intro h14 F)
 ·
  replace h14:=Yh h14;refine Xe F (Xf (Xf (Xf (Xf (Xg rfl rfl (Xh rfl (qNK hK2 ?_)))))));clear hK2;clear F a;intro a F;refine wp_ret ?_;refine bRet results74 F rfl ?_
  exact ⟨X1 (by clear F hB;simp_all [Vh]),H.below⟩
 replace h14:=Yi h14;refine sLd isAgg105 F rfl rfl rfl (H.arg (hV 0 _ rfl)) (Xk rfl (Xb (f:=4) (k:=4) underlying30 rfl sizeOf5 rfl rfl rfl (Xc isAgg5 rfl (H.arg (hB 4 _ rfl)) (Xj rfl rfl (XZ (y:=3)) (Xg rfl rfl (Xh rfl (qNK hK2 ?_)))))));clear hK2;clear F a;intro a F;refine wp_ret ?_;refine bRet results74 F rfl ?_
 exact ⟨X1 (by clear F hB;simp_all [Vh]),H.below⟩
set_option maxRecDepth 10000 in
theorem Mn (V B:Nat) (cs:List Value) (p:Prg) (w0:World) (hP:PvAt w0 V B cs p) :
   Calls Tryz.prog 75 #[.pointer (some ⟨V,0,none⟩)] w0 fun e w'=>e = .returned (.bool (Yk p.threads.length p.locs.length 20 p.cond))∧Below w0.heap.size w0 w':=by
 obtain ⟨hV,hB,LA,LC,IA,IC,TA,TC,h,ccs,hp⟩:=hP
 have hcs:=hp.cs
 subst hcs
 obtain ⟨c0,c1,c2,c3,c4,rfl⟩:=Xat (Zc hp.cond)
 have H:=Own.start w0 none
 refine XE func75 rfl ntmps75 rfl (fun a F=>?_);refine cSR fun K1 hK1=>Xa F rfl (qNK hK1 ?_);clear hK1;clear F a;intro a F;refine cSeq (fun K2 hK2=>?_);refine Nm (by kernel_rfl) H ?_;replace H:=H.drew;refine Xp F rfl (fun w H=>rLd isAgg105 F rfl (H.arg (hV 0 _ rfl))) H qq0 (Xq rfl (fun a F w H=>rNc F rfl) H qq0 (Xq rfl (fun a F w H=>rFa (f:=5) (k:=5) underlying30 rfl sizeOf28 rfl rfl F rfl) H qq0 ?_));clear F a;intro a F
 refine Xp (k:=3) F rfl (fun w H=>rLr underlying28 rfl ?si F rfl (H.argR (XbY hB 5 5))) H (fun _ _ _ h=>h) ?_
 case si=>exact XC sizeOf28
 clear F a;intro a F;refine Xp F rfl (fun w H=>rLd isAgg105 F rfl (H.arg (hV 0 _ rfl))) H qq0 (Xq rfl (fun a F w H=>rNc F rfl) H qq0 (Xq rfl (fun a F w H=>rFa (f:=3) (k:=3) underlying30 rfl sizeOf25 rfl rfl F rfl) H qq0 (Xq rfl (fun a F w H=>rLd isAgg25 F rfl (H.arg (hB 3 _ rfl))) H qq0 (Xq rfl (fun a F w H=>Dg underlying25 F rfl) H qq0 (Xq rfl (fun a F w H=>rLd isAgg105 F rfl (H.arg (hV 0 _ rfl))) H qq0 (Xq rfl (fun a F w H=>rNc F rfl) H qq0 (Xq rfl (fun a F w H=>rFa (f:=1) (k:=1) underlying30 rfl sizeOf24 rfl rfl F rfl) H qq0 (Xq rfl (fun a F w H=>rLd isAgg24 F rfl (H.arg (hB 1 _ rfl))) H qq0 (Xq rfl (fun a F w H=>Dg underlying24 F rfl) H qq0 ?_)))))))));clear F a;intro a F;refine dOne (k:=14) (by kernel_rfl) F rfl (XS call76 F rfl rfl (C6 _ _ h [c0,c1,c2,c3,c4] p.cond _ (CondAt.grown H.grown rfl _ _ _ hp.cond)) ?_);rintro e w ⟨rfl,hb⟩;replace H:=H.grow hb;clear hb;refine ⟨_,rfl,?_⟩;clear F a;intro a F;refine Bh (j:=14) rfl (by kernel_rfl) (by kernel_rfl) H ?_;refine Xp F rfl (fun w H=>rAs F rfl) H qq0 ?_;clear F a;intro a F
 refine BI (k:=16) ?_ rfl
 refine hK2 _ _ ?_;clear hK2;refine wp_ret ?_;refine bRet results75 F rfl ?_
 exact ⟨rfl,H.below⟩
end
end Go.Proofs.YtagnefpgidbhnaaGreatDoor
