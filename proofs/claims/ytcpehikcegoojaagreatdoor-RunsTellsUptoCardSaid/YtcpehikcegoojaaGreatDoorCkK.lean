/-
  Plain Lean: instructions, and when an instruction and a thread are valid. Nothing of the program. Conditions: none.

  Package check: argRight, has, needed, modeRight, fnRight. Conditions: the spot lies in memory; block 0 holds the table of needs.

  Package check: needed, modeRight, fnRight, conditions. Conditions: the spot lies in memory; block 0 holds the table of needs.

  Package check: the conditions of an instruction, as closures. Conditions: the spot lies in memory; block 0 holds the table of needs.

  Package check: Thread. Conditions: the slice holds instructions; block 0 holds the table of needs.

  Plain Lean: conditions and when one is valid; how one lies in memory. Conditions: none.

  Package check: condRight, Cond. Conditions: the condition lies in memory.

  slices.Index and slices.Contains of strings. Conditions: the slice holds the strings.

  Plain Lean: programs, and how one lies in memory. Conditions: none.

  Package check: the demands on a program that read no names. Conditions: the program lies in memory; block 0 holds the table of needs.
-/
import Derived.Test.YtcpehikcegoojaaGreatDoorVcK
set_option linter.unusedSimpArgs false
set_option linter.unusedVariables false
namespace Go.Proofs.YtcpehikcegoojaaGreatDoor
set_option maxRecDepth 100000
open Go.Proofs.Tryz
structure Ins where
 op:UInt8
 dst:UInt8
 loc:UInt8
 aR:Bool
 aN:UInt8
 bR:Bool
 bN:UInt8
 fn:UInt8
 mode:UInt8
 skip:UInt8
deriving DecidableEq
def Ins.cells (x:Ins):List Value:=[b8 x.op,b8 x.dst,b8 x.loc,.bool x.aR,b8 x.aN,.bool x.bR,b8 x.bN,b8 x.fn,b8 x.mode,b8 x.skip]
def XdW (op:UInt8):UInt8:=if op=1 then 35 else if op=2 then 38 else if op=3 then 29 else if op=4 then 7 else if op=5 then 7 else if op=6 then 15 else if op=7 then 32 else if op=8 then 92 else 0
def Qe (op f:UInt8):Bool:=(XdW op &&& f) != 0
def Ins.needed (x:Ins):Ins where
 op:=x.op
 dst:=bif Qe x.op 1 then x.dst else 0
 loc:=bif Qe x.op 2 then x.loc else 0
 aR:=bif Qe x.op 4 then x.aR else false
 aN:=bif Qe x.op 4 then x.aN else 0
 bR:=bif Qe x.op 8 then x.bR else false
 bN:=bif Qe x.op 8 then x.bN else 0
 fn:=bif Qe x.op 16 then x.fn else 0
 mode:=bif Qe x.op 32 then x.mode else 0
 skip:=bif Qe x.op 64 then x.skip else 0
def Mr (r:Bool) (n:UInt8):Bool:=!r || decide (n < 8)
def NF (op mode:UInt8):Bool:=if op=1 then mode == 0 || mode == 1 else if op=2 then mode == 0 || mode == 2 else if op=7 then mode == 3 || mode == 4 || mode == 5 else true
def Xb0 (op fn:UInt8):Bool:=if op=3 then fn == 1 || fn == 2 || fn == 3 else if op=8 then fn == 4 || fn == 5 || fn == 6 else true
def QD (x:Ins) (locs after:Int):Nat→Bool
 | 0=>decide (1≤x.op) && decide (x.op≤8)
 | 1=>x == x.needed
 | 2=>decide (x.dst < 8)
 | 3=>!Qe x.op 2 || decide ((x.loc.toNat:Int) < locs)
 | 4=>Mr x.aR x.aN && Mr x.bR x.bN
 | 5=>NF x.op x.mode
 | 6=>Xb0 x.op x.fn
 | 7=>!Qe x.op 64 || (decide (1≤x.skip) && decide ((x.skip.toNat:Int)≤after))
 | _=>true
def Ma (x:Ins) (locs after:Int):Bool:=(List.range 8).all (QD x locs after)
def Nl (locs:Int) (n:Nat):Nat→List Ins→Bool
 | _,[]=>true
 | i,x :: r=>Ma x locs ((n:Int) - 1 - i) && Nl locs n (i+1) r
def Nj (locs:Int) (l:List Ins):Bool:=decide (l.length≤12) && Nl locs l.length 0 l
section
open Go.RowKit
theorem JZ {a b:Bool} (h:a=b):(Ending.returned (.bool a):Ending) = .returned (.bool b):=by rw [h]
def LE (w:World) (B:Nat) (x:Ins) (locs after:Int):Prop:=w.rangeAt B 0 (x.cells++[.int .i64 locs,.int .i64 after])
def NeedsAt (w:World):Prop:=∀ i:UInt8,i < 9→w.cell? ⟨0,i.toNat,none⟩=some (b8 (XdW i))
theorem NeedsAt.at {w:World} (h:NeedsAt w) (op:UInt8) (ho:op < 9):w.cell? ⟨0,0+op.toNat * 1,none⟩=some (b8 (XdW op)):=by
 rw [Nat.zero_add,Nat.mul_one];exact h op ho
theorem DS (r:Bool) (n:UInt8) (w0:World):Calls Tryz.prog 149 #[.agg #[.bool r,b8 n]] w0 fun e w'=>e = .returned (.bool (Mr r n))∧Below w0.heap.size w0 w':=by
 have H:=Own.start w0 none
 refine JF func149 rfl ntmps149 rfl (fun a F=>?_);refine cSR fun K1 hK1=>?_;refine sBx H F rfl rfl rfl ?_;clear F a H;intro b1 a w F H;refine Xa F rfl (qNK hK1 (qSR fun K2 hK2=>Xr (f:=0) (k:=0) XV rfl YQ rfl rfl rfl (Xc Y6 rfl (H.cell 0 rfl rfl) (Cc rfl rfl rfl (Xh rfl ?_)))));clear hK1;clear F a;intro a F
 refine F.split 6 rfl ?_ ?_ <;> (clear F;intro h6 F)
 ·
  replace h6:=N1 h6;refine XB F (XC (XC (Xy rfl rfl (Xd rfl (qNK hK2 ?_)))));clear hK2;clear F a;intro a F;refine wp_ret ?_;refine JI results149 F rfl ?_
  exact ⟨JZ (by simp_all [Mr]),H.below⟩
 replace h6:=N2 h6;refine Xb (f:=1) (k:=1) XV rfl XH rfl rfl F rfl (Xc XJ rfl (H.cell 0 rfl rfl) (Xe rfl rfl (Eu (y:=8)) (Xy rfl rfl (Xd rfl (qNK hK2 ?_)))));clear hK2;clear F a;intro a F;refine wp_ret ?_;refine JI results149 F rfl ?_
 exact ⟨JZ (by simp_all [Mr]),H.below⟩
theorem M7 (B:Nat) (x:Ins) (locs after:Int) (f:UInt8) (w0:World) (hS:LE w0 B x locs after) (hN:NeedsAt w0) (ho:x.op < 9) :
   Calls Tryz.prog 147 #[.pointer (some ⟨B,0,none⟩),b8 f] w0 fun e w'=>e = .returned (.bool (Qe x.op f))∧Below w0.heap.size w0 w':=by
 have H:=Own.start w0 none
 have hop:x.op.toNat < 9:=ho
 refine JF func147 rfl ntmps147 rfl (fun a F=>?_);refine cSR fun K1 hK1=>Xa F rfl (qNK hK1 (qSR fun K2 hK2=>Xh rfl (qNc rfl rfl rfl (Xr (f:=0) (k:=0) XY rfl XP rfl rfl rfl (Xr (f:=0) (k:=0) XI rfl XH rfl rfl rfl (Xc XJ rfl (H.arg (hS 0 _ rfl)) ?_))))));clear hK1;clear F a;intro a F
 refine sIa underlying217 XH F rfl rfl rfl rfl ?_ ?_
 focus exact hop
 clear F a;intro a F;refine sLd XJ F rfl rfl rfl (H.arg (hN.at _ ho)) (Xh rfl (Xe rfl rfl (bAndB) (Xe rfl rfl (Xba (y:=0)) (Xd rfl (qNK hK2 ?_)))));clear hK2;clear F a;intro a F;refine wp_ret ?_;refine JI results147 F rfl ?_
 exact ⟨rfl,H.below⟩
end
section
open Go.RowKit
theorem E4 {t:TypeId} {x' y':Operand} {x y:Ins} (ht:t=92):Lj Tryz.prog .eql t x' y' (.agg x.cells.toArray) (.agg y.cells.toArray) (.bool (x == y)):=fun w=>by
 subst ht
 simp [Ins.cells,go_sem,XI]
 obtain ⟨x0,x1,x2,x3,x4,x5,x6,x7,x8,x9⟩:=x
 obtain ⟨y0,y1,y2,y3,y4,y5,y6,y7,y8,y9⟩:=y
 simp only [Int.natCast_inj,UInt8.toNat_inj]
 repeat' split
 all_goals
   congr 2
   symm
   simp_all [beq_eq_false_iff_ne]
set_option maxRecDepth 10000 in
theorem XaM (B:Nat) (x:Ins) (locs after:Int) (w0:World) (hS:LE w0 B x locs after):Calls Tryz.prog 150 #[.pointer (some ⟨B,0,none⟩)] w0 fun e w'=>e = .returned (.bool (NF x.op x.mode))∧Below w0.heap.size w0 w':=by
 have H:=Own.start w0 none
 refine JF func150 rfl ntmps150 rfl (fun a F=>?_);refine cSR fun K1 hK1=>Xa F rfl (qNK hK1 ?_);clear hK1;clear F a;intro a F;refine JD (fun K2 hK2=>?_);refine cSR fun K3 hK3=>Xf F rfl (qNc rfl rfl rfl (Xr (f:=0) (k:=0) XY rfl XP rfl rfl rfl (Xr (f:=0) (k:=0) XI rfl XH rfl rfl rfl (Xc XJ rfl (H.arg (hS 0 _ rfl)) (qNK hK3 ?_)))));clear hK3;clear F a;intro a F;refine wp_block ?_;refine cSR fun K4 hK4=>Xg F rfl rfl (JL (y:=1)) (Xd rfl (qNK hK4 ?_));clear hK4;clear F a;intro a F
 refine cIf F rfl (fun h8=>?_) (fun h8=>?_)
 ·
  replace h8:=J1 h8;refine cSR fun K5 hK5=>Xf F rfl (qNc rfl rfl rfl (Xr (f:=0) (k:=0) XY rfl XP rfl rfl rfl (Xr (f:=6) (k:=8) XI rfl XH rfl rfl rfl (Xc XJ rfl (H.arg (hS 8 _ rfl)) (Xe rfl rfl (JL (y:=0)) (Xh rfl ?_))))));clear F a;intro a F
  refine F.split 16 rfl ?_ ?_ <;> (clear F;intro h16 F)
  ·
   replace h16:=J1 h16;refine XB F (XC (XC (XC (XC (XC (Xy rfl rfl (Xd rfl (qNK hK5 ?_))))))));clear hK5;clear F a;intro a F;refine wp_ret ?_;refine xI ?_;refine JI YR F rfl ?_
   exact ⟨JZ (by simp_all [NF]),H.below⟩
  replace h16:=J2 h16;refine Xf F rfl (qNc rfl rfl rfl (Xr (f:=0) (k:=0) XY rfl XP rfl rfl rfl (Xr (f:=6) (k:=8) XI rfl XH rfl rfl rfl (Xc XJ rfl (H.arg (hS 8 _ rfl)) (Xe rfl rfl (JL (y:=1)) (Xy rfl rfl (Xd rfl (qNK hK5 ?_))))))));clear hK5;clear F a;intro a F;refine wp_ret ?_;refine xI ?_;refine JI YR F rfl ?_
  exact ⟨JZ (by simp_all [NF]),H.below⟩
 replace h8:=J2 h8;refine cSR fun K6 hK6=>Xg F rfl rfl (JL (y:=2)) (Xd rfl (qNK hK6 ?_));clear hK6;clear F a;intro a F
 refine cIf F rfl (fun h24=>?_) (fun h24=>?_)
 ·
  replace h24:=J1 h24;refine cSR fun K7 hK7=>Xf F rfl (qNc rfl rfl rfl (Xr (f:=0) (k:=0) XY rfl XP rfl rfl rfl (Xr (f:=6) (k:=8) XI rfl XH rfl rfl rfl (Xc XJ rfl (H.arg (hS 8 _ rfl)) (Xe rfl rfl (JL (y:=0)) (Xh rfl ?_))))));clear F a;intro a F
  refine F.split 32 rfl ?_ ?_ <;> (clear F;intro h32 F)
  ·
   replace h32:=J1 h32;refine XB F (XC (XC (XC (XC (XC (Xy rfl rfl (Xd rfl (qNK hK7 ?_))))))));clear hK7;clear F a;intro a F;refine wp_ret ?_;refine xI ?_;refine JI YR F rfl ?_
   exact ⟨JZ (by simp_all [NF]),H.below⟩
  replace h32:=J2 h32;refine Xf F rfl (qNc rfl rfl rfl (Xr (f:=0) (k:=0) XY rfl XP rfl rfl rfl (Xr (f:=6) (k:=8) XI rfl XH rfl rfl rfl (Xc XJ rfl (H.arg (hS 8 _ rfl)) (Xe rfl rfl (JL (y:=2)) (Xy rfl rfl (Xd rfl (qNK hK7 ?_))))))));clear hK7;clear F a;intro a F;refine wp_ret ?_;refine xI ?_;refine JI YR F rfl ?_
  exact ⟨JZ (by simp_all [NF]),H.below⟩
 replace h24:=J2 h24;refine cSR fun K8 hK8=>Xg F rfl rfl (JL (y:=7)) (Xd rfl (qNK hK8 ?_));clear hK8;clear F a;intro a F
 refine cIf F rfl (fun h40=>?_) (fun h40=>?_)
 ·
  replace h40:=J1 h40;refine cSR fun K9 hK9=>Xf F rfl (qNc rfl rfl rfl (Xr (f:=0) (k:=0) XY rfl XP rfl rfl rfl (Xr (f:=6) (k:=8) XI rfl XH rfl rfl rfl (Xc XJ rfl (H.arg (hS 8 _ rfl)) (Xe rfl rfl (JL (y:=3)) (Xh rfl ?_))))));clear F a;intro a F
  refine F.split 48 rfl ?_ ?_ <;> (clear F;intro h48 F)
  ·
   replace h48:=J1 h48;refine XB F (XC (XC (XC (XC (XC (Xy rfl rfl (Xh rfl (XC (XC (XC (XC (XC (XC (Xy rfl rfl (Xd rfl (qNK hK9 ?_))))))))))))))));clear hK9;clear F a;intro a F;refine wp_ret ?_;refine xI ?_;refine JI YR F rfl ?_
   exact ⟨JZ (by simp_all [NF]),H.below⟩
  replace h48:=J2 h48;refine Xf F rfl (qNc rfl rfl rfl (Xr (f:=0) (k:=0) XY rfl XP rfl rfl rfl (Xr (f:=6) (k:=8) XI rfl XH rfl rfl rfl (Xc XJ rfl (H.arg (hS 8 _ rfl)) (Xe rfl rfl (JL (y:=4)) (Xy rfl rfl (Xh rfl ?_)))))));clear F a;intro a F
  refine F.split 56 rfl ?_ ?_ <;> (clear F;intro h56 F)
  ·
   replace h56:=J1 h56;refine XB F (XC (XC (XC (XC (XC (Xy rfl rfl (Xd rfl (qNK hK9 ?_))))))));clear hK9;clear F a;intro a F;refine wp_ret ?_;refine xI ?_;refine JI YR F rfl ?_
   exact ⟨JZ (by simp_all [NF]),H.below⟩
  replace h56:=J2 h56;refine Xf F rfl (qNc rfl rfl rfl (Xr (f:=0) (k:=0) XY rfl XP rfl rfl rfl (Xr (f:=6) (k:=8) XI rfl XH rfl rfl rfl (Xc XJ rfl (H.arg (hS 8 _ rfl)) (Xe rfl rfl (JL (y:=5)) (Xy rfl rfl (Xd rfl (qNK hK9 ?_))))))));clear hK9;clear F a;intro a F;refine wp_ret ?_;refine xI ?_;refine JI YR F rfl ?_
  exact ⟨JZ (by simp_all [NF]),H.below⟩
 replace h40:=J2 h40;refine wp_skip (hK2 _ _ (cSR fun K10 hK10=>Xa F rfl (qNK hK10 ?_)));clear hK2 hK10;clear F a;intro a F;refine wp_ret ?_;refine JI YR F rfl ?_
 exact ⟨JZ (by simp_all [NF]),H.below⟩
theorem Xc9 (B:Nat) (x:Ins) (locs after:Int) (w0:World) (hS:LE w0 B x locs after):Calls Tryz.prog 151 #[.pointer (some ⟨B,0,none⟩)] w0 fun e w'=>e = .returned (.bool (Xb0 x.op x.fn))∧Below w0.heap.size w0 w':=by
 have H:=Own.start w0 none
 refine JF func151 rfl ntmps151 rfl (fun a F=>?_);refine cSR fun K1 hK1=>Xa F rfl (qNK hK1 ?_);clear hK1;clear F a;intro a F;refine JD (fun K2 hK2=>?_);refine cSR fun K3 hK3=>Xf F rfl (qNc rfl rfl rfl (Xr (f:=0) (k:=0) XY rfl XP rfl rfl rfl (Xr (f:=0) (k:=0) XI rfl XH rfl rfl rfl (Xc XJ rfl (H.arg (hS 0 _ rfl)) (qNK hK3 ?_)))));clear hK3;clear F a;intro a F;refine wp_block ?_;refine cSR fun K4 hK4=>Xg F rfl rfl (JL (y:=3)) (Xd rfl (qNK hK4 ?_));clear hK4;clear F a;intro a F
 refine cIf F rfl (fun h8=>?_) (fun h8=>?_)
 ·
  replace h8:=J1 h8;refine cSR fun K5 hK5=>Xf F rfl (qNc rfl rfl rfl (Xr (f:=0) (k:=0) XY rfl XP rfl rfl rfl (Xr (f:=5) (k:=7) XI rfl XH rfl rfl rfl (Xc XJ rfl (H.arg (hS 7 _ rfl)) (Xe rfl rfl (JL (y:=1)) (Xh rfl ?_))))));clear F a;intro a F
  refine F.split 16 rfl ?_ ?_ <;> (clear F;intro h16 F)
  ·
   replace h16:=J1 h16;refine XB F (XC (XC (XC (XC (XC (Xy rfl rfl (Xh rfl (XC (XC (XC (XC (XC (XC (Xy rfl rfl (Xd rfl (qNK hK5 ?_))))))))))))))));clear hK5;clear F a;intro a F;refine wp_ret ?_;refine xI ?_;refine JI YX F rfl ?_
   exact ⟨JZ (by simp_all [Xb0]),H.below⟩
  replace h16:=J2 h16;refine Xf F rfl (qNc rfl rfl rfl (Xr (f:=0) (k:=0) XY rfl XP rfl rfl rfl (Xr (f:=5) (k:=7) XI rfl XH rfl rfl rfl (Xc XJ rfl (H.arg (hS 7 _ rfl)) (Xe rfl rfl (JL (y:=2)) (Xy rfl rfl (Xh rfl ?_)))))));clear F a;intro a F
  refine F.split 24 rfl ?_ ?_ <;> (clear F;intro h24 F)
  ·
   replace h24:=J1 h24;refine XB F (XC (XC (XC (XC (XC (Xy rfl rfl (Xd rfl (qNK hK5 ?_))))))));clear hK5;clear F a;intro a F;refine wp_ret ?_;refine xI ?_;refine JI YX F rfl ?_
   exact ⟨JZ (by simp_all [Xb0]),H.below⟩
  replace h24:=J2 h24;refine Xf F rfl (qNc rfl rfl rfl (Xr (f:=0) (k:=0) XY rfl XP rfl rfl rfl (Xr (f:=5) (k:=7) XI rfl XH rfl rfl rfl (Xc XJ rfl (H.arg (hS 7 _ rfl)) (Xe rfl rfl (JL (y:=3)) (Xy rfl rfl (Xd rfl (qNK hK5 ?_))))))));clear hK5;clear F a;intro a F;refine wp_ret ?_;refine xI ?_;refine JI YX F rfl ?_
  exact ⟨JZ (by simp_all [Xb0]),H.below⟩
 replace h8:=J2 h8;refine cSR fun K6 hK6=>Xg F rfl rfl (JL (y:=8)) (Xd rfl (qNK hK6 ?_));clear hK6;clear F a;intro a F
 refine cIf F rfl (fun h32=>?_) (fun h32=>?_)
 ·
  replace h32:=J1 h32;refine cSR fun K7 hK7=>Xf F rfl (qNc rfl rfl rfl (Xr (f:=0) (k:=0) XY rfl XP rfl rfl rfl (Xr (f:=5) (k:=7) XI rfl XH rfl rfl rfl (Xc XJ rfl (H.arg (hS 7 _ rfl)) (Xe rfl rfl (JL (y:=4)) (Xh rfl ?_))))));clear F a;intro a F
  refine F.split 40 rfl ?_ ?_ <;> (clear F;intro h40 F)
  ·
   replace h40:=J1 h40;refine XB F (XC (XC (XC (XC (XC (Xy rfl rfl (Xh rfl (XC (XC (XC (XC (XC (XC (Xy rfl rfl (Xd rfl (qNK hK7 ?_))))))))))))))));clear hK7;clear F a;intro a F;refine wp_ret ?_;refine xI ?_;refine JI YX F rfl ?_
   exact ⟨JZ (by simp_all [Xb0]),H.below⟩
  replace h40:=J2 h40;refine Xf F rfl (qNc rfl rfl rfl (Xr (f:=0) (k:=0) XY rfl XP rfl rfl rfl (Xr (f:=5) (k:=7) XI rfl XH rfl rfl rfl (Xc XJ rfl (H.arg (hS 7 _ rfl)) (Xe rfl rfl (JL (y:=5)) (Xy rfl rfl (Xh rfl ?_)))))));clear F a;intro a F
  refine F.split 48 rfl ?_ ?_ <;> (clear F;intro h48 F)
  ·
   replace h48:=J1 h48;refine XB F (XC (XC (XC (XC (XC (Xy rfl rfl (Xd rfl (qNK hK7 ?_))))))));clear hK7;clear F a;intro a F;refine wp_ret ?_;refine xI ?_;refine JI YX F rfl ?_
   exact ⟨JZ (by simp_all [Xb0]),H.below⟩
  replace h48:=J2 h48;refine Xf F rfl (qNc rfl rfl rfl (Xr (f:=0) (k:=0) XY rfl XP rfl rfl rfl (Xr (f:=5) (k:=7) XI rfl XH rfl rfl rfl (Xc XJ rfl (H.arg (hS 7 _ rfl)) (Xe rfl rfl (JL (y:=6)) (Xy rfl rfl (Xd rfl (qNK hK7 ?_))))))));clear hK7;clear F a;intro a F;refine wp_ret ?_;refine xI ?_;refine JI YX F rfl ?_
  exact ⟨JZ (by simp_all [Xb0]),H.below⟩
 replace h32:=J2 h32;refine wp_skip (hK2 _ _ (cSR fun K8 hK8=>Xa F rfl (qNK hK8 ?_)));clear hK2 hK8;clear F a;intro a F;refine wp_ret ?_;refine JI YX F rfl ?_
 exact ⟨JZ (by simp_all [Xb0]),H.below⟩
theorem Xjy {c:Bool} {u:UInt8}:b8 (bif c then u else 0)=bif c then b8 u else .int .u8 0:=by cases c <;> rfl
theorem XbM (x:Ins):x.needed.cells=[b8 x.op,(bif Qe x.op 1 then b8 x.dst else .int .u8 0),(bif Qe x.op 2 then b8 x.loc else .int .u8 0),.bool (bif Qe x.op 4 then x.aR else false),(bif Qe x.op 4 then b8 x.aN else .int .u8 0),.bool (bif Qe x.op 8 then x.bR else false),(bif Qe x.op 8 then b8 x.bN else .int .u8 0),(bif Qe x.op 16 then b8 x.fn else .int .u8 0),(bif Qe x.op 32 then b8 x.mode else .int .u8 0),(bif Qe x.op 64 then b8 x.skip else .int .u8 0)]:=by
 simp only [Ins.cells,Ins.needed,Xjy]
set_option maxHeartbeats 1000000 in
theorem XeD (B:Nat) (x:Ins) (locs after:Int) (w0:World) (hS:LE w0 B x locs after) (hN:NeedsAt w0) (ho:x.op < 9) :
   Calls Tryz.prog 144 #[.pointer (some ⟨B,0,none⟩)] w0 fun e w'=>e = .returned (.agg x.needed.cells.toArray)∧Below w0.heap.size w0 w':=by
 have H:=Own.start w0 none
 rw [XbM];refine JF func144 rfl ntmps144 rfl (fun a F=>?_);refine cSR fun K1 hK1=>?_;refine sAl H Yu F rfl rfl ?_;clear F a H;intro b2 a w F H;refine nK hK1 (cSR fun K2 hK2=>Xf F rfl (qNc rfl rfl rfl (Xr (f:=0) (k:=0) XY rfl XP rfl rfl rfl (Xr (f:=0) (k:=0) XI rfl XH rfl rfl rfl (Xc XJ rfl (H.arg (hS 0 _ rfl)) (qBd (places:=[(0,1),(1,1),(2,1),(3,2),(5,2),(7,1),(8,1),(9,1)]) Yu XI (by kernel_rfl) rfl rfl rfl rfl ?_))))));clear hK1;clear F a;intro a F;refine sAl H Yu F rfl rfl ?_;clear F a H;intro b3 a w F H
 refine sSr H 0 ?si F rfl rfl rfl ?s1 rfl rfl ?_
 case si=>exact Jz XP
 case s1=>rfl
 clear H;intro w H;refine nK hK2 ?_;clear hK2
 refine Mx [0,2,3] (fun ups w=>ups=[]∧Own w0 none w [.blk b3 [b8 x.op,(bif Qe x.op 1 then b8 x.dst else .int .u8 0),.int .u8 0,.bool false,.int .u8 0,.bool false,.int .u8 0,.int .u8 0,.int .u8 0,.int .u8 0] 92,.blk b2 [.int .u8 0,.int .u8 0,.int .u8 0,.bool false,.int .u8 0,.bool false,.int .u8 0,.int .u8 0,.int .u8 0,.int .u8 0] 92]) F ?_ ?_
 ·
  refine cSR fun K3 hK3=>Xf F rfl ?_;clear F a;intro a F;refine Xu Y3 F rfl (M7 B x locs after 1 _ (fun j v hv=>H.arg (hS j v hv)) (fun i hi=>H.arg (hN i hi)) ho) (gG H ?_);clear F a H;intro a w F H;refine nK hK3 ?_;clear hK3
  refine cIf F rfl (fun h11=>?_) (fun h11=>?_)
  ·
   refine JY (Xf F rfl (qNc rfl rfl rfl (Xr (f:=0) (k:=0) XY rfl XP rfl rfl rfl (Xr (f:=1) (k:=1) XI rfl XH rfl rfl rfl (Xc XJ rfl (H.arg (hS 1 _ rfl)) (Xr (f:=1) (k:=1) XI rfl XH rfl rfl rfl ?_))))));clear F a;intro a F;refine sSt H 0 XH F rfl rfl rfl rfl rfl rfl ?_;clear H;intro w H;refine J4 ?_
   exact ⟨[],⟨rfl,by rw [h11];exact H⟩,F.tt⟩
  refine wp_skip ?_
  exact ⟨[],⟨rfl,by rw [h11];exact H⟩,F.tt⟩
 clear F H
 intro ups a w hI F
 obtain ⟨rfl,H⟩:=hI
 refine Mx [0,2,3] (fun ups w=>ups=[]∧Own w0 none w [.blk b3 [b8 x.op,(bif Qe x.op 1 then b8 x.dst else .int .u8 0),(bif Qe x.op 2 then b8 x.loc else .int .u8 0),.bool false,.int .u8 0,.bool false,.int .u8 0,.int .u8 0,.int .u8 0,.int .u8 0] 92,.blk b2 [.int .u8 0,.int .u8 0,.int .u8 0,.bool false,.int .u8 0,.bool false,.int .u8 0,.int .u8 0,.int .u8 0,.int .u8 0] 92]) F ?_ ?_
 ·
  refine cSR fun K4 hK4=>Xf F rfl ?_;clear F a;intro a F;refine Xu Y3 F rfl (M7 B x locs after 2 _ (fun j v hv=>H.arg (hS j v hv)) (fun i hi=>H.arg (hN i hi)) ho) (gG H ?_);clear F a H;intro a w F H;refine nK hK4 ?_;clear hK4
  refine cIf F rfl (fun h19=>?_) (fun h19=>?_)
  ·
   refine JY (Xf F rfl (qNc rfl rfl rfl (Xr (f:=0) (k:=0) XY rfl XP rfl rfl rfl (Xr (f:=2) (k:=2) XI rfl XH rfl rfl rfl (Xc XJ rfl (H.arg (hS 2 _ rfl)) (Xr (f:=2) (k:=2) XI rfl XH rfl rfl rfl ?_))))));clear F a;intro a F;refine sSt H 0 XH F rfl rfl rfl rfl rfl rfl ?_;clear H;intro w H;refine J4 ?_
   exact ⟨[],⟨rfl,by rw [h19];exact H⟩,F.tt⟩
  refine wp_skip ?_
  exact ⟨[],⟨rfl,by rw [h19];exact H⟩,F.tt⟩
 clear F H
 intro ups a w hI F
 obtain ⟨rfl,H⟩:=hI
 refine Mx [0,2,3] (fun ups w=>ups=[]∧Own w0 none w [.blk b3 [b8 x.op,(bif Qe x.op 1 then b8 x.dst else .int .u8 0),(bif Qe x.op 2 then b8 x.loc else .int .u8 0),.bool (bif Qe x.op 4 then x.aR else false),(bif Qe x.op 4 then b8 x.aN else .int .u8 0),.bool false,.int .u8 0,.int .u8 0,.int .u8 0,.int .u8 0] 92,.blk b2 [.int .u8 0,.int .u8 0,.int .u8 0,.bool false,.int .u8 0,.bool false,.int .u8 0,.int .u8 0,.int .u8 0,.int .u8 0] 92]) F ?_ ?_
 ·
  refine cSR fun K5 hK5=>Xf F rfl ?_;clear F a;intro a F;refine Xu Y3 F rfl (M7 B x locs after 4 _ (fun j v hv=>H.arg (hS j v hv)) (fun i hi=>H.arg (hN i hi)) ho) (gG H ?_);clear F a H;intro a w F H;refine nK hK5 ?_;clear hK5
  refine cIf F rfl (fun h27=>?_) (fun h27=>?_)
  ·
   refine JY (Xf F rfl (qNc rfl rfl rfl (Xr (f:=0) (k:=0) XY rfl XP rfl rfl rfl (Xr (f:=3) (k:=3) XI rfl XR rfl rfl rfl ?_))));clear F a;intro a F
   refine Xw XV rfl ?si F rfl (H.argR (Xit hS 3 2)) ?_
   case si=>exact Jz XR
   clear F a;intro a F;refine Xb (f:=3) (k:=3) XI rfl XR rfl rfl F rfl ?_;clear F a;intro a F
   refine sSr H 0 ?si F rfl rfl rfl ?s1 rfl rfl ?_
   case si=>exact Jz XR
   case s1=>rfl
   clear H;intro w H;refine J4 ?_
   exact ⟨[],⟨rfl,by rw [h27];exact H⟩,F.tt⟩
  refine wp_skip ?_
  exact ⟨[],⟨rfl,by rw [h27];exact H⟩,F.tt⟩
 clear F H
 intro ups a w hI F
 obtain ⟨rfl,H⟩:=hI
 refine Mx [0,2,3] (fun ups w=>ups=[]∧Own w0 none w [.blk b3 [b8 x.op,(bif Qe x.op 1 then b8 x.dst else .int .u8 0),(bif Qe x.op 2 then b8 x.loc else .int .u8 0),.bool (bif Qe x.op 4 then x.aR else false),(bif Qe x.op 4 then b8 x.aN else .int .u8 0),.bool (bif Qe x.op 8 then x.bR else false),(bif Qe x.op 8 then b8 x.bN else .int .u8 0),.int .u8 0,.int .u8 0,.int .u8 0] 92,.blk b2 [.int .u8 0,.int .u8 0,.int .u8 0,.bool false,.int .u8 0,.bool false,.int .u8 0,.int .u8 0,.int .u8 0,.int .u8 0] 92]) F ?_ ?_
 ·
  refine cSR fun K6 hK6=>Xf F rfl ?_;clear F a;intro a F;refine Xu Y3 F rfl (M7 B x locs after 8 _ (fun j v hv=>H.arg (hS j v hv)) (fun i hi=>H.arg (hN i hi)) ho) (gG H ?_);clear F a H;intro a w F H;refine nK hK6 ?_;clear hK6
  refine cIf F rfl (fun h35=>?_) (fun h35=>?_)
  ·
   refine JY (Xf F rfl (qNc rfl rfl rfl (Xr (f:=0) (k:=0) XY rfl XP rfl rfl rfl (Xr (f:=4) (k:=5) XI rfl XR rfl rfl rfl ?_))));clear F a;intro a F
   refine Xw XV rfl ?si F rfl (H.argR (Xit hS 5 2)) ?_
   case si=>exact Jz XR
   clear F a;intro a F;refine Xb (f:=4) (k:=5) XI rfl XR rfl rfl F rfl ?_;clear F a;intro a F
   refine sSr H 0 ?si F rfl rfl rfl ?s1 rfl rfl ?_
   case si=>exact Jz XR
   case s1=>rfl
   clear H;intro w H;refine J4 ?_
   exact ⟨[],⟨rfl,by rw [h35];exact H⟩,F.tt⟩
  refine wp_skip ?_
  exact ⟨[],⟨rfl,by rw [h35];exact H⟩,F.tt⟩
 clear F H
 intro ups a w hI F
 obtain ⟨rfl,H⟩:=hI
 refine Mx [0,2,3] (fun ups w=>ups=[]∧Own w0 none w [.blk b3 [b8 x.op,(bif Qe x.op 1 then b8 x.dst else .int .u8 0),(bif Qe x.op 2 then b8 x.loc else .int .u8 0),.bool (bif Qe x.op 4 then x.aR else false),(bif Qe x.op 4 then b8 x.aN else .int .u8 0),.bool (bif Qe x.op 8 then x.bR else false),(bif Qe x.op 8 then b8 x.bN else .int .u8 0),(bif Qe x.op 16 then b8 x.fn else .int .u8 0),.int .u8 0,.int .u8 0] 92,.blk b2 [.int .u8 0,.int .u8 0,.int .u8 0,.bool false,.int .u8 0,.bool false,.int .u8 0,.int .u8 0,.int .u8 0,.int .u8 0] 92]) F ?_ ?_
 ·
  refine cSR fun K7 hK7=>Xf F rfl ?_;clear F a;intro a F;refine Xu Y3 F rfl (M7 B x locs after 16 _ (fun j v hv=>H.arg (hS j v hv)) (fun i hi=>H.arg (hN i hi)) ho) (gG H ?_);clear F a H;intro a w F H;refine nK hK7 ?_;clear hK7
  refine cIf F rfl (fun h43=>?_) (fun h43=>?_)
  ·
   refine JY (Xf F rfl (qNc rfl rfl rfl (Xr (f:=0) (k:=0) XY rfl XP rfl rfl rfl (Xr (f:=5) (k:=7) XI rfl XH rfl rfl rfl (Xc XJ rfl (H.arg (hS 7 _ rfl)) (Xr (f:=5) (k:=7) XI rfl XH rfl rfl rfl ?_))))));clear F a;intro a F;refine sSt H 0 XH F rfl rfl rfl rfl rfl rfl ?_;clear H;intro w H;refine J4 ?_
   exact ⟨[],⟨rfl,by rw [h43];exact H⟩,F.tt⟩
  refine wp_skip ?_
  exact ⟨[],⟨rfl,by rw [h43];exact H⟩,F.tt⟩
 clear F H
 intro ups a w hI F
 obtain ⟨rfl,H⟩:=hI
 refine Mx [0,2,3] (fun ups w=>ups=[]∧Own w0 none w [.blk b3 [b8 x.op,(bif Qe x.op 1 then b8 x.dst else .int .u8 0),(bif Qe x.op 2 then b8 x.loc else .int .u8 0),.bool (bif Qe x.op 4 then x.aR else false),(bif Qe x.op 4 then b8 x.aN else .int .u8 0),.bool (bif Qe x.op 8 then x.bR else false),(bif Qe x.op 8 then b8 x.bN else .int .u8 0),(bif Qe x.op 16 then b8 x.fn else .int .u8 0),(bif Qe x.op 32 then b8 x.mode else .int .u8 0),.int .u8 0] 92,.blk b2 [.int .u8 0,.int .u8 0,.int .u8 0,.bool false,.int .u8 0,.bool false,.int .u8 0,.int .u8 0,.int .u8 0,.int .u8 0] 92]) F ?_ ?_
 ·
  refine cSR fun K8 hK8=>Xf F rfl ?_;clear F a;intro a F;refine Xu Y3 F rfl (M7 B x locs after 32 _ (fun j v hv=>H.arg (hS j v hv)) (fun i hi=>H.arg (hN i hi)) ho) (gG H ?_);clear F a H;intro a w F H;refine nK hK8 ?_;clear hK8
  refine cIf F rfl (fun h51=>?_) (fun h51=>?_)
  ·
   refine JY (Xf F rfl (qNc rfl rfl rfl (Xr (f:=0) (k:=0) XY rfl XP rfl rfl rfl (Xr (f:=6) (k:=8) XI rfl XH rfl rfl rfl (Xc XJ rfl (H.arg (hS 8 _ rfl)) (Xr (f:=6) (k:=8) XI rfl XH rfl rfl rfl ?_))))));clear F a;intro a F;refine sSt H 0 XH F rfl rfl rfl rfl rfl rfl ?_;clear H;intro w H;refine J4 ?_
   exact ⟨[],⟨rfl,by rw [h51];exact H⟩,F.tt⟩
  refine wp_skip ?_
  exact ⟨[],⟨rfl,by rw [h51];exact H⟩,F.tt⟩
 clear F H
 intro ups a w hI F
 obtain ⟨rfl,H⟩:=hI
 refine Mx [2,3] (fun ups w=>ups=[]∧Own w0 none w [.blk b3 [b8 x.op,(bif Qe x.op 1 then b8 x.dst else .int .u8 0),(bif Qe x.op 2 then b8 x.loc else .int .u8 0),.bool (bif Qe x.op 4 then x.aR else false),(bif Qe x.op 4 then b8 x.aN else .int .u8 0),.bool (bif Qe x.op 8 then x.bR else false),(bif Qe x.op 8 then b8 x.bN else .int .u8 0),(bif Qe x.op 16 then b8 x.fn else .int .u8 0),(bif Qe x.op 32 then b8 x.mode else .int .u8 0),(bif Qe x.op 64 then b8 x.skip else .int .u8 0)] 92,.blk b2 [.int .u8 0,.int .u8 0,.int .u8 0,.bool false,.int .u8 0,.bool false,.int .u8 0,.int .u8 0,.int .u8 0,.int .u8 0] 92]) F ?_ ?_
 ·
  refine cSR fun K9 hK9=>Xf F rfl ?_;clear F a;intro a F;refine Xu Y3 F rfl (M7 B x locs after 64 _ (fun j v hv=>H.arg (hS j v hv)) (fun i hi=>H.arg (hN i hi)) ho) (gG H ?_);clear F a H;intro a w F H;refine nK hK9 ?_;clear hK9
  refine cIf F rfl (fun h59=>?_) (fun h59=>?_)
  ·
   refine JY (Xf F rfl (qNc rfl rfl rfl (Xr (f:=0) (k:=0) XY rfl XP rfl rfl rfl (Xr (f:=7) (k:=9) XI rfl XH rfl rfl rfl (Xc XJ rfl (H.arg (hS 9 _ rfl)) (Xr (f:=7) (k:=9) XI rfl XH rfl rfl rfl ?_))))));clear F a;intro a F;refine sSt H 0 XH F rfl rfl rfl rfl rfl rfl ?_;clear H;intro w H;refine J4 ?_
   exact ⟨[],⟨rfl,by rw [h59];exact H⟩,F.tt⟩
  refine wp_skip ?_
  exact ⟨[],⟨rfl,by rw [h59];exact H⟩,F.tt⟩
 clear F H
 intro ups a w hI F
 obtain ⟨rfl,H⟩:=hI
 refine cSR fun K10 hK10=>?_
 refine Xw XI rfl ?si F rfl (H.range 0 rfl _ 10) ?_
 case si=>exact Jz XP
 clear F a;intro a F
 refine sSr H 1 ?si F rfl rfl rfl ?s1 rfl rfl ?_
 case si=>exact Jz XP
 case s1=>(repeat (first | exact XfQ | (apply XdQ;· first | rfl | assumption | exact XfR rfl rfl)))
 clear H;intro w H;refine nK hK10 ?_;clear hK10;refine wp_ret ?_;refine bodyPost_ret (v:=.agg (List.toArray [b8 x.op,(bif Qe x.op 1 then b8 x.dst else .int .u8 0),(bif Qe x.op 2 then b8 x.loc else .int .u8 0),.bool (bif Qe x.op 4 then x.aR else false),(bif Qe x.op 4 then b8 x.aN else .int .u8 0),.bool (bif Qe x.op 8 then x.bR else false),(bif Qe x.op 8 then b8 x.bN else .int .u8 0),(bif Qe x.op 16 then b8 x.fn else .int .u8 0),(bif Qe x.op 32 then b8 x.mode else .int .u8 0),(bif Qe x.op 64 then b8 x.skip else .int .u8 0)])) (Bv results144 F rfl XI rfl (Jz XP) (H.blk 1 rfl)) F.nod ?_
 exact ⟨rfl,H.below⟩
end
section
open Go.RowKit
def En (B V:Nat):List Value:=[.func (.func 142) #[] #[.pointer (some ⟨V,0,none⟩)],.func (.func 143) #[] #[.pointer (some ⟨V,0,none⟩)],
 .func (.func 145) #[] #[.pointer (some ⟨V,0,none⟩)],.func (.func 146) #[] #[.pointer (some ⟨V,0,none⟩)],.func (.func 148) #[] #[.pointer (some ⟨V,0,none⟩)],
 .func (.func 150) #[.pointer (some ⟨B,0,none⟩)] #[],.func (.func 151) #[.pointer (some ⟨B,0,none⟩)] #[],.func (.func 152) #[] #[.pointer (some ⟨V,0,none⟩)]]
theorem Cm (B:Nat) (w0:World) :
   Calls Tryz.prog 132 #[.pointer (some ⟨B,0,none⟩)] w0 fun e w'=>∃ V F,e = .returned (.slice (some ⟨F,0,none⟩) 8 8)∧Own w0 none w' [.blk F (En B V) 35,.blk V [.pointer (some ⟨B,0,none⟩)] 210]:=by
 have H:=Own.start w0 none
 refine JF func132 rfl ntmps132 rfl (fun a F=>?_);refine cSR fun K1 hK1=>?_;refine sBx H F rfl rfl rfl ?_;clear F a H;intro b1 a w F H;refine Xa F rfl (qNK hK1 (qSR fun K2 hK2=>qFn rfl rfl rfl rfl (qFn rfl rfl rfl rfl (qFn rfl rfl rfl rfl (qFn rfl rfl rfl rfl (qFn rfl rfl rfl rfl (Xc YF rfl (H.cell 0 rfl rfl) (qFn rfl rfl rfl rfl (Xc YF rfl (H.cell 0 rfl rfl) (qFn rfl rfl rfl rfl (qFn rfl rfl rfl rfl ?_)))))))))));clear hK1;clear F a;intro a F;refine sBs H underlying191 sizeOf35 zeroValue35 rfl F rfl rfl rfl rfl rfl ?_;clear F a H;intro b13 a w F H;refine Xa F rfl (qNK hK2 ?_);clear hK2;clear F a;intro a F;refine wp_ret ?_;refine JI results132 F rfl ?_
 exact ⟨_,_,rfl,H⟩
def XdA (w:World) (V B:Nat):Prop:=w.rangeAt V 0 [.pointer (some ⟨B,0,none⟩)]
theorem XgR (V B:Nat) (x:Ins) (locs after:Int) (w0:World) (hV:XdA w0 V B) (hS:LE w0 B x locs after) :
   Calls Tryz.prog 142 #[.pointer (some ⟨V,0,none⟩)] w0 fun e w'=>e = .returned (.bool (QD x locs after 0))∧Below w0.heap.size w0 w':=by
 have H:=Own.start w0 none
 refine JF func142 rfl ntmps142 rfl (fun a F=>?_);refine cSR fun K1 hK1=>Xa F rfl (qNK hK1 (qSR fun K2 hK2=>Xc YF rfl (H.arg (hV 0 _ rfl)) (qNc rfl rfl rfl (Xr (f:=0) (k:=0) XY rfl XP rfl rfl rfl (Xr (f:=0) (k:=0) XI rfl XH rfl rfl rfl (Xc XJ rfl (H.arg (hS 0 _ rfl)) (Xe rfl rfl (Xcq (y:=1)) (Xh rfl ?_))))))));clear hK1;clear F a;intro a F
 refine F.split 8 rfl ?_ ?_ <;> (clear F;intro h8 F)
 ·
  replace h8:=of_decide_eq_true h8;refine sLd YF F rfl rfl rfl (H.arg (hV 0 _ rfl)) (qNc rfl rfl rfl (Xr (f:=0) (k:=0) XY rfl XP rfl rfl rfl (Xr (f:=0) (k:=0) XI rfl XH rfl rfl rfl (Xc XJ rfl (H.arg (hS 0 _ rfl)) (Xe rfl rfl (Xdz (y:=8)) (Xy rfl rfl (Xd rfl (qNK hK2 ?_))))))));clear hK2;clear F a;intro a F;refine wp_ret ?_;refine JI results142 F rfl ?_
  exact ⟨JZ (by simp_all [QD]),H.below⟩
 replace h8:=of_decide_eq_false h8;refine XB F (XC (XC (XC (XC (XC (Xy rfl rfl (Xd rfl (qNK hK2 ?_))))))));clear hK2;clear F a;intro a F;refine wp_ret ?_;refine JI results142 F rfl ?_
 exact ⟨JZ (by simp_all [QD]),H.below⟩
set_option maxRecDepth 10000 in
theorem XgQ (V B:Nat) (x:Ins) (locs after:Int) (w0:World) (hV:XdA w0 V B) (hS:LE w0 B x locs after) (hN:NeedsAt w0) (ho:x.op < 9) :
   Calls Tryz.prog 143 #[.pointer (some ⟨V,0,none⟩)] w0 fun e w'=>e = .returned (.bool (QD x locs after 1))∧Below w0.heap.size w0 w':=by
 have H:=Own.start w0 none
 refine JF func143 rfl ntmps143 rfl (fun a F=>?_);refine cSR fun K1 hK1=>Xa F rfl (qNK hK1 ?_);clear hK1;clear F a;intro a F;refine JD (fun K2 hK2=>?_);refine B6 (by kernel_rfl) H ?_;replace H:=H.drew;refine XD F rfl (fun w H=>rLd YF F rfl (H.arg (hV 0 _ rfl))) H qq0 (XE rfl (fun a F w H=>rNc F rfl) H qq0 (XE rfl (fun a F w H=>rFa (f:=0) (k:=0) XY rfl XP rfl rfl F rfl) H qq0 ?_));clear F a;intro a F
 refine XD (k:=3) F rfl (fun w H=>rLr XI rfl ?si F rfl (H.argR (Xit hS 0 10))) H (fun _ _ _ h=>h) ?_
 case si=>exact Jz XP
 clear F a;intro a F;refine XD F rfl (fun w H=>rLd YF F rfl (H.arg (hV 0 _ rfl))) H qq0 ?_;clear F a;intro a F;refine dOne (k:=5) (by kernel_rfl) F rfl (J3 call144 F rfl rfl (XeD B x locs after _ (fun j v hv=>H.arg (hS j v hv)) (fun i hi=>H.arg (hN i hi)) ho) (gG H ?_));clear F a H;intro a w F H;refine dOnO (j:=5) rfl (by kernel_rfl) H H (fun w h=>h) ?_;refine XD F rfl (fun w H=>Q0 F rfl rfl (E4 (x:=x) (y:=x.needed) rfl)) H qq0 (XE rfl (fun a F w H=>rAs F rfl) H qq0 ?_);clear F a;intro a F
 refine Xe5 (k:=8) ?_ rfl
 refine hK2 _ _ ?_;clear hK2;refine wp_ret ?_;refine JI results143 F rfl ?_
 exact ⟨rfl,H.below⟩
theorem XgP (V B:Nat) (x:Ins) (locs after:Int) (w0:World) (hV:XdA w0 V B) (hS:LE w0 B x locs after) :
   Calls Tryz.prog 145 #[.pointer (some ⟨V,0,none⟩)] w0 fun e w'=>e = .returned (.bool (QD x locs after 2))∧Below w0.heap.size w0 w':=by
 have H:=Own.start w0 none
 refine JF func145 rfl ntmps145 rfl (fun a F=>?_);refine cSR fun K1 hK1=>Xa F rfl (qNK hK1 (qSR fun K2 hK2=>Xc YF rfl (H.arg (hV 0 _ rfl)) (qNc rfl rfl rfl (Xr (f:=0) (k:=0) XY rfl XP rfl rfl rfl (Xr (f:=1) (k:=1) XI rfl XH rfl rfl rfl (Xc XJ rfl (H.arg (hS 1 _ rfl)) (Xe rfl rfl (Eu (y:=8)) (Xd rfl (qNK hK2 ?_)))))))));clear hK1 hK2;clear F a;intro a F;refine wp_ret ?_;refine JI results145 F rfl ?_
 exact ⟨rfl,H.below⟩
set_option maxRecDepth 10000 in
theorem XgO (V B:Nat) (x:Ins) (locs after:Int) (w0:World) (hV:XdA w0 V B) (hS:LE w0 B x locs after) (hN:NeedsAt w0) (ho:x.op < 9) :
   Calls Tryz.prog 146 #[.pointer (some ⟨V,0,none⟩)] w0 fun e w'=>e = .returned (.bool (QD x locs after 3))∧Below w0.heap.size w0 w':=by
 have H:=Own.start w0 none
 refine JF func146 rfl ntmps146 rfl (fun a F=>?_);refine cSR fun K1 hK1=>Xa F rfl (qNK hK1 ?_);clear hK1;clear F a;intro a F;refine JD (fun K2 hK2=>?_);refine B6 (by kernel_rfl) H ?_;replace H:=H.drew;refine XD F rfl (fun w H=>rLd YF F rfl (H.arg (hV 0 _ rfl))) H qq0 ?_;clear F a;intro a F;refine dOne (k:=1) (by kernel_rfl) F rfl (J3 Y3 F rfl rfl (M7 B x locs after 2 _ (fun j v hv=>H.arg (hS j v hv)) (fun i hi=>H.arg (hN i hi)) ho) (gG H ?_));clear F a H;intro a w F H;refine XgK (j:=1) rfl (by kernel_rfl) (by kernel_rfl) H ?_;refine XD F rfl (fun w H=>Xg5 F rfl) H qq0 (XE rfl (fun a F w H=>rMv F rfl) H qq0 ?_);clear F a;intro a F
 refine F.split 5 rfl ?_ ?_ <;> (clear F;intro h5 F)
 ·
  replace h5:=N1 h5;refine XeT (by kernel_rfl) (by kernel_rfl) F rfl rfl rfl H qq0 (XF rfl H qq0 (XF rfl H qq0 (XF rfl H qq0 (XF rfl H qq0 (XF rfl H qq0 (XF rfl H qq0 (XF rfl H qq0 (XF rfl H qq0 (XF rfl H qq0 (XF rfl H qq0 (XE rfl (fun a F w H=>rPk F rfl rfl) H qq0 (XE rfl (fun a F w H=>rAs F rfl) H qq0 ?_))))))))))));clear F a;intro a F
  refine Xe5 (k:=17) ?_ rfl
  refine hK2 _ _ ?_;clear hK2;refine wp_ret ?_;refine JI results146 F rfl ?_
  exact ⟨JZ (by simp_all [QD]),H.below⟩
 replace h5:=N2 h5;refine XD F rfl (fun w H=>rLd YF F rfl (H.arg (hV 0 _ rfl))) H qq0 (XE rfl (fun a F w H=>rNc F rfl) H qq0 (XE rfl (fun a F w H=>rFa (f:=0) (k:=0) XY rfl XP rfl rfl F rfl) H qq0 (XE rfl (fun a F w H=>rFa (f:=2) (k:=2) XI rfl XH rfl rfl F rfl) H qq0 (XE rfl (fun a F w H=>rLd XJ F rfl (H.arg (hS 2 _ rfl))) H qq0 (XE rfl (fun a F w H=>rCv XO XT F rfl (QG _)) H qq0 (XE rfl (fun a F w H=>rLd YF F rfl (H.arg (hV 0 _ rfl))) H qq0 (XE rfl (fun a F w H=>rNc F rfl) H qq0 (XE rfl (fun a F w H=>rFa (f:=1) (k:=10) XY rfl YW rfl rfl F rfl) H qq0 (XE rfl (fun a F w H=>rLd isAgg3 F rfl (H.arg (hS 10 _ rfl))) H qq0 (XE rfl (fun a F w H=>Q0 F rfl rfl QF) H qq0 (XE rfl (fun a F w H=>rPk F rfl rfl) H qq0 (XE rfl (fun a F w H=>rAs F rfl) H qq0 ?_))))))))))));clear F a;intro a F
 refine Xe5 (k:=17) ?_ rfl
 refine hK2 _ _ ?_;clear hK2;refine wp_ret ?_;refine JI results146 F rfl ?_
 exact ⟨JZ (by simp_all [QD]),H.below⟩
theorem XgN (V B:Nat) (x:Ins) (locs after:Int) (w0:World) (hV:XdA w0 V B) (hS:LE w0 B x locs after) :
   Calls Tryz.prog 148 #[.pointer (some ⟨V,0,none⟩)] w0 fun e w'=>e = .returned (.bool (QD x locs after 4))∧Below w0.heap.size w0 w':=by
 have H:=Own.start w0 none
 refine JF func148 rfl ntmps148 rfl (fun a F=>?_);refine cSR fun K1 hK1=>Xa F rfl (qNK hK1 (qSR fun K2 hK2=>Xc YF rfl (H.arg (hV 0 _ rfl)) (qNc rfl rfl rfl (Xr (f:=0) (k:=0) XY rfl XP rfl rfl rfl (Xr (f:=3) (k:=3) XI rfl XR rfl rfl rfl ?_)))));clear hK1;clear F a;intro a F
 refine Xw XV rfl ?si F rfl (H.argR (Xit hS 3 2)) ?_
 case si=>exact Jz XR
 clear F a;intro a F;refine Xu call149 F rfl (DS x.aR x.aN _) (gG H ?_);clear F a H;intro a w F H;refine Xf F rfl ?_;clear F a;intro a F
 refine F.split 8 rfl ?_ ?_ <;> (clear F;intro h8 F)
 ·
  refine sLd YF F rfl rfl rfl (H.arg (hV 0 _ rfl)) (qNc rfl rfl rfl (Xr (f:=0) (k:=0) XY rfl XP rfl rfl rfl (Xr (f:=4) (k:=5) XI rfl XR rfl rfl rfl ?_)));clear F a;intro a F
  refine Xw XV rfl ?si F rfl (H.argR (Xit hS 5 2)) ?_
  case si=>exact Jz XR
  clear F a;intro a F;refine Xu call149 F rfl (DS x.bR x.bN _) (gG H ?_);clear F a H;intro a w F H;refine sPk F rfl rfl rfl rfl (Xd rfl (qNK hK2 ?_));clear hK2;clear F a;intro a F;refine wp_ret ?_;refine JI results148 F rfl ?_
  exact ⟨JZ (by simp_all [QD]),H.below⟩
 refine XB F (XC (XC (XC (XC (XC (Xy rfl rfl (Xd rfl (qNK hK2 ?_))))))));clear hK2;clear F a;intro a F;refine wp_ret ?_;refine JI results148 F rfl ?_
 exact ⟨JZ (by simp_all [QD]),H.below⟩
set_option maxRecDepth 10000 in
theorem XgM (V B:Nat) (x:Ins) (locs after:Int) (w0:World) (hV:XdA w0 V B) (hS:LE w0 B x locs after) (hN:NeedsAt w0) (ho:x.op < 9) :
   Calls Tryz.prog 152 #[.pointer (some ⟨V,0,none⟩)] w0 fun e w'=>e = .returned (.bool (QD x locs after 7))∧Below w0.heap.size w0 w':=by
 have H:=Own.start w0 none
 refine JF func152 rfl ntmps152 rfl (fun a F=>?_);refine cSR fun K1 hK1=>Xa F rfl (qNK hK1 ?_);clear hK1;clear F a;intro a F;refine JD (fun K2 hK2=>?_);refine B6 (by kernel_rfl) H ?_;replace H:=H.drew;refine XD F rfl (fun w H=>rLd YF F rfl (H.arg (hV 0 _ rfl))) H qq0 ?_;clear F a;intro a F;refine dOne (k:=1) (by kernel_rfl) F rfl (J3 Y3 F rfl rfl (M7 B x locs after 64 _ (fun j v hv=>H.arg (hS j v hv)) (fun i hi=>H.arg (hN i hi)) ho) (gG H ?_));clear F a H;intro a w F H;refine XgK (j:=1) rfl (by kernel_rfl) (by kernel_rfl) H ?_;refine XD F rfl (fun w H=>Xg5 F rfl) H qq0 (XE rfl (fun a F w H=>rMv F rfl) H qq0 ?_);clear F a;intro a F
 refine F.split 5 rfl ?_ ?_ <;> (clear F;intro h5 F)
 ·
  replace h5:=N1 h5;refine XeT (by kernel_rfl) (by kernel_rfl) F rfl rfl rfl H qq0 (XF rfl H qq0 (XF rfl H qq0 (XF rfl H qq0 (XF rfl H qq0 (XF rfl H qq0 (XF rfl H qq0 (XF rfl H qq0 (XF rfl H qq0 (XF rfl H qq0 (XF rfl H qq0 (XF rfl H qq0 (XF rfl H qq0 (XF rfl H qq0 (XF rfl H qq0 (XF rfl H qq0 (XF rfl H qq0 (XF rfl H qq0 (XF rfl H qq0 (XE rfl (fun a F w H=>rPk F rfl rfl) H qq0 (XE rfl (fun a F w H=>rAs F rfl) H qq0 ?_))))))))))))))))))));clear F a;intro a F
  refine Xe5 (k:=25) ?_ rfl
  refine hK2 _ _ ?_;clear hK2;refine wp_ret ?_;refine JI results152 F rfl ?_
  exact ⟨JZ (by simp_all [QD]),H.below⟩
 replace h5:=N2 h5;refine XD F rfl (fun w H=>rLd YF F rfl (H.arg (hV 0 _ rfl))) H qq0 (XE rfl (fun a F w H=>rNc F rfl) H qq0 (XE rfl (fun a F w H=>rFa (f:=0) (k:=0) XY rfl XP rfl rfl F rfl) H qq0 (XE rfl (fun a F w H=>rFa (f:=7) (k:=9) XI rfl XH rfl rfl F rfl) H qq0 (XE rfl (fun a F w H=>rLd XJ F rfl (H.arg (hS 9 _ rfl))) H qq0 (XE rfl (fun a F w H=>Q0 F rfl rfl (Xcq (y:=1))) H qq0 (XE rfl (fun a F w H=>rMv F rfl) H qq0 ?_))))));clear F a;intro a F
 refine F.split 12 rfl ?_ ?_ <;> (clear F;intro h12 F)
 ·
  replace h12:=of_decide_eq_true h12;refine XD F rfl (fun w H=>rLd YF F rfl (H.arg (hV 0 _ rfl))) H qq0 (XE rfl (fun a F w H=>rNc F rfl) H qq0 (XE rfl (fun a F w H=>rFa (f:=0) (k:=0) XY rfl XP rfl rfl F rfl) H qq0 (XE rfl (fun a F w H=>rFa (f:=7) (k:=9) XI rfl XH rfl rfl F rfl) H qq0 (XE rfl (fun a F w H=>rLd XJ F rfl (H.arg (hS 9 _ rfl))) H qq0 (XE rfl (fun a F w H=>rCv XO XT F rfl (QG _)) H qq0 (XE rfl (fun a F w H=>rLd YF F rfl (H.arg (hV 0 _ rfl))) H qq0 (XE rfl (fun a F w H=>rNc F rfl) H qq0 (XE rfl (fun a F w H=>rFa (f:=2) (k:=11) XY rfl YW rfl rfl F rfl) H qq0 (XE rfl (fun a F w H=>rLd isAgg3 F rfl (H.arg (hS 11 _ rfl))) H qq0 (XE rfl (fun a F w H=>Q0 F rfl rfl XjE) H qq0 (XE rfl (fun a F w H=>rPk F rfl rfl) H qq0 (XE rfl (fun a F w H=>rPk F rfl rfl) H qq0 (XE rfl (fun a F w H=>rAs F rfl) H qq0 ?_)))))))))))));clear F a;intro a F
  refine Xe5 (k:=25) ?_ rfl
  refine hK2 _ _ ?_;clear hK2;refine wp_ret ?_;refine JI results152 F rfl ?_
  exact ⟨JZ (by simp_all [QD]),H.below⟩
 replace h12:=of_decide_eq_false h12;refine XeT (by kernel_rfl) (by kernel_rfl) F rfl rfl rfl H qq0 (XF rfl H qq0 (XF rfl H qq0 (XF rfl H qq0 (XF rfl H qq0 (XF rfl H qq0 (XF rfl H qq0 (XF rfl H qq0 (XF rfl H qq0 (XF rfl H qq0 (XF rfl H qq0 (XE rfl (fun a F w H=>rPk F rfl rfl) H qq0 (XE rfl (fun a F w H=>rPk F rfl rfl) H qq0 (XE rfl (fun a F w H=>rAs F rfl) H qq0 ?_)))))))))))));clear F a;intro a F
 refine Xe5 (k:=25) ?_ rfl
 refine hK2 _ _ ?_;clear hK2;refine wp_ret ?_;refine JI results152 F rfl ?_
 exact ⟨JZ (by simp_all [QD]),H.below⟩
end
section
open Go.RowKit
theorem XgL (k V B:Nat) (v:Value) (x:Ins) (locs after:Int) (w0:World) (hV:XdA w0 V B) (hS:LE w0 B x locs after) (hN:NeedsAt w0) (hk:(En B V)[k]? = some v) (hp:∀ j,j < k→QD x locs after j=true) :
   L4 Tryz.prog v [] w0 (fun e w'=>e = .returned (.bool (QD x locs after k))∧Below w0.heap.size w0 w'):=by
 have ho:0 < k→x.op < 9:=fun h=>by
   have h0:=hp 0 h
   simp only [QD,Bool.and_eq_true,decide_eq_true_eq] at h0
   have:=UInt8.le_iff_toNat_le.1 h0.2
   exact UInt8.lt_iff_toNat_lt.2 (by simpa using Nat.lt_succ_of_le this)
 match k,hk with
 | 0,hk=>cases hk;exact ⟨_,[],[.pointer (some ⟨V,0,none⟩)],rfl,call142,XgR V B x locs after w0 hV hS⟩
 | 1,hk=>cases hk;exact ⟨_,[],[.pointer (some ⟨V,0,none⟩)],rfl,call143,XgQ V B x locs after w0 hV hS hN (ho (by decide))⟩
 | 2,hk=>cases hk;exact ⟨_,[],[.pointer (some ⟨V,0,none⟩)],rfl,call145,XgP V B x locs after w0 hV hS⟩
 | 3,hk=>cases hk;exact ⟨_,[],[.pointer (some ⟨V,0,none⟩)],rfl,call146,XgO V B x locs after w0 hV hS hN (ho (by decide))⟩
 | 4,hk=>cases hk;exact ⟨_,[],[.pointer (some ⟨V,0,none⟩)],rfl,call148,XgN V B x locs after w0 hV hS⟩
 | 5,hk=>cases hk;exact ⟨_,[.pointer (some ⟨B,0,none⟩)],[],rfl,call150,XaM B x locs after w0 hS⟩
 | 6,hk=>cases hk;exact ⟨_,[.pointer (some ⟨B,0,none⟩)],[],rfl,call151,Xc9 B x locs after w0 hS⟩
 | 7,hk=>cases hk;exact ⟨_,[],[.pointer (some ⟨V,0,none⟩)],rfl,call152,XgM V B x locs after w0 hV hS hN (ho (by decide))⟩
 | n+8,hk=>simp [En] at hk
theorem Xgo {x:Ins} {locs after:Int} (h:∀ j,j < 8→QD x locs after j=true):Ma x locs after=true:=by
 simp only [Ma,List.all_eq_true,List.mem_range];exact h
theorem Xgn {x:Ins} {locs after:Int} {k:Nat} (hk:k < 8) (h:QD x locs after k=false):Ma x locs after=false:=by
 cases hb:Ma x locs after with
 | false=>rfl
 | true=>
   simp only [Ma,List.all_eq_true,List.mem_range] at hb
   rw [hb k hk] at h;cases h
theorem NeedsAt.own {w0 w:World} {rs:List Res} (hN:NeedsAt w0) (H:Own w0 none w rs):NeedsAt w:=fun i hi=>H.arg (hN i hi)
theorem CY {l:List Ins} {j:Nat} {x:Ins} {locs:Int} {n:Nat} (hx:l[j]? = some x):Nl locs n j (l.drop j)=(Ma x locs ((n:Int) - 1 - j) && Nl locs n (j+1) (l.drop (j+1))):=by
 obtain ⟨hj,rfl⟩:=List.getElem?_eq_some_iff.1 hx
 rw [List.drop_eq_getElem_cons hj]
 rfl
set_option maxHeartbeats 1000000 in
theorem Xek (A:Option Addr) (C:Nat) (l:List Ins) (locs:Int) (w0:World) (hA:RowsAt w0 A 10 (l.map Ins.cells)) (hN:NeedsAt w0) (hn:l.length≤9223372036854775807) :
   Calls Tryz.prog 115 #[.slice A l.length C,.int .i64 locs] w0 fun e w'=>e = .returned (.bool (Nj locs l))∧Below w0.heap.size w0 w':=by
 have H:=Own.start w0 none
 refine JF func115 rfl ntmps115 rfl (fun a F=>?_);refine cSR fun K1 hK1=>Xa F rfl (qNK hK1 ?_);clear hK1;clear F a;intro a F;refine JD (fun K2 hK2=>?_);refine cSR fun K3 hK3=>Xf F rfl (Xx Yl rfl (Xe rfl rfl L3 (qNK hK3 ?_)));clear hK3;clear F a;intro a F
 refine cIf F rfl (fun h13=>?_) (fun h13=>?_)
 ·
  replace h13:=of_decide_eq_true h13;refine cSR fun K4 hK4=>Xa F rfl (qNK hK4 ?_);clear hK4;clear F a;intro a F;refine wp_ret ?_;simp only [Exit.then];refine JI results115 F rfl ?_
  exact ⟨JZ (by rw [Nj,decide_eq_false (by omega),Bool.false_and]),H.below⟩
 replace h13:=of_decide_eq_false h13;refine wp_skip (hK2 _ _ (cSR fun K5 hK5=>Xf F rfl (qBd (places:=[(0,10),(10,1),(11,1)]) zeroValue190 XY (by kernel_rfl) rfl rfl rfl rfl ?_)));clear hK2;clear F a;intro a F;refine sAl H zeroValue190 F rfl rfl ?_;clear F a H;intro b5 a w F H
 refine sSr H 0 ?si F rfl rfl rfl ?s1 rfl rfl ?_
 case si=>exact Jz sizeOf190
 case s1=>rfl
 clear H;intro w H;refine nK hK5 (cSR fun K6 hK6=>?_);clear hK5;refine Xu call132 F rfl (Cm _ _) ?_;rintro e w ⟨V,Fb,rfl,H2⟩;replace H:=H.join H2;clear H2;refine ⟨_,rfl,?_⟩;clear F a;intro a F;refine Xa F rfl (qNK hK6 ?_);clear hK6;clear F a;intro a F;refine JD (fun K7 hK7=>?_);refine cSR fun K8 hK8=>Xf F rfl (Xx Yl rfl (Xh rfl (qNK hK8 ?_)));clear hK8;clear F a;intro a F;refine wp_block ?_
 refine JN [0,5,6,17,18] (fun m ups w=>∃ (j:Nat) (x:Ins) (after:Int),m=l.length - j∧ups=[(19,.int .i64 (j:Int))]∧j≤l.length∧Nl locs l.length 0 l=Nl locs l.length j (l.drop j)∧Own w0 none w [.blk Fb (En b5 V) 35,.blk V [.pointer (some ⟨b5,0,none⟩)] 210,.blk b5 (x.cells++[.int .i64 locs,.int .i64 after]) 190]) F (l.length) [(19,.int .i64 ((0:Nat):Int))] ?_ ?_
 · exact ⟨0,⟨0,0,0,false,0,false,0,0,0,0⟩,0,rfl,rfl,Nat.zero_le _,rfl,H⟩
 clear F
 clear H
 intro m ups a w hI F
 obtain ⟨j,x0,af0,rfl,rfl,hj,ht,H⟩:=hI
 refine cSR fun K9 hK9=>Xg F rfl rfl QF (qNK hK9 ?_);clear hK9;clear F a;intro a F;refine JD (fun K10 hK10=>?_)
 refine cIf F rfl (fun h20=>?_) (fun h20=>?_)
 ·
  replace h20:=of_decide_eq_true h20
  have hjl:j < l.length:=by omega
  obtain ⟨x,hx⟩:∃ x,l[j]? = some x:=⟨_,List.getElem?_eq_getElem hjl⟩
  obtain ⟨b,off,rfl,hc⟩:=hA j x.cells (by rw [List.getElem?_map,hx];rfl)
  refine wp_skip (hK10 _ _ ?_);clear hK10;refine JD (fun K11 hK11=>?_);refine wp_block ?_;refine cSR fun K12 hK12=>Xf F rfl ?_;clear F a;intro a F
  refine sIx Yl XP F rfl rfl rfl rfl ?_ ?_
  focus (omega)
  clear F a;intro a F
  refine Xw XI rfl ?si F rfl (H.argR hc) ?_
  case si=>exact Jz XP
  clear F a;intro a F;refine sAl H Yu F rfl rfl ?_;clear F a H;intro b8 a w F H;refine Xa F rfl ?_;clear F a;intro a F
  refine sSr H 0 ?si F rfl rfl rfl ?s1 rfl rfl ?_
  case si=>exact Jz XP
  case s1=>rfl
  clear H;intro w H;refine nK hK12 (cSR fun K13 hK13=>?_);clear hK12
  refine Xw XI rfl ?si F rfl (H.range 0 rfl _ 10) ?_
  case si=>exact Jz XP
  clear F a;intro a F;refine Xf F rfl (Xx Yl rfl ?_);clear F a;intro a F
  refine Xg F rfl rfl (Ca ?_) ?_
  focus omega
  clear F a;intro a F;refine Xf F rfl ?_;clear F a;intro a F
  refine Xg F rfl rfl (Ca ?_) ?_
  focus omega
  clear F a;intro a F;refine Xb (f:=0) (k:=0) XY rfl XP rfl rfl F rfl ?_;clear F a;intro a F
  refine sSr H 3 ?si F rfl rfl rfl ?s1 rfl rfl ?_
  case si=>exact Jz XP
  case s1=>rfl
  clear H;intro w H;refine Xb (f:=2) (k:=11) XY rfl YW rfl rfl F rfl ?_;clear F a;intro a F;refine sSt H 3 YW F rfl rfl rfl rfl rfl rfl ?_;clear H;intro w H;refine nK hK13 (cSR fun K14 hK14=>Xf F rfl (Xx underlying191 rfl (Xh rfl (qNK hK14 ?_))));clear hK13 hK14;clear F a;intro a F;refine wp_block ?_
  refine JN [0,5,6,17,18,19,32,33] (fun m ups w=>∃ k:Nat,m=8 - k∧ups=[(34,.int .i64 (k:Int))]∧k≤8∧(∀ i,i < k→QD x locs ((l.length:Int) - 1 - j) i=true)∧Own w0 none w [.blk b8 x.cells 92,.blk Fb (En b5 V) 35,.blk V [.pointer (some ⟨b5,0,none⟩)] 210,.blk b5 (x.cells++[.int .i64 locs,.int .i64 ((l.length:Int) - 1 - j)]) 190]) F (8) [(34,.int .i64 ((0:Nat):Int))] ?_ ?_
  · exact ⟨0,rfl,rfl,by omega,fun i hi=>by omega,H⟩
  clear F
  clear H
  intro m ups a w hI F
  obtain ⟨k,rfl,rfl,hk,hp,H⟩:=hI
  refine cSR fun K15 hK15=>Xg F rfl rfl QF (qNK hK15 ?_);clear hK15;clear F a;intro a F;refine JD (fun K16 hK16=>?_)
  refine cIf F rfl (fun h35=>?_) (fun h35=>?_)
  ·
   replace h35:=of_decide_eq_true h35;refine wp_skip (hK16 _ _ ?_);clear hK16;refine JD (fun K17 hK17=>?_);refine wp_block ?_;refine cSR fun K18 hK18=>?_
   refine sIx underlying191 sizeOf35 F rfl rfl rfl rfl ?_ ?_
   focus (omega)
   clear F a;intro a F
   refine sLd isAgg35 F rfl rfl rfl (by rw [Nat.zero_add,Nat.mul_one];exact H.cell 1 rfl (List.getElem?_eq_getElem (show k < (En b5 V).length by simp only [En,List.length_cons,List.length_nil];omega))) ?_;clear F a;intro a F
   refine Xa F rfl (qNK hK18 (qSR fun K19 hK19=>Xh rfl ?_));clear hK18;clear F a;intro a F
   refine XdO F rfl rfl rfl rfl (XgL k V b5 _ x locs ((l.length:Int) - 1 - j) _ (H.range 2 rfl 0 1) (H.range 3 rfl 0 12) (hN.own H) (List.getElem?_eq_getElem _) hp) ?_
   rintro e w ⟨rfl,hb⟩;replace H:=H.grow hb;clear hb;refine ⟨_,rfl,?_⟩;clear F a;intro a F;refine Xav F rfl rfl rfl (qNK hK19 ?_);clear hK19;clear F a;intro a F
   refine cIf F rfl (fun h40=>?_) (fun h40=>?_)
   ·
    replace h40:=N1 h40;refine cSR fun K20 hK20=>Xa F rfl (qNK hK20 ?_);clear hK20;clear F a;intro a F;refine wp_ret ?_;refine xI ?_;refine JI results115 F rfl ?_
    exact ⟨JZ (by rw [Nj,ht,CY hx,Xgn (by omega) h40];simp),H.below⟩
   replace h40:=N2 h40;refine wp_skip (hK17 _ _ (JY ?_));clear hK17
   refine Xg F rfl rfl (JJ (j:=1) ?_) ?_
   focus omega
   clear F a;intro a F;refine Xf F rfl ?_;clear F a;intro a F;refine J4 ?_
   exact ⟨8 - (k+1),by omega,_,⟨k+1,rfl,rfl,by omega,fun i hi=>by rcases Nat.lt_succ_iff_lt_or_eq.1 hi with h | rfl;exact hp i h;exact h40,H⟩,F.tt⟩
  replace h35:=of_decide_eq_false h35;refine wp_exit ?_;refine hK11 _ _ (JY ?_);clear hK11
  refine Xg F rfl rfl (JJ (j:=1) ?_) ?_
  focus omega
  clear F a;intro a F;refine Xf F rfl ?_;clear F a;intro a F;refine J4 ?_
  exact ⟨l.length - (j+1),by omega,_,⟨j+1,x,_,rfl,rfl,by omega,by rw [ht,CY hx,Xgo (fun i hi=>hp i (by omega)),Bool.true_and],H.tail⟩,F.tt⟩
 replace h20:=of_decide_eq_false h20;refine wp_exit ?_;refine hK7 _ _ (cSR fun K21 hK21=>Xa F rfl (qNK hK21 ?_));clear hK7 hK21;clear F a;intro a F;refine wp_ret ?_;refine JI results115 F rfl ?_
 exact ⟨JZ (by rw [Nj,ht,List.drop_eq_nil_of_le (by omega)];simp only [Nl,Bool.and_true];symm;rw [decide_eq_true_eq];omega),H.below⟩
end
section
open Go.RowKit
inductive Cnd where
 | mk (kind thread n val:UInt8) (kids:List Cnd)
def Cnd.kids:Cnd→List Cnd | .mk _ _ _ _ l=>l
def Qs (threads locs:Int):Nat→Cnd→Bool
 | 0,_=>false
 | d+1,.mk k t n v kids=>
   if k=0 then (t == 0 && n == 0 && v == 0) && kids.length == 0
   else if k=1 then decide ((t.toNat:Int) < threads) && decide (n < 8) && kids.length == 0
   else if k=2 then decide ((n.toNat:Int) < locs) && t == 0 && kids.length == 0
   else if k=3∨k=4 then (t == 0 && n == 0 && v == 0) && decide (2≤kids.length) && kids.all (Qs threads locs d)
   else if k=5 then (t == 0 && n == 0 && v == 0) && kids.length == 1 && kids.all (Qs threads locs d)
   else false
def CondAt (w:World):Nat→List Value→Cnd→Prop
 | 0,_,_=>False
 | h+1,cs,.mk k t n v kids=>∃ A C,cs=[b8 k,b8 t,b8 n,b8 v,.slice A kids.length C]∧kids.length≤9223372036854775807 ∧
     ∀ j kid,kids[j]? = some kid→∃ b off cs',A=some ⟨b,off,none⟩∧w.rangeAt b (off+j * 5) cs'∧CondAt w h cs' kid
theorem CondAt.grown {w w':World} {row:Option Nat} (hg:w.grownBy w' row) (hr:row=none):∀ (h:Nat) (cs:List Value) (c:Cnd),CondAt w h cs c→CondAt w' h cs c
 | 0,_,_,hc=>hc
 | h+1,cs,.mk k t n v kids,hc=>by
   obtain ⟨A,C,h1,h2,h3⟩:=hc
   refine ⟨A,C,h1,h2,fun j kid hj=>?_⟩
   obtain ⟨b,off,cs',h4,h5,h6⟩:=h3 j kid hj
   exact ⟨b,off,cs',h4,fun i u hu=>hg.cell (h5 i u hu) (by subst hr;simp),CondAt.grown hg hr h cs' kid h6⟩
theorem B3 {threads locs:Int} {d:Nat} {k t n v:UInt8} {kids:List Cnd} (h:(k=3∨k=4)∧2≤kids.length∨k=5∧kids.length=1) (hb:(t == 0 && n == 0 && v == 0)=true) :
   Qs threads locs (d+1) (.mk k t n v kids)=kids.all (Qs threads locs d):=by
 rcases h with ⟨rfl | rfl,h⟩ | ⟨rfl,h⟩ <;> simp [Qs,h,hb] <;> simp_all
theorem Qb (n:Nat):((n:Int) == 0)=(n == 0):=by rw [Bool.eq_iff_iff];simp
theorem Lg {α:Type} (p:α→Bool) {l:List α} {j:Nat} {x:α} (hx:l[j]? = some x):(l.drop j).all p=(p x && (l.drop (j+1)).all p):=by
 obtain ⟨hj,rfl⟩:=List.getElem?_eq_some_iff.1 hx
 rw [List.drop_eq_getElem_cons hj]
 rfl
end
section
open Go.RowKit
set_option maxHeartbeats 2000000 in
theorem Xa2 (threads locs:Int) (d:Nat):∀ (_hd:d≤100) (h b off:Nat) (cs:List Value) (c:Cnd) (w0:World),w0.rangeAt b off cs→CondAt w0 h cs c →
   Calls Tryz.prog 133 #[.pointer (some ⟨b,off,none⟩),.int .i64 threads,.int .i64 locs,.int .i64 (d:Int)] w0 fun e w'=>e = .returned (.bool (Qs threads locs d c))∧Below w0.heap.size w0 w':=by
 induction d with
 | zero=>
   intro _hd h b off cs c w0 hR hC
   have H:=Own.start w0 none
   refine JF func133 rfl ntmps133 rfl (fun a F=>?_);refine cSR fun K1 hK1=>Xa F rfl (qNK hK1 ?_);clear hK1;clear F a;intro a F;refine JD (fun K2 hK2=>?_);refine cSR fun K3 hK3=>Xf F rfl (Xe rfl rfl Mp (qNK hK3 ?_));clear hK3;clear F a;intro a F
   refine cIf F rfl (fun h12=>?_) (fun h12=>?_)
   ·
    replace h12:=J1 h12;refine cSR fun K4 hK4=>Xa F rfl (qNK hK4 ?_);clear hK4;clear F a;intro a F;refine wp_ret ?_;simp only [Exit.then];refine JI Yr F rfl ?_
    exact ⟨rfl,H.below⟩
   replace h12:=J2 h12
   exact absurd rfl h12
 | succ d ih=>
   intro _hd h b off cs c w0 hR hC
   obtain ⟨k,t,n,v,kids⟩:=c
   match h,hC with
   | h+1,hC=>
   obtain ⟨A,C,rfl,hkl,hK⟩:=hC
   have H:=Own.start w0 none
   refine JF func133 rfl ntmps133 rfl (fun a F=>?_);refine cSR fun K1 hK1=>Xa F rfl (qNK hK1 ?_);clear hK1;clear F a;intro a F;refine JD (fun K2 hK2=>?_);refine cSR fun K3 hK3=>Xf F rfl (Xe rfl rfl Mp (qNK hK3 ?_));clear hK3;clear F a;intro a F
   refine cIf F rfl (fun h12=>?_) (fun h12=>?_)
   ·
    replace h12:=J1 h12
    omega
   replace h12:=J2 h12;refine wp_skip (hK2 _ _ ?_);clear hK2
   refine Mx [0,1,2,3] (fun ups w=>∃ r,ups=[(9,.bool r)]∧r=(t == 0 && n == 0 && v == 0)∧Own w0 none w []) F ?_ ?_
   ·
    refine JY (Xf F rfl (qNc rfl rfl rfl (Xr (f:=1) X3 rfl XH rfl rfl rfl (Xc XJ rfl (H.arg (hR 1 _ rfl)) (Xe rfl rfl (JL (y:=0)) (Xh rfl ?_))))));clear F a;intro a F
    refine F.split 18 rfl ?_ ?_ <;> (clear F;intro h18 F)
    ·
     replace h18:=J1 h18;refine Xf F rfl (qNc rfl rfl rfl (Xr (f:=2) X3 rfl XH rfl rfl rfl (Xc XJ rfl (H.arg (hR 2 _ rfl)) (Xe rfl rfl (JL (y:=0)) (Xy rfl rfl (Xh rfl ?_))))));clear F a;intro a F
     refine F.split 25 rfl ?_ ?_ <;> (clear F;intro h25 F)
     ·
      replace h25:=J1 h25;refine Xf F rfl (qNc rfl rfl rfl (Xr (f:=3) X3 rfl XH rfl rfl rfl (Xc XJ rfl (H.arg (hR 3 _ rfl)) (Xe rfl rfl (JL (y:=0)) (Xy rfl rfl (Xd rfl ?_))))));clear F a;intro a F;refine J4 ?_
      refine ⟨_,⟨_,rfl,?_,H⟩,F.tt⟩
      simp_all
     replace h25:=J2 h25;refine XB F (XC (XC (XC (XC (Xy rfl rfl (Xd rfl ?_))))));clear F a;intro a F;refine J4 ?_
     refine ⟨_,⟨_,rfl,?_,H⟩,F.tt⟩
     simp_all
    replace h18:=J2 h18;refine XB F (XC (XC (XC (XC (Xy rfl rfl (Xh rfl (XC (XC (XC (XC (XC (Xy rfl rfl (Xd rfl ?_)))))))))))));clear F a;intro a F;refine J4 ?_
    refine ⟨_,⟨_,rfl,?_,H⟩,F.tt⟩
    simp_all
   clear F H
   intro ups a w hI F
   obtain ⟨r,rfl,hr,H⟩:=hI
   refine Mx [0,1,2,3] (fun ups w=>ups=[]∧r=true∧((k=3∨k=4)∧2≤kids.length∨k=5∧kids.length=1)∧Own w0 none w []) F ?_ ?_
   ·
    refine cSR fun K4 hK4=>Xf F rfl (qNc rfl rfl rfl (Xr (f:=0) X3 rfl XH rfl rfl rfl (Xc XJ rfl (H.arg (hR 0 _ rfl)) (qNK hK4 ?_))));clear hK4;clear F a;intro a F;refine wp_block ?_;refine cSR fun K5 hK5=>Xg F rfl rfl (JL (y:=0)) (Xd rfl (qNK hK5 ?_));clear hK5;clear F a;intro a F
    refine cIf F rfl (fun h36=>?_) (fun h36=>?_)
    ·
     replace h36:=J1 h36;refine cSR fun K6 hK6=>Xf F rfl (Xh rfl ?_);clear F a;intro a F
     refine F.split 39 rfl ?_ ?_ <;> (clear F;intro h39 F)
     ·
      refine Xf F rfl (qNc rfl rfl rfl (Xr (f:=4) X3 rfl YC rfl rfl rfl (Xc YG rfl (H.arg (hR 4 _ rfl)) (Xx Ys rfl (Xe rfl rfl Mp (Xy rfl rfl (Xd rfl (qNK hK6 ?_))))))));clear hK6;clear F a;intro a F;refine wp_ret ?_;refine xI ?_;refine JI Yr F rfl ?_
      exact ⟨JZ (by clear F H hK ih hR;simp_all [Qs,Qb,UInt8.lt_iff_toNat_lt,UInt8.le_iff_toNat_le] <;> (intros;omega)),H.below⟩
     refine XB F (XC (XC (XC (XC (XC (Xy rfl rfl (Xd rfl (qNK hK6 ?_))))))));clear hK6;clear F a;intro a F;refine wp_ret ?_;refine xI ?_;refine JI Yr F rfl ?_
     exact ⟨JZ (by clear F H hK ih hR;simp_all [Qs,Qb,UInt8.lt_iff_toNat_lt,UInt8.le_iff_toNat_le] <;> (intros;omega)),H.below⟩
    replace h36:=J2 h36;refine cSR fun K7 hK7=>Xg F rfl rfl (JL (y:=1)) (Xd rfl (qNK hK7 ?_));clear hK7;clear F a;intro a F
    refine cIf F rfl (fun h47=>?_) (fun h47=>?_)
    ·
     replace h47:=J1 h47;refine cSR fun K8 hK8=>Xf F rfl (qNc rfl rfl rfl (Xr (f:=1) X3 rfl XH rfl rfl rfl (Xc XJ rfl (H.arg (hR 1 _ rfl)) (qCv XO XT rfl rfl rfl (QG _) (Xh rfl (Xe rfl rfl QF (Xh rfl ?_)))))));clear F a;intro a F
     refine F.split 56 rfl ?_ ?_ <;> (clear F;intro h56 F)
     ·
      replace h56:=of_decide_eq_true h56;refine Xf F rfl (qNc rfl rfl rfl (Xr (f:=2) X3 rfl XH rfl rfl rfl (Xc XJ rfl (H.arg (hR 2 _ rfl)) (Xe rfl rfl (Eu (y:=8)) (Xy rfl rfl (Xh rfl ?_))))));clear F a;intro a F
      refine F.split 63 rfl ?_ ?_ <;> (clear F;intro h63 F)
      ·
       replace h63:=of_decide_eq_true h63;refine Xf F rfl (qNc rfl rfl rfl (Xr (f:=4) X3 rfl YC rfl rfl rfl (Xc YG rfl (H.arg (hR 4 _ rfl)) (Xx Ys rfl (Xe rfl rfl Mp (Xy rfl rfl (Xd rfl (qNK hK8 ?_))))))));clear hK8;clear F a;intro a F;refine wp_ret ?_;refine xI ?_;refine JI Yr F rfl ?_
       exact ⟨JZ (by clear F H hK ih hR;simp_all [Qs,Qb,UInt8.lt_iff_toNat_lt,UInt8.le_iff_toNat_le] <;> (intros;omega)),H.below⟩
      replace h63:=of_decide_eq_false h63;refine XB F (XC (XC (XC (XC (XC (Xy rfl rfl (Xd rfl (qNK hK8 ?_))))))));clear hK8;clear F a;intro a F;refine wp_ret ?_;refine xI ?_;refine JI Yr F rfl ?_
      exact ⟨JZ (by clear F H hK ih hR;simp_all [Qs,Qb,UInt8.lt_iff_toNat_lt,UInt8.le_iff_toNat_le] <;> (intros;omega)),H.below⟩
     replace h56:=of_decide_eq_false h56;refine XB F (XC (XC (XC (XC (Xy rfl rfl (Xh rfl (XC (XC (XC (XC (XC (XC (Xy rfl rfl (Xd rfl (qNK hK8 ?_)))))))))))))));clear hK8;clear F a;intro a F;refine wp_ret ?_;refine xI ?_;refine JI Yr F rfl ?_
     exact ⟨JZ (by clear F H hK ih hR;simp_all [Qs,Qb,UInt8.lt_iff_toNat_lt,UInt8.le_iff_toNat_le] <;> (intros;omega)),H.below⟩
    replace h47:=J2 h47;refine cSR fun K9 hK9=>Xg F rfl rfl (JL (y:=2)) (Xd rfl (qNK hK9 ?_));clear hK9;clear F a;intro a F
    refine cIf F rfl (fun h71=>?_) (fun h71=>?_)
    ·
     replace h71:=J1 h71;refine cSR fun K10 hK10=>Xf F rfl (qNc rfl rfl rfl (Xr (f:=2) X3 rfl XH rfl rfl rfl (Xc XJ rfl (H.arg (hR 2 _ rfl)) (qCv XO XT rfl rfl rfl (QG _) (Xh rfl (Xe rfl rfl QF (Xh rfl ?_)))))));clear F a;intro a F
     refine F.split 80 rfl ?_ ?_ <;> (clear F;intro h80 F)
     ·
      replace h80:=of_decide_eq_true h80;refine Xf F rfl (qNc rfl rfl rfl (Xr (f:=1) X3 rfl XH rfl rfl rfl (Xc XJ rfl (H.arg (hR 1 _ rfl)) (Xe rfl rfl (JL (y:=0)) (Xy rfl rfl (Xh rfl ?_))))));clear F a;intro a F
      refine F.split 87 rfl ?_ ?_ <;> (clear F;intro h87 F)
      ·
       replace h87:=J1 h87;refine Xf F rfl (qNc rfl rfl rfl (Xr (f:=4) X3 rfl YC rfl rfl rfl (Xc YG rfl (H.arg (hR 4 _ rfl)) (Xx Ys rfl (Xe rfl rfl Mp (Xy rfl rfl (Xd rfl (qNK hK10 ?_))))))));clear hK10;clear F a;intro a F;refine wp_ret ?_;refine xI ?_;refine JI Yr F rfl ?_
       exact ⟨JZ (by clear F H hK ih hR;simp_all [Qs,Qb,UInt8.lt_iff_toNat_lt,UInt8.le_iff_toNat_le] <;> (intros;omega)),H.below⟩
      replace h87:=J2 h87;refine XB F (XC (XC (XC (XC (XC (Xy rfl rfl (Xd rfl (qNK hK10 ?_))))))));clear hK10;clear F a;intro a F;refine wp_ret ?_;refine xI ?_;refine JI Yr F rfl ?_
      exact ⟨JZ (by clear F H hK ih hR;simp_all [Qs,Qb,UInt8.lt_iff_toNat_lt,UInt8.le_iff_toNat_le] <;> (intros;omega)),H.below⟩
     replace h80:=of_decide_eq_false h80;refine XB F (XC (XC (XC (XC (Xy rfl rfl (Xh rfl (XC (XC (XC (XC (XC (XC (Xy rfl rfl (Xd rfl (qNK hK10 ?_)))))))))))))));clear hK10;clear F a;intro a F;refine wp_ret ?_;refine xI ?_;refine JI Yr F rfl ?_
     exact ⟨JZ (by clear F H hK ih hR;simp_all [Qs,Qb,UInt8.lt_iff_toNat_lt,UInt8.le_iff_toNat_le] <;> (intros;omega)),H.below⟩
    replace h71:=J2 h71;refine JD (fun K11 hK11=>?_);refine cSR fun K12 hK12=>Xg F rfl rfl (JL (y:=3)) (Xd rfl (qNK hK12 ?_));clear hK12;clear F a;intro a F
    refine cIf F rfl (fun h95=>?_) (fun h95=>?_)
    ·
     replace h95:=J1 h95;refine wp_skip (hK11 _ _ ?_);clear hK11
     refine cIf F rfl (fun h95=>?_) (fun h95=>?_)
     ·
      replace h95:=J1 h95;refine cSR fun K13 hK13=>Xf F rfl (Cc rfl rfl rfl (Xh rfl ?_));clear F a;intro a F
      refine F.split 100 rfl ?_ ?_ <;> (clear F;intro h100 F)
      ·
       replace h100:=N1 h100;refine XB F (XC (XC (XC (XC (XC (Xy rfl rfl (qNK hK13 ?_)))))));clear hK13;clear F a;intro a F;refine MQ F rfl ?_;refine cSR fun K14 hK14=>Xa F rfl (qNK hK14 ?_);clear hK14;clear F a;intro a F;refine wp_ret ?_;refine xI ?_;refine JI Yr F rfl ?_
       exact ⟨JZ (by clear F H hK ih hR;simp_all [Qs,Qb,UInt8.lt_iff_toNat_lt,UInt8.le_iff_toNat_le] <;> (intros;omega)),H.below⟩
      replace h100:=N2 h100;refine Xf F rfl (qNc rfl rfl rfl (Xr (f:=4) X3 rfl YC rfl rfl rfl (Xc YG rfl (H.arg (hR 4 _ rfl)) (Xx Ys rfl (Xe rfl rfl QF (Xy rfl rfl (qNK hK13 ?_)))))));clear hK13;clear F a;intro a F
      refine cIf F rfl (fun h107=>?_) (fun h107=>?_)
      ·
       replace h107:=of_decide_eq_true h107;refine cSR fun K15 hK15=>Xa F rfl (qNK hK15 ?_);clear hK15;clear F a;intro a F;refine wp_ret ?_;refine xI ?_;refine JI Yr F rfl ?_
       exact ⟨JZ (by clear F H hK ih hR;simp_all [Qs,Qb,UInt8.lt_iff_toNat_lt,UInt8.le_iff_toNat_le] <;> (intros;omega)),H.below⟩
      replace h107:=of_decide_eq_false h107;refine wp_skip ?_
      refine ⟨_,⟨rfl,?_,?_,H⟩,F.tt⟩
      · simp_all
      · clear F H hK ih hR;simp_all <;> omega
     replace h95:=J2 h95;refine cSR fun K16 hK16=>Xg F rfl rfl (JL (y:=5)) (Xd rfl (qNK hK16 ?_));clear hK16;clear F a;intro a F
     refine cIf F rfl (fun h108=>?_) (fun h108=>?_)
     ·
      replace h108:=J1 h108;refine cSR fun K17 hK17=>Xf F rfl (Cc rfl rfl rfl (Xh rfl ?_));clear F a;intro a F
      refine F.split 112 rfl ?_ ?_ <;> (clear F;intro h112 F)
      ·
       replace h112:=N1 h112;refine XB F (XC (XC (XC (XC (XC (Xy rfl rfl (qNK hK17 ?_)))))));clear hK17;clear F a;intro a F;refine MQ F rfl ?_;refine cSR fun K18 hK18=>Xa F rfl (qNK hK18 ?_);clear hK18;clear F a;intro a F;refine wp_ret ?_;refine xI ?_;refine JI Yr F rfl ?_
       exact ⟨JZ (by clear F H hK ih hR;simp_all [Qs,Qb,UInt8.lt_iff_toNat_lt,UInt8.le_iff_toNat_le] <;> (intros;omega)),H.below⟩
      replace h112:=N2 h112;refine Xf F rfl (qNc rfl rfl rfl (Xr (f:=4) X3 rfl YC rfl rfl rfl (Xc YG rfl (H.arg (hR 4 _ rfl)) (Xx Ys rfl (Xe rfl rfl DR (Xy rfl rfl (qNK hK17 ?_)))))));clear hK17;clear F a;intro a F
      refine cIf F rfl (fun h119=>?_) (fun h119=>?_)
      ·
       replace h119:=Ep h119;refine cSR fun K19 hK19=>Xa F rfl (qNK hK19 ?_);clear hK19;clear F a;intro a F;refine wp_ret ?_;refine xI ?_;refine JI Yr F rfl ?_
       exact ⟨JZ (by clear F H hK ih hR;simp_all [Qs,Qb,UInt8.lt_iff_toNat_lt,UInt8.le_iff_toNat_le] <;> (intros;omega)),H.below⟩
      replace h119:=Er h119;refine wp_skip ?_
      refine ⟨_,⟨rfl,?_,?_,H⟩,F.tt⟩
      · simp_all
      · clear F H hK ih hR;simp_all <;> omega
     replace h108:=J2 h108;refine cSR fun K20 hK20=>Xa F rfl (qNK hK20 ?_);clear hK20;clear F a;intro a F;refine wp_ret ?_;refine xI ?_;refine JI Yr F rfl ?_
     exact ⟨JZ (by clear F H hK ih hR;simp_all [Qs,Qb,UInt8.lt_iff_toNat_lt,UInt8.le_iff_toNat_le] <;> (intros;omega)),H.below⟩
    replace h95:=J2 h95;refine JY (Xg F rfl rfl (JL (y:=4)) (Xd rfl (qNK hK11 ?_)));clear hK11;clear F a;intro a F
    refine cIf F rfl (fun h95=>?_) (fun h95=>?_)
    ·
     replace h95:=J1 h95;refine cSR fun K21 hK21=>Xf F rfl (Cc rfl rfl rfl (Xh rfl ?_));clear F a;intro a F
     refine F.split 100 rfl ?_ ?_ <;> (clear F;intro h100 F)
     ·
      replace h100:=N1 h100;refine XB F (XC (XC (XC (XC (XC (Xy rfl rfl (qNK hK21 ?_)))))));clear hK21;clear F a;intro a F;refine MQ F rfl ?_;refine cSR fun K22 hK22=>Xa F rfl (qNK hK22 ?_);clear hK22;clear F a;intro a F;refine wp_ret ?_;refine xI ?_;refine JI Yr F rfl ?_
      exact ⟨JZ (by clear F H hK ih hR;simp_all [Qs,Qb,UInt8.lt_iff_toNat_lt,UInt8.le_iff_toNat_le] <;> (intros;omega)),H.below⟩
     replace h100:=N2 h100;refine Xf F rfl (qNc rfl rfl rfl (Xr (f:=4) X3 rfl YC rfl rfl rfl (Xc YG rfl (H.arg (hR 4 _ rfl)) (Xx Ys rfl (Xe rfl rfl QF (Xy rfl rfl (qNK hK21 ?_)))))));clear hK21;clear F a;intro a F
     refine cIf F rfl (fun h107=>?_) (fun h107=>?_)
     ·
      replace h107:=of_decide_eq_true h107;refine cSR fun K23 hK23=>Xa F rfl (qNK hK23 ?_);clear hK23;clear F a;intro a F;refine wp_ret ?_;refine xI ?_;refine JI Yr F rfl ?_
      exact ⟨JZ (by clear F H hK ih hR;simp_all [Qs,Qb,UInt8.lt_iff_toNat_lt,UInt8.le_iff_toNat_le] <;> (intros;omega)),H.below⟩
     replace h107:=of_decide_eq_false h107;refine wp_skip ?_
     refine ⟨_,⟨rfl,?_,?_,H⟩,F.tt⟩
     · simp_all
     · clear F H hK ih hR;simp_all <;> omega
    replace h95:=J2 h95;refine cSR fun K24 hK24=>Xg F rfl rfl (JL (y:=5)) (Xd rfl (qNK hK24 ?_));clear hK24;clear F a;intro a F
    refine cIf F rfl (fun h108=>?_) (fun h108=>?_)
    ·
     replace h108:=J1 h108;refine cSR fun K25 hK25=>Xf F rfl (Cc rfl rfl rfl (Xh rfl ?_));clear F a;intro a F
     refine F.split 112 rfl ?_ ?_ <;> (clear F;intro h112 F)
     ·
      replace h112:=N1 h112;refine XB F (XC (XC (XC (XC (XC (Xy rfl rfl (qNK hK25 ?_)))))));clear hK25;clear F a;intro a F;refine MQ F rfl ?_;refine cSR fun K26 hK26=>Xa F rfl (qNK hK26 ?_);clear hK26;clear F a;intro a F;refine wp_ret ?_;refine xI ?_;refine JI Yr F rfl ?_
      exact ⟨JZ (by clear F H hK ih hR;simp_all [Qs,Qb,UInt8.lt_iff_toNat_lt,UInt8.le_iff_toNat_le] <;> (intros;omega)),H.below⟩
     replace h112:=N2 h112;refine Xf F rfl (qNc rfl rfl rfl (Xr (f:=4) X3 rfl YC rfl rfl rfl (Xc YG rfl (H.arg (hR 4 _ rfl)) (Xx Ys rfl (Xe rfl rfl DR (Xy rfl rfl (qNK hK25 ?_)))))));clear hK25;clear F a;intro a F
     refine cIf F rfl (fun h119=>?_) (fun h119=>?_)
     ·
      replace h119:=Ep h119;refine cSR fun K27 hK27=>Xa F rfl (qNK hK27 ?_);clear hK27;clear F a;intro a F;refine wp_ret ?_;refine xI ?_;refine JI Yr F rfl ?_
      exact ⟨JZ (by clear F H hK ih hR;simp_all [Qs,Qb,UInt8.lt_iff_toNat_lt,UInt8.le_iff_toNat_le] <;> (intros;omega)),H.below⟩
     replace h119:=Er h119;refine wp_skip ?_
     refine ⟨_,⟨rfl,?_,?_,H⟩,F.tt⟩
     · simp_all
     · clear F H hK ih hR;simp_all <;> omega
    replace h108:=J2 h108;refine cSR fun K28 hK28=>Xa F rfl (qNK hK28 ?_);clear hK28;clear F a;intro a F;refine wp_ret ?_;refine xI ?_;refine JI Yr F rfl ?_
    exact ⟨JZ (by clear F H hK ih hR;simp_all [Qs,Qb,UInt8.lt_iff_toNat_lt,UInt8.le_iff_toNat_le] <;> (intros;omega)),H.below⟩
   clear F H
   intro ups a w hI F
   obtain ⟨rfl,hrt,hkk,H⟩:=hI
   refine JD (fun K29 hK29=>?_);refine cSR fun K30 hK30=>Xf F rfl (qNc rfl rfl rfl (Xr (f:=4) X3 rfl YC rfl rfl rfl (Xc YG rfl (H.arg (hR 4 _ rfl)) (Xx Ys rfl (Xh rfl (qNK hK30 ?_))))));clear hK30;clear F a;intro a F;refine wp_block ?_
   refine JN [0,1,2,3,124] (fun m ups w=>∃ j:Nat,m=kids.length - j∧ups=[(125,.int .i64 (j:Int))]∧j≤kids.length∧kids.all (Qs threads locs d)=(kids.drop j).all (Qs threads locs d)∧Own w0 none w []) F (kids.length) [(125,.int .i64 ((0:Nat):Int))] ?_ ?_
   · exact ⟨0,rfl,rfl,by omega,rfl,H⟩
   clear F
   clear H
   intro m ups a w hI F
   obtain ⟨j,rfl,rfl,hj,ht,H⟩:=hI
   refine cSR fun K31 hK31=>Xg F rfl rfl QF (qNK hK31 ?_);clear hK31;clear F a;intro a F;refine JD (fun K32 hK32=>?_)
   refine cIf F rfl (fun h126=>?_) (fun h126=>?_)
   ·
    replace h126:=of_decide_eq_true h126
    have hjl:j < kids.length:=by omega
    obtain ⟨kid,hx⟩:∃ x,kids[j]? = some x:=⟨_,List.getElem?_eq_getElem hjl⟩
    obtain ⟨b',off',cs',rfl,hR',hC'⟩:=hK j kid hx
    refine wp_skip (hK32 _ _ ?_);clear hK32;refine JD (fun K33 hK33=>?_);refine wp_block ?_;refine cSR fun K34 hK34=>Xf F rfl (Xd rfl (qNK hK34 (qSR fun K35 hK35=>Xh rfl (qNc rfl rfl rfl (Xr (f:=4) X3 rfl YC rfl rfl rfl (Xc YG rfl (H.arg (hR 4 _ rfl)) (Xh rfl ?_)))))));clear hK34;clear F a;intro a F
    refine sIx Ys YP F rfl rfl rfl rfl ?_ ?_
    focus (omega)
    clear F a;intro a F;refine Xf F rfl (Xh rfl (Xh rfl ?_));clear F a;intro a F
    refine Xg F rfl rfl (Es (j:=1) ?_ ?_) ?_
    focus omega
    focus omega
    clear F a;intro a F;refine Xu call133 F rfl (ih (by omega) h b' (off'+j * 5) cs' kid _ (H.argR hR') (CondAt.grown H.grown rfl _ _ _ hC')) (gG H ?_);clear F a H;intro a w F H;refine Xav F rfl rfl rfl (qNK hK35 ?_);clear hK35;clear F a;intro a F
    refine cIf F rfl (fun h139=>?_) (fun h139=>?_)
    ·
     replace h139:=N1 h139;refine cSR fun K36 hK36=>Xa F rfl (qNK hK36 ?_);clear hK36;clear F a;intro a F;refine wp_ret ?_;refine xI ?_;refine JI Yr F rfl ?_
     exact ⟨JZ (by rw [B3 hkk (by rw [← hr,hrt]),ht,Lg _ hx,h139,Bool.false_and]),H.below⟩
    replace h139:=N2 h139;refine wp_skip (hK33 _ _ (JY ?_));clear hK33
    refine Xg F rfl rfl (JJ (j:=1) ?_) ?_
    focus omega
    clear F a;intro a F;refine Xf F rfl ?_;clear F a;intro a F;refine J4 ?_
    exact ⟨kids.length - (j+1),by omega,_,⟨j+1,rfl,rfl,by omega,by rw [ht,Lg _ hx,h139,Bool.true_and],H⟩,F.tt⟩
   replace h126:=of_decide_eq_false h126;refine wp_exit ?_;refine hK29 _ _ (cSR fun K37 hK37=>Xa F rfl (qNK hK37 ?_));clear hK29 hK37;clear F a;intro a F;refine wp_ret ?_;refine JI Yr F rfl ?_
   exact ⟨JZ (by rw [B3 hkk (by rw [← hr,hrt]),ht,List.drop_eq_nil_of_le (by omega)];rfl),H.below⟩
theorem Xid (threads locs:Int) (h:Nat) (cs:List Value) (c:Cnd) (w0:World) (hC:CondAt w0 h cs c) :
   Calls Tryz.prog 118 #[.agg cs.toArray,.int .i64 threads,.int .i64 locs] w0 fun e w'=>e = .returned (.bool (Qs threads locs 20 c))∧Below w0.heap.size w0 w':=by
 have H:=Own.start w0 none
 refine JF func118 rfl ntmps118 rfl (fun a F=>?_);refine cSR fun K1 hK1=>?_;refine sBx H F rfl rfl rfl ?_;clear F a H;intro b3 a w F H;refine Xa F rfl (qNK hK1 (qSR fun K2 hK2=>Xh rfl (Xh rfl ?_)));clear hK1;clear F a;intro a F;refine Xu call133 F rfl (Xa2 threads locs 20 (by omega) h b3 0 cs c _ (H.whole 0 rfl) (CondAt.grown H.grown rfl _ _ _ hC)) (gG H ?_);clear F a H;intro a w F H;refine Xa F rfl (qNK hK2 ?_);clear hK2;clear F a;intro a F;refine wp_ret ?_;refine JI results118 F rfl ?_
 exact ⟨rfl,H.below⟩
end
section
open Go.RowKit
def StrsAt (w:World) (A:Option Addr) (l:List ByteArray):Prop:=RowsAt w A 1 (l.map fun s=>[.string s])
theorem StrsAt.get {w:World} {A:Option Addr} {l:List ByteArray} (h:StrsAt w A l) {j:Nat} {s:ByteArray} (hj:l[j]? = some s):∃ b off,A=some ⟨b,off,none⟩∧w.cell? ⟨b,off+j * 1,none⟩=some (.string s):=by
 obtain ⟨b,off,h1,h2⟩:=h j [.string s] (by rw [List.getElem?_map,hj];rfl)
 exact ⟨b,off,h1,by have:=h2 0 _ rfl;rwa [Nat.add_zero] at this⟩
def DW (s:ByteArray):List ByteArray→Nat→Option Nat
 | [],_=>none
 | x :: r,k=>if s.toList == x.toList then some k else DW s r (k+1)
theorem XaQ {s x:ByteArray} {l:List ByteArray} {j:Nat} (hx:l[j]? = some x):DW s (l.drop j) j=if s.toList == x.toList then some j else DW s (l.drop (j+1)) (j+1):=by
 obtain ⟨hj,rfl⟩:=List.getElem?_eq_some_iff.1 hx
 rw [List.drop_eq_getElem_cons hj]
 rfl
def idxI (o:Option Nat):Int:=match o with | some k=>k | none=>-1
theorem Xgp (A:Option Addr) (C:Nat) (l:List ByteArray) (s:ByteArray) (w0:World) (hA:StrsAt w0 A l) (hl:l.length≤9223372036854775807) :
   Calls Tryz.prog 141 #[.slice A l.length C,.string s] w0 fun e w'=>e = .returned (.int .i64 (idxI (DW s l 0)))∧Below w0.heap.size w0 w':=by
 have H:=Own.start w0 none
 refine JF func141 rfl ntmps141 rfl (fun a F=>?_);refine cSR fun K1 hK1=>Xa F rfl (qNK hK1 ?_);clear hK1;clear F a;intro a F;refine JD (fun K2 hK2=>?_);refine cSR fun K3 hK3=>Xf F rfl (Xx Yk rfl (Xh rfl (qNK hK3 ?_)));clear hK3;clear F a;intro a F;refine wp_block ?_
 refine JN [0,1,7] (fun m ups w=>∃ j:Nat,m=l.length - j∧ups=[(8,.int .i64 (j:Int))]∧j≤l.length∧DW s l 0=DW s (l.drop j) j∧Own w0 none w []) F (l.length) [(8,.int .i64 ((0:Nat):Int))] ?_ ?_
 · exact ⟨0,rfl,rfl,Nat.zero_le _,rfl,H⟩
 clear F
 clear H
 intro m ups a w hI F
 obtain ⟨j,rfl,rfl,hj,ht,H⟩:=hI
 refine cSR fun K4 hK4=>Xg F rfl rfl QF (qNK hK4 ?_);clear hK4;clear F a;intro a F;refine JD (fun K5 hK5=>?_)
 refine cIf F rfl (fun h9=>?_) (fun h9=>?_)
 ·
  replace h9:=of_decide_eq_true h9
  have hjl:j < l.length:=by omega
  obtain ⟨x,hx⟩:∃ x,l[j]? = some x:=⟨_,List.getElem?_eq_getElem hjl⟩
  obtain ⟨b,off,rfl,hc⟩:=hA.get hx
  refine wp_skip (hK5 _ _ ?_);clear hK5;refine JD (fun K6 hK6=>?_);refine wp_block ?_;refine cSR fun K7 hK7=>Xf F rfl (Xd rfl (qNK hK7 (qSR fun K8 hK8=>Xh rfl (Xh rfl (Xh rfl ?_)))));clear hK7;clear F a;intro a F
  refine sIx Yk YL F rfl rfl rfl rfl ?_ ?_
  focus (omega)
  clear F a;intro a F;refine sLd YY F rfl rfl rfl (H.arg hc) (Xe rfl rfl Xg1 (qNK hK8 ?_));clear hK8;clear F a;intro a F
  refine cIf F rfl (fun h16=>?_) (fun h16=>?_)
  ·
   replace h16:=J1 h16;refine cSR fun K9 hK9=>Xf F rfl (Xd rfl (qNK hK9 ?_));clear hK9;clear F a;intro a F;refine wp_ret ?_;refine xI ?_;refine JI results141 F rfl ?_
   exact ⟨by rw [ht,XaQ hx,if_pos (by simpa using h16)];rfl,H.below⟩
  replace h16:=J2 h16;refine wp_skip (hK6 _ _ (JY ?_));clear hK6
  refine Xg F rfl rfl (JJ (j:=1) ?_) ?_
  focus omega
  clear F a;intro a F;refine Xf F rfl ?_;clear F a;intro a F;refine J4 ?_
  exact ⟨l.length - (j+1),by omega,_,⟨j+1,rfl,rfl,by omega,by rw [ht,XaQ hx,if_neg (by simpa using h16)],H⟩,F.tt⟩
 replace h9:=of_decide_eq_false h9;refine wp_exit ?_;refine hK2 _ _ (cSR fun K10 hK10=>Xa F rfl (qNK hK10 ?_));clear hK2 hK10;clear F a;intro a F;refine wp_ret ?_;refine JI results141 F rfl ?_
 exact ⟨by rw [ht,List.drop_eq_nil_of_le (by omega)];rfl,H.below⟩
theorem Xch (A:Option Addr) (C:Nat) (l:List ByteArray) (s:ByteArray) (w0:World) (hA:StrsAt w0 A l) (hl:l.length≤9223372036854775807) :
   Calls Tryz.prog 131 #[.slice A l.length C,.string s] w0 fun e w'=>e = .returned (.bool (DW s l 0).isSome)∧Below w0.heap.size w0 w':=by
 have H:=Own.start w0 none
 refine JF func131 rfl ntmps131 rfl (fun a F=>?_);refine cSR fun K1 hK1=>Xa F rfl (qNK hK1 (qSR fun K2 hK2=>Xh rfl (Xh rfl ?_)));clear hK1;clear F a;intro a F;refine Xu call141 F rfl (Xgp A C l s _ hA hl) (gG H ?_);clear F a H;intro a w F H;refine Xg F rfl rfl Cb (Xd rfl (qNK hK2 ?_));clear hK2;clear F a;intro a F;refine wp_ret ?_;refine JI results131 F rfl ?_
 exact ⟨JZ (by cases DW s l 0 <;> simp [idxI]),H.below⟩
end
section
open Go.RowKit
structure Prg where
 name:ByteArray
 locs:List ByteArray
 init:List UInt8
 threads:List (List Ins)
 ask:UInt8
 cond:Cnd
def ThreadsAt (w:World) (A:Option Addr) (l:List (List Ins)):Prop:=∀ (j:Nat) (t:List Ins),l[j]? = some t→∃ b off B C,A=some ⟨b,off,none⟩∧w.cell? ⟨b,off+j * 1,none⟩=some (.slice B t.length C)∧RowsAt w B 10 (t.map Ins.cells)∧t.length≤9223372036854775807
structure ProgIn (w:World) (cs:List Value) (p:Prg) (LA:Option Addr) (LC:Nat) (IA:Option Addr) (IC:Nat) (TA:Option Addr) (TC h:Nat) (ccs:List Value):Prop where
 cs:cs=[.string p.name,.slice LA p.locs.length LC,.slice IA p.init.length IC,.slice TA p.threads.length TC,b8 p.ask]++ccs
 name:p.name.size≤maxLen
 locs:StrsAt w LA p.locs
 locsN:p.locs.length≤9223372036854775807
 locsC:p.locs.length≤LC
 locsS:∀ s ∈ p.locs,s.size≤maxLen
 init:RowsAt w IA 1 (p.init.map fun x=>[b8 x])
 initN:p.init.length≤9223372036854775807
 threads:ThreadsAt w TA p.threads
 threadsN:p.threads.length≤9223372036854775807
 cond:CondAt w h ccs p.cond
def ProgAt (w:World) (cs:List Value) (p:Prg):Prop:=∃ LA LC IA IC TA TC h ccs,ProgIn w cs p LA LC IA IC TA TC h ccs
theorem RowsAt.own {w0 w:World} {rs:List Res} {A:Option Addr} {sz:Nat} {rows:List (List Value)} (h:RowsAt w0 A sz rows) (H:Own w0 none w rs):RowsAt w A sz rows:=fun j cs hj=>by
 obtain ⟨b,off,h1,h2⟩:=h j cs hj
 exact ⟨b,off,h1,H.argR h2⟩
theorem ThreadsAt.own {w0 w:World} {rs:List Res} {A:Option Addr} {l:List (List Ins)} (h:ThreadsAt w0 A l) (H:Own w0 none w rs):ThreadsAt w A l:=fun j t hj=>by
 obtain ⟨b,off,B,C,h1,h2,h3,h4⟩:=h j t hj
 exact ⟨b,off,B,C,h1,H.arg h2,h3.own H,h4⟩
theorem ProgIn.own {w0 w:World} {rs:List Res} {cs:List Value} {p:Prg} {LA IA TA:Option Addr} {LC IC TC h:Nat} {ccs:List Value} (hp:ProgIn w0 cs p LA LC IA IC TA TC h ccs) (H:Own w0 none w rs):ProgIn w cs p LA LC IA IC TA TC h ccs:=
 ⟨hp.cs,hp.name,RowsAt.own hp.locs H,hp.locsN,hp.locsC,hp.locsS,RowsAt.own hp.init H,hp.initN,hp.threads.own H,hp.threadsN,CondAt.grown H.grown rfl _ _ _ hp.cond⟩
theorem ProgAt.own {w0 w:World} {rs:List Res} {cs:List Value} {p:Prg} (h:ProgAt w0 cs p) (H:Own w0 none w rs):ProgAt w cs p:=by
 obtain ⟨LA,LC,IA,IC,TA,TC,h,ccs,hp⟩:=h
 exact ⟨LA,LC,IA,IC,TA,TC,h,ccs,hp.own H⟩
theorem JT {w:World}:∀ {h:Nat} {cs:List Value} {c:Cnd},CondAt w h cs c→cs.length=5
 | 0,_,_,h=>h.elim
 | _+1,cs,.mk _ _ _ _ _,h=>by obtain ⟨A,C,rfl,_⟩:=h;rfl
theorem DM:∀ {l:List Value},l.length=5→∃ a b c d e,l=[a,b,c,d,e]
 | [a,b,c,d,e],_=>⟨a,b,c,d,e,rfl⟩
theorem ProgAt.len10 {w:World} {cs:List Value} {p:Prg} (h:ProgAt w cs p):∃ d1 d2 d3 d4 d5 d6 d7 d8 d9 d10,cs=[d1,d2,d3,d4,d5,d6,d7,d8,d9,d10]:=by
 obtain ⟨LA,LC,IA,IC,TA,TC,h,ccs,hp⟩:=h
 obtain ⟨c1,c2,c3,c4,c5,rfl⟩:=DM (JT hp.cond)
 have hcs:=hp.cs
 subst hcs
 exact ⟨_,_,_,_,_,_,_,_,_,_,rfl⟩
def JS (p:Prg):Bool:=decide (1≤p.threads.length) && decide (p.threads.length≤4) && p.threads.all (fun l=>decide (l.length≤12))
def Q8 (p:Prg):Bool:=p.threads.all (Nj p.locs.length)
def LX (p:Prg):Bool:=p.ask == 1 || p.ask == 2 || p.ask == 3
end
section
open Go.RowKit
structure PvAt (w:World) (V B:Nat) (cs:List Value) (p:Prg):Prop where
 var:w.rangeAt V 0 [.pointer (some ⟨B,0,none⟩)]
 blk:w.rangeAt B 0 cs
 prg:ProgAt w cs p
theorem PvAt.own {w0 w:World} {rs:List Res} {V B:Nat} {cs:List Value} {p:Prg} (h:PvAt w0 V B cs p) (H:Own w0 none w rs):PvAt w V B cs p:=⟨H.argR h.var,H.argR h.blk,h.prg.own H⟩
def XjO (P:Program) (f:List Ins→Bool) (fv:Value) (w0:World):Prop:=∀ (w:World) (rs:List Res) (A:Option Addr) (C:Nat) (l:List Ins),Own w0 none w rs→RowsAt w A 10 (l.map Ins.cells)→l.length≤9223372036854775807 →
 L4 P fv [.slice A l.length C] w (fun e w'=>e = .returned (.bool (f l))∧Below w.heap.size w w')
theorem Xb9 (f:List Ins→Bool) (fv:Value) (V B:Nat) (cs:List Value) (p:Prg) (w0:World) (hP:PvAt w0 V B cs p) (hf:XjO Tryz.prog f fv w0) :
   Calls Tryz.prog 106 #[fv,.pointer (some ⟨V,0,none⟩)] w0 fun e w'=>e = .returned (.bool (p.threads.all f))∧Below w0.heap.size w0 w':=by
 obtain ⟨hV,hB,LA,LC,IA,IC,TA,TC,h,ccs,hp⟩:=hP
 have hcs:=hp.cs
 subst hcs
 have H:=Own.start w0 none
 have hn:=hp.threadsN
 refine JF func106 rfl ntmps106 rfl (fun a F=>?_);refine cSR fun K1 hK1=>Xa F rfl (qNK hK1 ?_);clear hK1;clear F a;intro a F;refine JD (fun K2 hK2=>?_);refine cSR fun K3 hK3=>sLd YM F rfl rfl rfl (H.arg (hV 0 _ rfl)) (qNc rfl rfl rfl (Xr (f:=3) (k:=3) XM rfl Yo rfl rfl rfl (Xc Yp rfl (H.arg (hB 3 _ rfl)) (Xx X7 rfl (Xh rfl (qNK hK3 ?_))))));clear hK3;clear F a;intro a F;refine wp_block ?_
 refine JN [0,9,10] (fun m ups w=>∃ j:Nat,m=p.threads.length - j∧ups=[(11,.int .i64 (j:Int))]∧j≤p.threads.length∧p.threads.all f=(p.threads.drop j).all f∧Own w0 none w []) F (p.threads.length) [(11,.int .i64 ((0:Nat):Int))] ?_ ?_
 · exact ⟨0,rfl,rfl,Nat.zero_le _,rfl,H⟩
 clear F
 clear H
 intro m ups a w hI F
 obtain ⟨j,rfl,rfl,hj,ht,H⟩:=hI
 refine cSR fun K4 hK4=>Xg F rfl rfl QF (qNK hK4 ?_);clear hK4;clear F a;intro a F;refine JD (fun K5 hK5=>?_)
 refine cIf F rfl (fun h12=>?_) (fun h12=>?_)
 ·
  replace h12:=of_decide_eq_true h12
  have hjl:j < p.threads.length:=by omega
  obtain ⟨t,hx⟩:∃ x,p.threads[j]? = some x:=⟨_,List.getElem?_eq_getElem hjl⟩
  obtain ⟨b,off,tA,tC,rfl,hc,hR,hl⟩:=hp.threads j t hx
  refine wp_skip (hK5 _ _ ?_);clear hK5;refine JD (fun K6 hK6=>?_);refine wp_block ?_;refine cSR fun K7 hK7=>?_
  refine sIx X7 YB F rfl rfl rfl rfl ?_ ?_
  focus (omega)
  clear F a;intro a F;refine sLd YI F rfl rfl rfl (H.arg hc) (Xd rfl (qNK hK7 (qSR fun K8 hK8=>Xh rfl (Xh rfl ?_))));clear hK7;clear F a;intro a F;refine XdO F rfl rfl rfl rfl (hf _ _ tA tC t H (RowsAt.own hR H) hl) (gG H ?_);clear F a H;intro a w F H;refine Xav F rfl rfl rfl (qNK hK8 ?_);clear hK8;clear F a;intro a F
  refine cIf F rfl (fun h18=>?_) (fun h18=>?_)
  ·
   replace h18:=N1 h18;refine cSR fun K9 hK9=>Xa F rfl (qNK hK9 ?_);clear hK9;clear F a;intro a F;refine wp_ret ?_;refine xI ?_;refine JI results106 F rfl ?_
   exact ⟨JZ (by rw [ht,Lg _ hx,h18,Bool.false_and]),H.below⟩
  replace h18:=N2 h18;refine wp_skip (hK6 _ _ (JY ?_));clear hK6
  refine Xg F rfl rfl (JJ (j:=1) ?_) ?_
  focus omega
  clear F a;intro a F;refine Xf F rfl ?_;clear F a;intro a F;refine J4 ?_
  exact ⟨p.threads.length - (j+1),by omega,_,⟨j+1,rfl,rfl,by omega,by rw [ht,Lg _ hx,h18,Bool.true_and],H⟩,F.tt⟩
 replace h12:=of_decide_eq_false h12;refine wp_exit ?_;refine hK2 _ _ (cSR fun K10 hK10=>Xa F rfl (qNK hK10 ?_));clear hK2 hK10;clear F a;intro a F;refine wp_ret ?_;refine JI results106 F rfl ?_
 exact ⟨JZ (by rw [ht,List.drop_eq_nil_of_le (by omega)];rfl),H.below⟩
theorem Xfo (w0:World):XjO Tryz.prog (fun l=>decide (l.length≤12)) (.func (.func 112) #[] #[]) w0:=by
 intro w0 _ A C l _ _ hl
 refine ⟨_,[],[],rfl,call112,?_⟩
 have H:=Own.start w0 none
 refine JF func112 rfl ntmps112 rfl (fun a F=>?_);refine cSR fun K1 hK1=>Xa F rfl (qNK hK1 (qSR fun K2 hK2=>Xh rfl (Xx Yl rfl (Xe rfl rfl XjE (Xd rfl (qNK hK2 ?_))))));clear hK1 hK2;clear F a;intro a F;refine wp_ret ?_;refine JI results112 F rfl ?_
 exact ⟨JZ (by rw [Bool.eq_iff_iff];simp;omega),H.below⟩
theorem Xfz (V B:Nat) (cs:List Value) (p:Prg) (w0:World) (hP:PvAt w0 V B cs p) (hN:NeedsAt w0):XjO Tryz.prog (Nj p.locs.length) (.func (.func 114) #[] #[.pointer (some ⟨V,0,none⟩)]) w0:=by
 intro w0' _ A C l H0 hR hl
 refine ⟨_,[],[.pointer (some ⟨V,0,none⟩)],rfl,call114,?_⟩
 replace hP:=hP.own H0
 replace hN:=hN.own H0
 clear H0 w0
 obtain ⟨w0,rfl⟩:∃ w0,w0=w0':=⟨_,rfl⟩
 obtain ⟨hV,hB,LA,LC,IA,IC,TA,TC,h,ccs,hp⟩:=hP
 have hcs:=hp.cs
 subst hcs
 have H:=Own.start w0 none
 refine JF func114 rfl ntmps114 rfl (fun a F=>?_);refine cSR fun K1 hK1=>Xa F rfl (qNK hK1 (qSR fun K2 hK2=>Xh rfl (Xc YM rfl (H.arg (hV 0 _ rfl)) (qNc rfl rfl rfl (Xr (f:=1) (k:=1) XM rfl Yw rfl rfl rfl (Xc Yy rfl (H.arg (hB 1 _ rfl)) (Xx Yk rfl ?_)))))));clear hK1;clear F a;intro a F;refine Xu call115 F rfl (Xek A C l p.locs.length _ (RowsAt.own hR H) (hN.own H) hl) (gG H ?_);clear F a H;intro a w F H;refine Xa F rfl (qNK hK2 ?_);clear hK2;clear F a;intro a F;refine wp_ret ?_;refine JI results114 F rfl ?_
 exact ⟨rfl,H.below⟩
theorem Xdr (E V B:Nat) (cs:List Value) (p:Prg) (w0:World) (hP:PvAt w0 V B cs p) (hE:w0.rangeAt E 0 [.func (.func 106) #[] #[.pointer (some ⟨V,0,none⟩)]]) :
   Calls Tryz.prog 111 #[.pointer (some ⟨V,0,none⟩),.pointer (some ⟨E,0,none⟩)] w0 fun e w'=>e = .returned (.bool (JS p))∧Below w0.heap.size w0 w':=by
 have hP0:=hP
 obtain ⟨hV,hB,LA,LC,IA,IC,TA,TC,h,ccs,hp⟩:=hP
 have hcs:=hp.cs
 subst hcs
 have H:=Own.start w0 none
 refine JF func111 rfl ntmps111 rfl (fun a F=>?_);refine cSR fun K1 hK1=>Xa F rfl (qNK hK1 (qSR fun K2 hK2=>Xc YM rfl (H.arg (hV 0 _ rfl)) (qNc rfl rfl rfl (Xr (f:=3) (k:=3) XM rfl Yo rfl rfl rfl (Xc Yp rfl (H.arg (hB 3 _ rfl)) (Xx X7 rfl (Xe rfl rfl Cb (Xh rfl ?_))))))));clear hK1;clear F a;intro a F
 refine F.split 9 rfl ?_ ?_ <;> (clear F;intro h9 F)
 ·
  replace h9:=of_decide_eq_true h9;refine sLd YM F rfl rfl rfl (H.arg (hV 0 _ rfl)) (qNc rfl rfl rfl (Xr (f:=3) (k:=3) XM rfl Yo rfl rfl rfl (Xc Yp rfl (H.arg (hB 3 _ rfl)) (Xx X7 rfl (Xe rfl rfl XjE (Xy rfl rfl (Xh rfl ?_)))))));clear F a;intro a F
  refine F.split 17 rfl ?_ ?_ <;> (clear F;intro h17 F)
  ·
   replace h17:=of_decide_eq_true h17;refine sLd isAgg172 F rfl rfl rfl (H.arg (hE 0 _ rfl)) ?_;clear F a;intro a F;refine Xfr F rfl rfl rfl call106 rfl (Xb9 _ _ V B _ p _ (hP0.own H) (Xfo _)) (gG H ?_);clear F a H;intro a w F H;refine sPk F rfl rfl rfl rfl (Xd rfl (qNK hK2 ?_));clear hK2;clear F a;intro a F;refine wp_ret ?_;refine JI results111 F rfl ?_
   exact ⟨JZ (by clear F hP0 hB;simp_all [JS] <;> (intros;omega)),H.below⟩
  replace h17:=of_decide_eq_false h17;refine XB F (XC (Xy rfl rfl (Xd rfl (qNK hK2 ?_))));clear hK2;clear F a;intro a F;refine wp_ret ?_;refine JI results111 F rfl ?_
  exact ⟨JZ (by clear F hP0 hB;simp_all [JS] <;> (intros;omega)),H.below⟩
 replace h9:=of_decide_eq_false h9;refine XB F (XC (XC (XC (XC (XC (Xy rfl rfl (Xh rfl (XC (XC (Xy rfl rfl (Xd rfl (qNK hK2 ?_))))))))))));clear hK2;clear F a;intro a F;refine wp_ret ?_;refine JI results111 F rfl ?_
 exact ⟨JZ (by clear F hP0 hB;simp_all [JS] <;> (intros;omega)),H.below⟩
theorem Xdq (E V B:Nat) (cs:List Value) (p:Prg) (w0:World) (hP:PvAt w0 V B cs p) (hN:NeedsAt w0) (hE:w0.rangeAt E 0 [.func (.func 106) #[] #[.pointer (some ⟨V,0,none⟩)]]) :
   Calls Tryz.prog 113 #[.pointer (some ⟨E,0,none⟩),.pointer (some ⟨V,0,none⟩)] w0 fun e w'=>e = .returned (.bool (Q8 p))∧Below w0.heap.size w0 w':=by
 have H:=Own.start w0 none
 refine JF func113 rfl ntmps113 rfl (fun a F=>?_);refine cSR fun K1 hK1=>Xa F rfl (qNK hK1 (qSR fun K2 hK2=>Xc isAgg172 rfl (H.arg (hE 0 _ rfl)) (qFn rfl rfl rfl rfl ?_)));clear hK1;clear F a;intro a F;refine Xfr F rfl rfl rfl call106 rfl (Xb9 _ _ V B _ p _ (hP.own H) (Xfz V B cs p _ (hP.own H) (hN.own H))) (gG H ?_);clear F a H;intro a w F H;refine Xa F rfl (qNK hK2 ?_);clear hK2;clear F a;intro a F;refine wp_ret ?_;refine JI results113 F rfl ?_
 exact ⟨rfl,H.below⟩
theorem Xdp (V B:Nat) (cs:List Value) (p:Prg) (w0:World) (hP:PvAt w0 V B cs p) :
   Calls Tryz.prog 116 #[.pointer (some ⟨V,0,none⟩)] w0 fun e w'=>e = .returned (.bool (LX p))∧Below w0.heap.size w0 w':=by
 obtain ⟨hV,hB,LA,LC,IA,IC,TA,TC,h,ccs,hp⟩:=hP
 have hcs:=hp.cs
 subst hcs
 have H:=Own.start w0 none
 refine JF func116 rfl ntmps116 rfl (fun a F=>?_);refine cSR fun K1 hK1=>Xa F rfl (qNK hK1 (qSR fun K2 hK2=>Xc YM rfl (H.arg (hV 0 _ rfl)) (qNc rfl rfl rfl (Xr (f:=4) (k:=4) XM rfl XH rfl rfl rfl (Xc XJ rfl (H.arg (hB 4 _ rfl)) (Xe rfl rfl (JL (y:=1)) (Xh rfl ?_)))))));clear hK1;clear F a;intro a F
 refine F.split 7 rfl ?_ ?_ <;> (clear F;intro h7 F)
 ·
  replace h7:=J1 h7;refine XB F (XC (XC (XC (XC (Xy rfl rfl (Xh rfl (XC (XC (XC (XC (XC (Xy rfl rfl (Xd rfl (qNK hK2 ?_))))))))))))));clear hK2;clear F a;intro a F;refine wp_ret ?_;refine JI results116 F rfl ?_
  exact ⟨JZ (by clear F hB;simp_all [LX]),H.below⟩
 replace h7:=J2 h7;refine sLd YM F rfl rfl rfl (H.arg (hV 0 _ rfl)) (qNc rfl rfl rfl (Xr (f:=4) (k:=4) XM rfl XH rfl rfl rfl (Xc XJ rfl (H.arg (hB 4 _ rfl)) (Xe rfl rfl (JL (y:=2)) (Xy rfl rfl (Xh rfl ?_))))));clear F a;intro a F
 refine F.split 14 rfl ?_ ?_ <;> (clear F;intro h14 F)
 ·
  replace h14:=J1 h14;refine XB F (XC (XC (XC (XC (Xy rfl rfl (Xd rfl (qNK hK2 ?_)))))));clear hK2;clear F a;intro a F;refine wp_ret ?_;refine JI results116 F rfl ?_
  exact ⟨JZ (by clear F hB;simp_all [LX]),H.below⟩
 replace h14:=J2 h14;refine sLd YM F rfl rfl rfl (H.arg (hV 0 _ rfl)) (qNc rfl rfl rfl (Xr (f:=4) (k:=4) XM rfl XH rfl rfl rfl (Xc XJ rfl (H.arg (hB 4 _ rfl)) (Xe rfl rfl (JL (y:=3)) (Xy rfl rfl (Xd rfl (qNK hK2 ?_)))))));clear hK2;clear F a;intro a F;refine wp_ret ?_;refine JI results116 F rfl ?_
 exact ⟨JZ (by clear F hB;simp_all [LX]),H.below⟩
set_option maxRecDepth 10000 in
theorem Xdo (V B:Nat) (cs:List Value) (p:Prg) (w0:World) (hP:PvAt w0 V B cs p) :
   Calls Tryz.prog 117 #[.pointer (some ⟨V,0,none⟩)] w0 fun e w'=>e = .returned (.bool (Qs p.threads.length p.locs.length 20 p.cond))∧Below w0.heap.size w0 w':=by
 obtain ⟨hV,hB,LA,LC,IA,IC,TA,TC,h,ccs,hp⟩:=hP
 have hcs:=hp.cs
 subst hcs
 obtain ⟨c0,c1,c2,c3,c4,rfl⟩:=DM (JT hp.cond)
 have H:=Own.start w0 none
 refine JF func117 rfl ntmps117 rfl (fun a F=>?_);refine cSR fun K1 hK1=>Xa F rfl (qNK hK1 ?_);clear hK1;clear F a;intro a F;refine JD (fun K2 hK2=>?_);refine B6 (by kernel_rfl) H ?_;replace H:=H.drew;refine XD F rfl (fun w H=>rLd YM F rfl (H.arg (hV 0 _ rfl))) H qq0 (XE rfl (fun a F w H=>rNc F rfl) H qq0 (XE rfl (fun a F w H=>rFa (f:=5) (k:=5) XM rfl YP rfl rfl F rfl) H qq0 ?_));clear F a;intro a F
 refine XD (k:=3) F rfl (fun w H=>rLr X3 rfl ?si F rfl (H.argR (Xit hB 5 5))) H (fun _ _ _ h=>h) ?_
 case si=>exact Jz YP
 clear F a;intro a F;refine XD F rfl (fun w H=>rLd YM F rfl (H.arg (hV 0 _ rfl))) H qq0 (XE rfl (fun a F w H=>rNc F rfl) H qq0 (XE rfl (fun a F w H=>rFa (f:=3) (k:=3) XM rfl Yo rfl rfl F rfl) H qq0 (XE rfl (fun a F w H=>rLd Yp F rfl (H.arg (hB 3 _ rfl))) H qq0 (XE rfl (fun a F w H=>Bw X7 F rfl) H qq0 (XE rfl (fun a F w H=>rLd YM F rfl (H.arg (hV 0 _ rfl))) H qq0 (XE rfl (fun a F w H=>rNc F rfl) H qq0 (XE rfl (fun a F w H=>rFa (f:=1) (k:=1) XM rfl Yw rfl rfl F rfl) H qq0 (XE rfl (fun a F w H=>rLd Yy F rfl (H.arg (hB 1 _ rfl))) H qq0 (XE rfl (fun a F w H=>Bw Yk F rfl) H qq0 ?_)))))))));clear F a;intro a F;refine dOne (k:=14) (by kernel_rfl) F rfl (J3 call118 F rfl rfl (Xid _ _ h [c0,c1,c2,c3,c4] p.cond _ (CondAt.grown H.grown rfl _ _ _ hp.cond)) (gG H ?_));clear F a H;intro a w F H;refine XgK (j:=14) rfl (by kernel_rfl) (by kernel_rfl) H ?_;refine XD F rfl (fun w H=>rAs F rfl) H qq0 ?_;clear F a;intro a F
 refine Xe5 (k:=16) ?_ rfl
 refine hK2 _ _ ?_;clear hK2;refine wp_ret ?_;refine JI results117 F rfl ?_
 exact ⟨rfl,H.below⟩
end
end Go.Proofs.YtcpehikcegoojaaGreatDoor
