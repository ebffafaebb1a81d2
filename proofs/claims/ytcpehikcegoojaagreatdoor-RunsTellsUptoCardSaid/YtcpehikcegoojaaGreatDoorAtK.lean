/-
  Plain Lean: threads and states by place (a thread: its Pc at 0, its registers from 1 on; a state: thread t from 9 t on, memory from 36 on, Qz from 42 on, their lengths from 138 on), and what a move computes. Conditions: none.

  WALK2. Package atomic: Worth, moved, skips, Local. Conditions: none.

  WALK2. Package atomic: Local. Conditions: none.

  WALK2. Package atomic: effects, step. Conditions: the program lies in memory.

  WALK2. Package atomic: step. Conditions: the program lies in memory; the thread has an instruction at its Pc, which is a valid one.

  Plain Lean: valid states, enabled threads, runs. Conditions: none.

  WALK2. Package atomic: Right, Start, enabled, Moves, Over. Conditions: the program lies in memory.

  WALK2. Package atomic: Start, enabled. Conditions: the program lies in memory.

  WALK2. Package atomic: Moves, Over, Move, Final. Conditions: the program lies in memory.

  Plain Lean: a move from a valid state. Conditions: none.

  WALK2. Package atomic: Move. Conditions: the program lies in memory.

  WALK2. Package atomic: Play. Conditions: the program and the picks lie in memory.

  Plain Lean: two moves commute. Conditions: none.

  Plain Lean: runs by the indices of their moves. Conditions: none.
-/
import Derived.Test.YtcpehikcegoojaaGreatDoorCkK
import Derived.Test.YtcpehikcegoojaaGreatDoorVcL
import Derived.Test.YtcpehikcegoojaaGreatDoorCkL
set_option linter.unusedSimpArgs false
set_option linter.unusedVariables false
namespace Go.Proofs.YtcpehikcegoojaaGreatDoor
open Go.Proofs.Tryz
def NQ (r:Bool) (n:UInt8) (regs:By):UInt8:=if r then (if n.toNat < 8 then regs n.toNat else 0) else n
def Lk (fn a b:UInt8):UInt8:=if fn=1 then a+b else if fn=2 then a - b else if fn=3 then a ^^^ b else 0
def MC (fn a b:UInt8):Bool:=if fn=4 then a == b else if fn=5 then a != b else if fn=6 then decide (a < b) else false
def Ns (x:Ins) (t:By):UInt8:=NQ x.aR x.aN (cut t 1)
def E9 (x:Ins) (t:By):UInt8:=NQ x.bR x.bN (cut t 1)
def MR (t:By) (dst v:UInt8):By:=if dst.toNat < 8 then put t (1+dst.toNat) v else t
def Ni (x:Ins) (t:By):By:=
 if x.op=3 then put (MR t x.dst (Lk x.fn (Ns x t) (E9 x t))) 0 (t 0+1)
 else if x.op=8 then put t 0 (if MC x.fn (Ns x t) (E9 x t) then t 0+x.skip+1 else t 0+1)
 else if x.op=7 then put t 0 (t 0+1)
 else t
def JB (x:Ins):Bool:=x.op == 3 || x.op == 8 || x.op == 7
def Cd (x:Ins) (t:By) (had:UInt8):UInt8:=
 if x.op=2∨x.op=4 then Ns x t else if x.op=5 then had+Ns x t else if x.op=6 then (if had=Ns x t then E9 x t else had) else had
def Xdd (x:Ins) (t:By) (had:UInt8):By:=put (if x.op=2 then t else MR t x.dst had) 0 (t 0+1)
def Lp (x:Ins) (s:By) (t:Nat):By:=
 if JB x then lay s (t * 9) 9 (Ni x (cut s (t * 9)))
 else lay (put s (36+x.loc.toNat) (Cd x (cut s (t * 9)) (s (36+x.loc.toNat)))) (t * 9) 9 (Xdd x (cut s (t * 9)) (s (36+x.loc.toNat)))
section
open Go.RowKit
set_option maxRecDepth 100000
theorem DG {a b:UInt8} (h:a=b):(Ending.returned (b8 a):Ending) = .returned (b8 b):=by rw [h]
theorem Lr (r:Bool) (n:UInt8) (s:By) (w0:World):Calls Tryz.prog 91 #[.agg #[.bool r,b8 n],.agg (bs 8 s).toArray] w0 fun e w'=>e = .returned (b8 (NQ r n s))∧Below w0.heap.size w0 w':=by
 have H:=Own.start w0 none
 refine JF func91 rfl ntmps91 rfl (fun a F=>?_);refine cSR fun K1 hK1=>?_;refine sBx H F rfl rfl rfl ?_;clear F a H;intro b2 a w F H;refine Mg H F rfl rfl rfl ?_;clear F a H;intro b3 a w F H;refine Xa F rfl (qNK hK1 ?_);clear hK1;clear F a;intro a F;refine JD (fun K2 hK2=>?_);refine cSR fun K3 hK3=>Xb (f:=0) (k:=0) XV rfl YQ rfl rfl F rfl (Xc Y6 rfl (H.cell 1 rfl rfl) (Cc rfl rfl rfl (qNK hK3 ?_)));clear hK3;clear F a;intro a F
 refine cIf F rfl (fun h7=>?_) (fun h7=>?_)
 ·
  replace h7:=N1 h7;refine cSR fun K4 hK4=>Xb (f:=1) (k:=1) XV rfl XH rfl rfl F rfl (Xc XJ rfl (H.cell 1 rfl rfl) (Xd rfl (qNK hK4 ?_)));clear hK4;clear F a;intro a F;refine wp_ret ?_;simp only [Exit.then];refine JI results91 F rfl ?_
  exact ⟨by exact DG (by simp_all [NQ,cut];skip),H.below⟩
 replace h7:=N2 h7;refine wp_skip (hK2 _ _ ?_);clear hK2;refine JD (fun K5 hK5=>?_);refine cSR fun K6 hK6=>Xb (f:=1) (k:=1) XV rfl XH rfl rfl F rfl (Xc XJ rfl (H.cell 1 rfl rfl) (qCv XO XT rfl rfl rfl (QG _) (Xe rfl rfl Cb (qNK hK6 ?_))));clear hK6;clear F a;intro a F
 refine cIf F rfl (fun h13=>?_) (fun h13=>?_)
 ·
  replace h13:=of_decide_eq_true h13;refine cSR fun K7 hK7=>Xa F rfl (qNK hK7 ?_);clear hK7;clear F a;intro a F;refine wp_ret ?_;simp only [Exit.then];refine JI results91 F rfl ?_
  exact ⟨by exact DG (a:=0) (by simp_all [NQ,cut];omega),H.below⟩
 replace h13:=of_decide_eq_false h13;refine wp_skip (hK5 _ _ (cSR fun K8 hK8=>Xb (f:=1) (k:=1) XV rfl XH rfl rfl F rfl (Xc XJ rfl (H.cell 1 rfl rfl) ?_)));clear hK5;clear F a;intro a F
 refine Xi3 X9 XH F rfl rfl rfl rfl ?_ ?_
 focus (omega)
 clear F a;intro a F;refine sLd XJ F rfl rfl rfl (H.ce' 0 rfl) (Xd rfl (qNK hK8 ?_));clear hK8;clear F a;intro a F;refine wp_ret ?_;refine JI results91 F rfl ?_
 exact ⟨by exact DG (by simp_all [NQ,cut];omega),H.below⟩
theorem XfY (fn a b:UInt8) (w0:World):Calls Tryz.prog 121 #[b8 fn,b8 a,b8 b] w0 fun e w'=>e = .returned (b8 (Lk fn a b))∧Below w0.heap.size w0 w':=by
 have H:=Own.start w0 none
 refine JF func121 rfl ntmps121 rfl (fun a F=>?_);refine cSR fun K1 hK1=>Xa F rfl (qNK hK1 ?_);clear hK1;clear F a;intro a F;refine JD (fun K2 hK2=>?_);refine cSR fun K3 hK3=>Xf F rfl (qNK hK3 ?_);clear hK3;clear F a;intro a F;refine wp_block ?_;refine cSR fun K4 hK4=>Xg F rfl rfl (JL (y:=1)) (Xd rfl (qNK hK4 ?_));clear hK4;clear F a;intro a F
 refine cIf F rfl (fun h8=>?_) (fun h8=>?_)
 ·
  replace h8:=J1 h8;refine cSR fun K5 hK5=>Xf F rfl (Xh rfl (Xe rfl rfl (ND) (Xd rfl (qNK hK5 ?_))));clear hK5;clear F a;intro a F;refine wp_ret ?_;refine xI ?_;refine JI results121 F rfl ?_
  exact ⟨by exact DG (by simp_all [Lk]),H.below⟩
 replace h8:=J2 h8;refine cSR fun K6 hK6=>Xg F rfl rfl (JL (y:=2)) (Xd rfl (qNK hK6 ?_));clear hK6;clear F a;intro a F
 refine cIf F rfl (fun h13=>?_) (fun h13=>?_)
 ·
  replace h13:=J1 h13;refine cSR fun K7 hK7=>Xf F rfl (Xh rfl (Xe rfl rfl (Xik) (Xd rfl (qNK hK7 ?_))));clear hK7;clear F a;intro a F;refine wp_ret ?_;refine xI ?_;refine JI results121 F rfl ?_
  exact ⟨by exact DG (by simp_all [Lk]),H.below⟩
 replace h13:=J2 h13;refine cSR fun K8 hK8=>Xg F rfl rfl (JL (y:=3)) (Xd rfl (qNK hK8 ?_));clear hK8;clear F a;intro a F
 refine cIf F rfl (fun h18=>?_) (fun h18=>?_)
 ·
  replace h18:=J1 h18;refine cSR fun K9 hK9=>Xf F rfl (Xh rfl (Xe rfl rfl (XkI) (Xd rfl (qNK hK9 ?_))));clear hK9;clear F a;intro a F;refine wp_ret ?_;refine xI ?_;refine JI results121 F rfl ?_
  exact ⟨by exact DG (by simp_all [Lk]),H.below⟩
 replace h18:=J2 h18;refine wp_skip (hK2 _ _ (cSR fun K10 hK10=>Xa F rfl (qNK hK10 ?_)));clear hK2 hK10;clear F a;intro a F;refine wp_ret ?_;refine JI results121 F rfl ?_
 exact ⟨by exact DG (a:=0) (by simp_all [Lk]),H.below⟩
theorem Xfm (fn a b:UInt8) (w0:World):Calls Tryz.prog 122 #[b8 fn,b8 a,b8 b] w0 fun e w'=>e = .returned (.bool (MC fn a b))∧Below w0.heap.size w0 w':=by
 have H:=Own.start w0 none
 refine JF func122 rfl ntmps122 rfl (fun a F=>?_);refine cSR fun K1 hK1=>Xa F rfl (qNK hK1 ?_);clear hK1;clear F a;intro a F;refine JD (fun K2 hK2=>?_);refine cSR fun K3 hK3=>Xf F rfl (qNK hK3 ?_);clear hK3;clear F a;intro a F;refine wp_block ?_;refine cSR fun K4 hK4=>Xg F rfl rfl (JL (y:=4)) (Xd rfl (qNK hK4 ?_));clear hK4;clear F a;intro a F
 refine cIf F rfl (fun h8=>?_) (fun h8=>?_)
 ·
  replace h8:=J1 h8;refine cSR fun K5 hK5=>Xf F rfl (Xh rfl (Xe rfl rfl JL (Xd rfl (qNK hK5 ?_))));clear hK5;clear F a;intro a F;refine wp_ret ?_;refine xI ?_;refine JI results122 F rfl ?_
  exact ⟨JZ (by simp_all [MC]),H.below⟩
 replace h8:=J2 h8;refine cSR fun K6 hK6=>Xg F rfl rfl (JL (y:=5)) (Xd rfl (qNK hK6 ?_));clear hK6;clear F a;intro a F
 refine cIf F rfl (fun h13=>?_) (fun h13=>?_)
 ·
  replace h13:=J1 h13;refine cSR fun K7 hK7=>Xf F rfl (Xh rfl (Xe rfl rfl Xba (Xd rfl (qNK hK7 ?_))));clear hK7;clear F a;intro a F;refine wp_ret ?_;refine xI ?_;refine JI results122 F rfl ?_
  exact ⟨JZ (by simp_all [MC]),H.below⟩
 replace h13:=J2 h13;refine cSR fun K8 hK8=>Xg F rfl rfl (JL (y:=6)) (Xd rfl (qNK hK8 ?_));clear hK8;clear F a;intro a F
 refine cIf F rfl (fun h18=>?_) (fun h18=>?_)
 ·
  replace h18:=J1 h18;refine cSR fun K9 hK9=>Xf F rfl (Xh rfl (Xe rfl rfl Eu (Xd rfl (qNK hK9 ?_))));clear hK9;clear F a;intro a F;refine wp_ret ?_;refine xI ?_;refine JI results122 F rfl ?_
  exact ⟨JZ (by simp_all [MC]),H.below⟩
 replace h18:=J2 h18;refine wp_skip (hK2 _ _ (cSR fun K10 hK10=>Xa F rfl (qNK hK10 ?_)));clear hK2 hK10;clear F a;intro a F;refine wp_ret ?_;refine JI results122 F rfl ?_
 exact ⟨JZ (by simp_all [MC]),H.below⟩
end
section
open Go.RowKit
set_option maxRecDepth 100000
theorem Lo {n:Nat} {s t:By} {v:Value} (h:∀ i,i < n→s i=t i):(Ending.returned (.tuple #[.agg (bs n s).toArray,v]):Ending) = .returned (.tuple #[.agg (bs n t).toArray,v]):=by rw [Xcl h]
theorem ET (x:Ins) (t:By) (w0:World) :
   Calls Tryz.prog 94 #[.agg x.cells.toArray,.agg (bs 9 t).toArray] w0 fun e w'=>e = .returned (.tuple #[.agg (bs 9 (Ni x t)).toArray,.bool (JB x)])∧Below w0.heap.size w0 w':=by
 have H:=Own.start w0 none
 refine JF func94 rfl ntmps94 rfl (fun a F=>?_);refine cSR fun K1 hK1=>?_;refine sBx H F rfl rfl rfl ?_;clear F a H;intro b2 a w F H;refine Mg H F rfl rfl rfl ?_;clear F a H;intro b3 a w F H;refine Mo H Xe1 F rfl rfl ?_;clear F a H;intro b4 a w F H;refine Xa F rfl (qNK hK1 ?_);clear hK1;clear F a;intro a F;refine JD (fun K2 hK2=>?_);refine Xi H ?_;replace H:=H.drew;refine Xj 0 rfl F rfl (fun w=>rFa (f:=3) (k:=3) XI rfl XR rfl rfl F rfl) H qq0 ?_;clear F a;intro a F
 refine Xk (k:=1) (i:=1) rfl F rfl rfl (fun w H=>rLr XV rfl ?si F rfl (H.range 2 rfl _ 2)) H (fun _ _ _ h=>h) ?_
 case si=>exact Jz XR
 clear F a;intro a F;refine Xj 2 rfl F rfl (fun w=>rFa (f:=1) (k:=1) XK rfl X1 rfl rfl F rfl) H qq0 (Xl 3 rfl rfl rfl (fun a F w H=>Nt X9 rfl X1 F rfl (H.ra' 1 _ 8 rfl)) H qq0 (Xm 5 rfl rfl (fun a F w=>rFa (f:=4) (k:=5) XI rfl XR rfl rfl F rfl) H qq0 ?_));clear F a;intro a F
 refine Xk (k:=5) (i:=6) rfl F rfl rfl (fun w H=>rLr XV rfl ?si F rfl (H.range 2 rfl _ 2)) H (fun _ _ _ h=>h) ?_
 case si=>exact Jz XR
 clear F a;intro a F;refine Xj 7 rfl F rfl (fun w=>rFa (f:=1) (k:=1) XK rfl X1 rfl rfl F rfl) H qq0 (Xl 8 rfl rfl rfl (fun a F w H=>Nt X9 rfl X1 F rfl (H.ra' 1 _ 8 rfl)) H qq0 ?_);clear F a;intro a F;refine Xn (k:=8) (i:=4) rfl F (J3 call91 F rfl rfl (Lr x.aR x.aN (cut t 1) _) (gG H ?_));clear F a H;intro a w F H;refine JR H ?_;refine Xn (k:=9) (i:=9) rfl F (J3 call91 F rfl rfl (Lr x.bR x.bN (cut t 1) _) (gG H ?_));clear F a H;intro a w F H;refine Xo H ?_;refine Xj 10 rfl F rfl (fun w=>rAs F rfl) H qq0 (Xm 11 rfl rfl (fun a F w=>rAs F rfl) H qq0 ?_);clear F a;intro a F;refine Xp (k:=12) ?_;refine hK2 _ _ ?_;clear hK2;refine JD (fun K3 hK3=>?_);refine cSR fun K4 hK4=>Xb (f:=0) (k:=0) XI rfl XH rfl rfl F rfl (Xc XJ rfl (H.cell 2 rfl rfl) (qNK hK4 ?_));clear hK4;clear F a;intro a F;refine wp_block ?_;refine cSR fun K5 hK5=>Xg F rfl rfl (JL (y:=3)) (Xd rfl (qNK hK5 ?_));clear hK5;clear F a;intro a F
 refine cIf F rfl (fun h21=>?_) (fun h21=>?_)
 ·
  replace h21:=J1 h21;refine cSR fun K6 hK6=>Xb (f:=1) (k:=1) XI rfl XH rfl rfl F rfl (Xc XJ rfl (H.cell 2 rfl rfl) (qCv XO XT rfl rfl rfl (QG _) (Xe rfl rfl QF (qNK hK6 ?_))));clear hK6;clear F a;intro a F
  refine cIf F rfl (fun h26=>?_) (fun h26=>?_)
  ·
   replace h26:=of_decide_eq_true h26
   replace h26:x.dst.toNat < 8:=by omega
   refine Xi H ?_;replace H:=H.drew;refine Xj 0 rfl F rfl (fun w=>rFa (f:=1) (k:=1) XI rfl XH rfl rfl F rfl) H qq0 (Xl 1 rfl rfl rfl (fun a F w H=>rLd XJ F rfl (H.cell 2 rfl rfl)) H qq0 (Xm 2 rfl rfl (fun a F w=>rFa (f:=5) (k:=7) XI rfl XH rfl rfl F rfl) H qq0 (Xl 3 rfl rfl rfl (fun a F w H=>rLd XJ F rfl (H.cell 2 rfl rfl)) H qq0 (Xm 4 rfl rfl (fun a F w=>rMv F rfl) H qq0 (Xm 5 rfl rfl (fun a F w=>rMv F rfl) H qq0 (Xm 7 rfl rfl (fun a F w=>rFa (f:=1) (k:=1) XK rfl X1 rfl rfl F rfl) H qq0 ?_))))));clear F a;intro a F;refine Xn (k:=7) (i:=6) rfl F (J3 call121 F rfl rfl (XfY x.fn _ _ _) (gG H ?_));clear F a H;intro a w F H;refine JR H ?_
   refine Xq (k:=8) (i:=8) rfl F rfl (fun w=>XiA X9 XH F rfl rfl ?_) H (fun _ _ _ h=>h) ?_
   focus (omega)
   clear F a;intro a F;refine Xn (k:=9) (i:=9) rfl F (XjP H 1 XH F rfl rfl rfl (by omega) ?_);clear H;intro w H;refine Xo H ?_;refine Xp (k:=10) ?_;refine hK3 _ _ (cSR fun K7 hK7=>Xb (f:=0) (k:=0) XK rfl XH rfl rfl F rfl (Xc XJ rfl (H.ce' 1 rfl) (Xe rfl rfl (ND (y:=1)) (Xr (f:=0) (k:=0) XK rfl XH rfl rfl rfl ?_))));clear hK3;clear F a;intro a F;refine LJ H 1 XH F rfl rfl rfl rfl (by omega) ?_;clear H;intro w H;refine nK hK7 (cSR fun K8 hK8=>Xs XK rfl XN F rfl (H.whole 1 rfl) ?_);clear hK7;clear F a;intro a F;refine Xt H 0 XN F rfl rfl rfl ?_;clear H;intro w H;rw [JE] at H;refine Xa F rfl (qNK hK8 ?_);clear hK8;clear F a;intro a F;refine wp_ret ?_;refine QJ Zc F rfl rfl XK rfl XN H 0 rfl ?_
   refine ⟨?_,H.below⟩
   clear F H
   (have e1:JB x=true:=by simp [JB, *]
    rw [e1];refine Lo fun i _=>?_;by_cases hi:i=0 <;> simp [Ni,MR,Ns,E9,put,hi, *] <;> omega)
  replace h26:=of_decide_eq_false h26
  replace h26:¬ x.dst.toNat < 8:=by omega
  refine wp_skip (hK3 _ _ (cSR fun K9 hK9=>Xb (f:=0) (k:=0) XK rfl XH rfl rfl F rfl (Xc XJ rfl (H.ce' 1 rfl) (Xe rfl rfl (ND (y:=1)) (Xr (f:=0) (k:=0) XK rfl XH rfl rfl rfl ?_)))));clear hK3;clear F a;intro a F;refine LJ H 1 XH F rfl rfl rfl rfl (by omega) ?_;clear H;intro w H;refine nK hK9 (cSR fun K10 hK10=>Xs XK rfl XN F rfl (H.whole 1 rfl) ?_);clear hK9;clear F a;intro a F;refine Xt H 0 XN F rfl rfl rfl ?_;clear H;intro w H;rw [JE] at H;refine Xa F rfl (qNK hK10 ?_);clear hK10;clear F a;intro a F;refine wp_ret ?_;refine QJ Zc F rfl rfl XK rfl XN H 0 rfl ?_
  refine ⟨?_,H.below⟩
  clear F H
  (have e1:JB x=true:=by simp [JB, *]
   rw [e1];refine Lo fun i _=>?_;by_cases hi:i=0 <;> simp [Ni,MR,Ns,E9,put,hi, *] <;> omega)
 replace h21:=J2 h21;refine cSR fun K11 hK11=>Xg F rfl rfl (JL (y:=8)) (Xd rfl (qNK hK11 ?_));clear hK11;clear F a;intro a F
 refine cIf F rfl (fun h36=>?_) (fun h36=>?_)
 ·
  replace h36:=J1 h36;refine cSR fun K12 hK12=>Xb (f:=5) (k:=7) XI rfl XH rfl rfl F rfl (Xc XJ rfl (H.cell 2 rfl rfl) (Xh rfl (Xh rfl ?_)));clear F a;intro a F;refine Xu call122 F rfl (Xfm x.fn _ _ _) (gG H ?_);clear F a H;intro a w F H;refine nK hK12 ?_;clear hK12
  refine cIf F rfl (fun h42=>?_) (fun h42=>?_)
  ·
   refine JY (Xb (f:=0) (k:=0) XK rfl XH rfl rfl F rfl (Xc XJ rfl (H.ce' 1 rfl) (Xr (f:=7) (k:=9) XI rfl XH rfl rfl rfl (Xc XJ rfl (H.cell 2 rfl rfl) (Xe rfl rfl (ND) (Xr (f:=0) (k:=0) XK rfl XH rfl rfl rfl ?_))))));clear F a;intro a F;refine LJ H 1 XH F rfl rfl rfl rfl (by omega) ?_;clear H;intro w H;refine nK hK3 (cSR fun K13 hK13=>Xb (f:=0) (k:=0) XK rfl XH rfl rfl F rfl (Xc XJ rfl (H.ce' 1 rfl) (Xe rfl rfl (ND (y:=1)) (Xr (f:=0) (k:=0) XK rfl XH rfl rfl rfl ?_))));clear hK3;clear F a;intro a F;refine LJ H 1 XH F rfl rfl rfl rfl (by omega) ?_;clear H;intro w H;refine nK hK13 (cSR fun K14 hK14=>Xs XK rfl XN F rfl (H.whole 1 rfl) ?_);clear hK13;clear F a;intro a F;refine Xt H 0 XN F rfl rfl rfl ?_;clear H;intro w H;rw [JE] at H;refine Xa F rfl (qNK hK14 ?_);clear hK14;clear F a;intro a F;refine wp_ret ?_;refine QJ Zc F rfl rfl XK rfl XN H 0 rfl ?_
   refine ⟨?_,H.below⟩
   clear F H
   (have e1:JB x=true:=by simp [JB, *]
    rw [e1];refine Lo fun i _=>?_;by_cases hi:i=0 <;> simp [Ni,MR,Ns,E9,put,hi, *] <;> omega)
  refine wp_skip (hK3 _ _ (cSR fun K15 hK15=>Xb (f:=0) (k:=0) XK rfl XH rfl rfl F rfl (Xc XJ rfl (H.ce' 1 rfl) (Xe rfl rfl (ND (y:=1)) (Xr (f:=0) (k:=0) XK rfl XH rfl rfl rfl ?_)))));clear hK3;clear F a;intro a F;refine LJ H 1 XH F rfl rfl rfl rfl (by omega) ?_;clear H;intro w H;refine nK hK15 (cSR fun K16 hK16=>Xs XK rfl XN F rfl (H.whole 1 rfl) ?_);clear hK15;clear F a;intro a F;refine Xt H 0 XN F rfl rfl rfl ?_;clear H;intro w H;rw [JE] at H;refine Xa F rfl (qNK hK16 ?_);clear hK16;clear F a;intro a F;refine wp_ret ?_;refine QJ Zc F rfl rfl XK rfl XN H 0 rfl ?_
  refine ⟨?_,H.below⟩
  clear F H
  (have e1:JB x=true:=by simp [JB, *]
   rw [e1];refine Lo fun i _=>?_;by_cases hi:i=0 <;> simp [Ni,MR,Ns,E9,put,hi, *] <;> omega)
 replace h36:=J2 h36;refine cSR fun K17 hK17=>Xg F rfl rfl (JL (y:=7)) (Xd rfl (qNK hK17 ?_));clear hK17;clear F a;intro a F
 refine cIf F rfl (fun h49=>?_) (fun h49=>?_)
 ·
  replace h49:=J1 h49;refine wp_skip (hK3 _ _ (cSR fun K18 hK18=>Xb (f:=0) (k:=0) XK rfl XH rfl rfl F rfl (Xc XJ rfl (H.ce' 1 rfl) (Xe rfl rfl (ND (y:=1)) (Xr (f:=0) (k:=0) XK rfl XH rfl rfl rfl ?_)))));clear hK3;clear F a;intro a F;refine LJ H 1 XH F rfl rfl rfl rfl (by omega) ?_;clear H;intro w H;refine nK hK18 (cSR fun K19 hK19=>Xs XK rfl XN F rfl (H.whole 1 rfl) ?_);clear hK18;clear F a;intro a F;refine Xt H 0 XN F rfl rfl rfl ?_;clear H;intro w H;rw [JE] at H;refine Xa F rfl (qNK hK19 ?_);clear hK19;clear F a;intro a F;refine wp_ret ?_;refine QJ Zc F rfl rfl XK rfl XN H 0 rfl ?_
  refine ⟨?_,H.below⟩
  clear F H
  (have e1:JB x=true:=by simp [JB, *]
   rw [e1];refine Lo fun i _=>?_;by_cases hi:i=0 <;> simp [Ni,MR,Ns,E9,put,hi, *] <;> omega)
 replace h49:=J2 h49;refine cSR fun K20 hK20=>Xs XK rfl XN F rfl (H.whole 1 rfl) ?_;clear F a;intro a F;refine Xt H 0 XN F rfl rfl rfl ?_;clear H;intro w H;rw [JE] at H;refine Xa F rfl (qNK hK20 ?_);clear hK20;clear F a;intro a F;refine wp_ret ?_;refine xI ?_;refine QJ Zc F rfl rfl XK rfl XN H 0 rfl ?_
 refine ⟨?_,H.below⟩
 clear F H
 (have e1:JB x=false:=by simp [JB, *]
  rw [e1];refine Lo fun i _=>?_;by_cases hi:i=0 <;> simp [Ni,MR,Ns,E9,put,hi, *] <;> omega)
end
section
open Go.RowKit
set_option maxRecDepth 100000
def Xh4 (op old a b:UInt8):UInt8:=if op=2∨op=4 then a else if op=5 then old+a else if op=6 then (if old=a then b else old) else old
def effs:List (UInt8 × Value):=[(1,.func (.func 153) #[] #[]),(2,.func (.func 154) #[] #[]),(4,.func (.func 155) #[] #[]),(5,.func (.func 156) #[] #[]),(6,.func (.func 157) #[] #[])]
def LW (op:UInt8):Prop:=op=1∨op=2∨op=4∨op=5∨op=6
theorem Xdk (w0:World):Calls Tryz.prog 135 #[] w0 fun e w'=>∃ b,e = .returned (.map (some b))∧Own w0 none w' [.mpB b effs]:=by
 have H:=Own.start w0 none
 refine JF func135 rfl ntmps135 rfl (fun a F=>?_);refine cSR fun K1 hK1=>Xa F rfl (qNK hK1 (qSR fun K2 hK2=>?_));clear hK1;clear F a;intro a F;refine sMkM H F rfl rfl ?_;clear F a H;intro b1 a w F H;refine Xj3 (k:=1) H 0 YS XO F rfl rfl rfl rfl rfl rfl ?_;clear H;intro w H;refine Xj3 (k:=2) H 0 YS XO F rfl rfl rfl rfl rfl rfl ?_;clear H;intro w H;refine Xj3 (k:=4) H 0 YS XO F rfl rfl rfl rfl rfl rfl ?_;clear H;intro w H;refine Xj3 (k:=5) H 0 YS XO F rfl rfl rfl rfl rfl rfl ?_;clear H;intro w H;refine Xj3 (k:=6) H 0 YS XO F rfl rfl rfl rfl rfl rfl ?_;clear H;intro w H;refine Xf F rfl (Xd rfl (qNK hK2 ?_));clear hK2;clear F a;intro a F;refine wp_ret ?_;refine JI results135 F rfl ?_
 exact ⟨_,rfl,H⟩
theorem Xh9 (old a b:UInt8) (w0:World):Calls Tryz.prog 153 #[b8 old,b8 a,b8 b] w0 fun e w'=>e = .returned (b8 (Xh4 1 old a b))∧Below w0.heap.size w0 w':=by
 have H:=Own.start w0 none
 refine JF func153 rfl ntmps153 rfl (fun a F=>?_);refine cSR fun K1 hK1=>Xa F rfl (qNK hK1 (qSR fun K2 hK2=>Xh rfl (Xd rfl (qNK hK2 ?_))));clear hK1 hK2;clear F a;intro a F;refine wp_ret ?_;refine JI results153 F rfl ?_
 exact ⟨DG rfl,H.below⟩
theorem Xh8 (old a b:UInt8) (w0:World):Calls Tryz.prog 154 #[b8 old,b8 a,b8 b] w0 fun e w'=>e = .returned (b8 (Xh4 2 old a b))∧Below w0.heap.size w0 w':=by
 have H:=Own.start w0 none
 refine JF func154 rfl ntmps154 rfl (fun a F=>?_);refine cSR fun K1 hK1=>Xa F rfl (qNK hK1 (qSR fun K2 hK2=>Xh rfl (Xd rfl (qNK hK2 ?_))));clear hK1 hK2;clear F a;intro a F;refine wp_ret ?_;refine JI results154 F rfl ?_
 exact ⟨DG rfl,H.below⟩
theorem Xh7 (old a b:UInt8) (w0:World):Calls Tryz.prog 155 #[b8 old,b8 a,b8 b] w0 fun e w'=>e = .returned (b8 (Xh4 4 old a b))∧Below w0.heap.size w0 w':=by
 have H:=Own.start w0 none
 refine JF func155 rfl ntmps155 rfl (fun a F=>?_);refine cSR fun K1 hK1=>Xa F rfl (qNK hK1 (qSR fun K2 hK2=>Xh rfl (Xd rfl (qNK hK2 ?_))));clear hK1 hK2;clear F a;intro a F;refine wp_ret ?_;refine JI results155 F rfl ?_
 exact ⟨DG rfl,H.below⟩
theorem Xh6 (old a b:UInt8) (w0:World):Calls Tryz.prog 156 #[b8 old,b8 a,b8 b] w0 fun e w'=>e = .returned (b8 (Xh4 5 old a b))∧Below w0.heap.size w0 w':=by
 have H:=Own.start w0 none
 refine JF func156 rfl ntmps156 rfl (fun a F=>?_);refine cSR fun K1 hK1=>Xa F rfl (qNK hK1 (qSR fun K2 hK2=>Xh rfl (Xh rfl (Xe rfl rfl (ND) (Xd rfl (qNK hK2 ?_))))));clear hK1 hK2;clear F a;intro a F;refine wp_ret ?_;refine JI results156 F rfl ?_
 exact ⟨DG rfl,H.below⟩
theorem Xh5 (old a b:UInt8) (w0:World):Calls Tryz.prog 157 #[b8 old,b8 a,b8 b] w0 fun e w'=>e = .returned (b8 (Xh4 6 old a b))∧Below w0.heap.size w0 w':=by
 have H:=Own.start w0 none
 refine JF func157 rfl ntmps157 rfl (fun a F=>?_);refine cSR fun K1 hK1=>Xa F rfl (qNK hK1 ?_);clear hK1;clear F a;intro a F;refine JD (fun K2 hK2=>?_);refine cSR fun K3 hK3=>Xf F rfl (Xh rfl (Xe rfl rfl JL (qNK hK3 ?_)));clear hK3;clear F a;intro a F
 refine cIf F rfl (fun h9=>?_) (fun h9=>?_)
 ·
  replace h9:=J1 h9;refine cSR fun K4 hK4=>Xf F rfl (Xd rfl (qNK hK4 ?_));clear hK4;clear F a;intro a F;refine wp_ret ?_;simp only [Exit.then];refine JI results157 F rfl ?_
  exact ⟨DG (by simp [Xh4, *]),H.below⟩
 replace h9:=J2 h9;refine wp_skip (hK2 _ _ (cSR fun K5 hK5=>Xf F rfl (Xd rfl (qNK hK5 ?_))));clear hK2 hK5;clear F a;intro a F;refine wp_ret ?_;refine JI results157 F rfl ?_
 exact ⟨DG (by simp [Xh4, *]),H.below⟩
theorem Xkx {op:UInt8} (h:LW op):∃ v,Xdb op effs=some (op,v)∧∀ old a b w,L4 Tryz.prog v [b8 old,b8 a,b8 b] w fun e w'=>e = .returned (b8 (Xh4 op old a b))∧Below w.heap.size w w':=by
 rcases h with rfl | rfl | rfl | rfl | rfl
 · exact ⟨_,rfl,fun old a b w=>⟨_,[],[],rfl,call153,Xh9 old a b w⟩⟩
 · exact ⟨_,rfl,fun old a b w=>⟨_,[],[],rfl,call154,Xh8 old a b w⟩⟩
 · exact ⟨_,rfl,fun old a b w=>⟨_,[],[],rfl,call155,Xh7 old a b w⟩⟩
 · exact ⟨_,rfl,fun old a b w=>⟨_,[],[],rfl,call156,Xh6 old a b w⟩⟩
 · exact ⟨_,rfl,fun old a b w=>⟨_,[],[],rfl,call157,Xh5 old a b w⟩⟩
end
section
open Go.RowKit
set_option maxRecDepth 100000
theorem Ch {n:Nat} {s t:By} (h:∀ i,i < n→s i=t i):(Ending.returned (.agg (bs n s).toArray):Ending) = .returned (.agg (bs n t).toArray):=by rw [Xcl h]
def XdM (x:Ins):Prop:=JB x=true∨(JB x=false∧LW x.op∧x.loc.toNat < 6∧(x.op ≠ 2→x.dst.toNat < 8))
theorem Xd4 (x:Ins) (t:By) (had:UInt8):Cd x t had=Xh4 x.op had (Ns x t) (E9 x t):=rfl
theorem Xhg (cs:List Value) (p:Prg) (w0:World) (hP:ProgAt w0 cs p) (s:By) (t:Nat) (l:List Ins) (x:Ins) (ht:t < 4) (hl:p.threads[t]? = some l) (hx:l[(s (t * 9)).toNat]? = some x) (hf:XdM x) :
   Calls Tryz.prog 120 #[.agg cs.toArray,.agg (bs 142 s).toArray,.int .i64 (t:Int)] w0 fun e w'=>e = .returned (.agg (bs 142 (Lp x s t)).toArray)∧Below w0.heap.size w0 w':=by
 have H:=Own.start w0 none
 obtain ⟨LA,LC,IA,IC,TA,TC,h,ccs,hp⟩:=hP
 obtain ⟨c1,c2,c3,c4,c5,rfl⟩:=DM (JT hp.cond)
 have hcs:=hp.cs
 subst hcs
 obtain ⟨bT,oT,BT,CT,rfl,hT1,hT2,hT3⟩:=hp.threads t l hl
 have hpcl:(s (t * 9)).toNat < l.length:=(List.getElem?_eq_some_iff.1 hx).1
 obtain ⟨bI,oI,rfl,hI⟩:=hT2 (s (t * 9)).toNat x.cells (by rw [List.getElem?_map,hx];rfl)
 have htl:t < p.threads.length:=(List.getElem?_eq_some_iff.1 hl).1
 refine JF func120 rfl ntmps120 rfl (fun a F=>?_);refine cSR fun K1 hK1=>?_;refine sBx H F rfl rfl rfl ?_;clear F a H;intro b3 a w F H;refine Mg H F rfl rfl rfl ?_;clear F a H;intro b4 a w F H;refine Mo H N3 F rfl rfl ?_;clear F a H;intro b6 a w F H;refine nK hK1 (cSR fun K2 hK2=>Xf F rfl (Xr (f:=0) (k:=0) XG rfl Yc rfl rfl rfl ?_));clear hK1;clear F a;intro a F
 refine Ed XW XN F rfl rfl rfl rfl ?_ ?_
 focus (omega)
 clear F a;intro a F;refine Xs XK rfl XN F rfl (H.ra' 1 _ 9 rfl) ?_;clear F a;intro a F;refine Mo H Xe1 F rfl rfl ?_;clear F a H;intro b7 a w F H;refine Xt H 0 XN F rfl rfl rfl ?_;clear H;intro w H;rw [JE] at H;refine nK hK2 ?_;clear hK2;refine JD (fun K3 hK3=>?_);refine Xi H ?_;replace H:=H.drew;refine Xj 0 rfl F rfl (fun w=>rFa (f:=3) (k:=3) XM rfl Yo rfl rfl F rfl) H qq0 (Xl 1 rfl rfl rfl (fun a F w H=>rLd Yp F rfl (H.cell 3 rfl rfl)) H qq0 (Xm 2 rfl rfl (fun a F w=>rMv F rfl) H qq0 ?_));clear F a;intro a F
 refine Xq (k:=3) (i:=3) rfl F rfl (fun w=>rIx X7 YB F rfl rfl ?_) H (fun _ _ _ h=>h) ?_
 focus (omega)
 clear F a;intro a F;refine Xv 4 rfl F rfl rfl (fun w H=>rLd YI F rfl (H.arg hT1)) H qq0 (Xm 5 rfl rfl (fun a F w=>rFa (f:=0) (k:=0) XK rfl XH rfl rfl F rfl) H qq0 (Xl 6 rfl rfl rfl (fun a F w H=>rLd XJ F rfl (H.ce' 0 rfl)) H qq0 ?_));clear F a;intro a F
 refine Xq (k:=7) (i:=7) rfl F rfl (fun w=>rIx Yl XP F rfl rfl ?_) H (fun _ _ _ h=>h) ?_
 focus exact hpcl
 clear F a;intro a F
 refine Xk (k:=8) (i:=8) rfl F rfl rfl (fun w H=>rLr XI rfl ?si F rfl (H.argR hI)) H (fun _ _ _ h=>h) ?_
 case si=>exact Jz XP
 clear F a;intro a F;refine Xn (k:=9) (i:=9) rfl F (oAl H Yu F rfl ?_);clear F a H;intro b8 a w F H;refine JR H.tail ?_
 refine Xn (k:=10) (i:=10) rfl F (oSr H 0 ?si F rfl rfl ?s1 rfl rfl ?_)
 case si=>exact Jz XP
 case s1=>rfl
 clear H;intro w H;refine Xo H ?_;refine Xp (k:=11) ?_;refine hK3 _ _ ?_;clear hK3;refine JD (fun K4 hK4=>?_);refine cSR fun K5 hK5=>?_
 refine Xw XI rfl ?si F rfl (H.whole 0 rfl) ?_
 case si=>exact Jz XP
 clear F a;intro a F;refine Xs XK rfl XN F rfl (H.whole 1 rfl) ?_;clear F a;intro a F;refine Xu call94 F rfl (ET x _ _) (gG H ?_);clear F a H;intro a w F H;refine Xf F rfl (NU rfl rfl rfl rfl (NU rfl rfl rfl rfl ?_));clear F a;intro a F;refine Mo H Xe1 F rfl rfl ?_;clear F a H;intro b9 a w F H;refine Xt H 0 XN F rfl rfl rfl ?_;clear H;intro w H;rw [JE] at H;refine Xa F rfl (qNK hK5 (qSR fun K6 hK6=>Xh rfl (qNK hK6 ?_)));clear hK5 hK6;clear F a;intro a F
 refine cIf F rfl (fun h33=>?_) (fun h33=>?_)
 ·
  refine cSR fun K7 hK7=>Xf F rfl (Nu XK rfl XN rfl rfl rfl (H.whole 0 rfl) (Xr (f:=0) (k:=0) XG rfl Yc rfl rfl rfl ?_));clear F a;intro a F
  refine Ed XW XN F rfl rfl rfl rfl ?_ ?_
  focus (omega)
  clear F a;intro a F;refine Xt H 4 XN F rfl rfl rfl ?_;clear H;intro w H;refine nK hK7 (cSR fun K8 hK8=>Xs XG rfl XL F rfl (H.whole 4 rfl) ?_);clear hK7;clear F a;intro a F;refine Xt H 3 XL F rfl rfl rfl ?_;clear H;intro w H;rw [JE] at H;refine nK hK8 ?_;clear hK8;refine wp_ret ?_;simp only [Exit.then];refine NE results120 F rfl XG rfl XL H 3 rfl ?_
  refine ⟨Ch fun i _=>?_,H.below⟩
  clear F H
  have e0:∀ v,put (cut s (t * 9)) (1+x.dst.toNat) v 0=cut s (t * 9) 0:=fun v=>if_neg (by omega)
  (simp only [Lp,h33,if_true];done)
 obtain ⟨hfar,hloc,hdst⟩:LW x.op∧x.loc.toNat < 6∧(x.op ≠ 2→x.dst.toNat < 8):=by
   rcases hf with h | h
   · rw [h] at h33;cases h33
   · exact h.2
 obtain ⟨V,hV1,hV2⟩:=Xkx hfar
 refine wp_skip (hK4 _ _ ?_);clear hK4;refine JD (fun K9 hK9=>?_);refine JD (fun K10 hK10=>?_);refine Xi H ?_;replace H:=H.drew;refine Xj 1 rfl F rfl (fun w=>rFa (f:=0) (k:=0) XI rfl XH rfl rfl F rfl) H qq0 (Xl 2 rfl rfl rfl (fun a F w H=>rLd XJ F rfl (H.cell 1 rfl rfl)) H qq0 ?_);clear F a;intro a F;refine Xn (k:=2) (i:=0) rfl F (J3 call135 F rfl rfl (Xdk _) ?_);rintro e w ⟨M,rfl,H2⟩;replace H:=H.join H2;clear H2;refine ⟨_,rfl,?_⟩;clear F a;intro a F;refine JR H.tail ?_;refine eUp H (fun w h=>h.sel [1,2,3,4,5,6] rfl rfl) ?_;refine Xv 3 rfl F rfl rfl (fun w H=>rLkB H 0 YS XO F rfl rfl rfl (hV1)) H qq0 (Xm 4 rfl rfl (fun a F w=>rMv F rfl) H qq0 (Xm 5 rfl rfl (fun a F w=>Mi F rfl rfl) H qq0 (Xm 6 rfl rfl (fun a F w=>Mi F rfl rfl) H qq0 (Xm 7 rfl rfl (fun a F w=>rAs F rfl) H qq0 (Xm 8 rfl rfl (fun a F w=>rAs F rfl) H qq0 ?_)))));clear F a;intro a F;refine Xp (k:=9) ?_;refine hK10 _ _ (cSR fun K11 hK11=>Xf F rfl (qNK hK11 ?_));clear hK10 hK11;clear F a;intro a F
 refine cIf F rfl (fun h46=>?_) (fun h46=>?_)
 ·
  refine cSR fun K12 hK12=>Xb (f:=2) (k:=2) XI rfl XH rfl rfl F rfl (Xc XJ rfl (H.cell 2 rfl rfl) (Xr (f:=1) (k:=36) XG rfl Yg rfl rfl rfl ?_));clear F a;intro a F
  refine MP Yj XH F rfl rfl rfl rfl ?_ ?_
  focus (omega)
  clear F a;intro a F;refine sLd XJ F rfl rfl rfl (H.ce' 5 rfl) (Xd rfl (qNK hK12 ?_));clear hK12;clear F a;intro a F;refine JD (fun K13 hK13=>?_);refine Xi H ?_;replace H:=H.drew;refine Xj 0 rfl F rfl (fun w=>rFa (f:=2) (k:=2) XI rfl XH rfl rfl F rfl) H qq0 (Xl 1 rfl rfl rfl (fun a F w H=>rLd XJ F rfl (H.cell 2 rfl rfl)) H qq0 (Xm 2 rfl rfl (fun a F w=>rMv F rfl) H qq0 (Xm 3 rfl rfl (fun a F w=>rMv F rfl) H qq0 (Xm 4 rfl rfl (fun a F w=>rFa (f:=3) (k:=3) XI rfl XR rfl rfl F rfl) H qq0 ?_))));clear F a;intro a F
  refine Xk (k:=5) (i:=5) rfl F rfl rfl (fun w H=>rLr XV rfl ?si F rfl (H.range 2 rfl _ 2)) H (fun _ _ _ h=>h) ?_
  case si=>exact Jz XR
  clear F a;intro a F;refine Xj 6 rfl F rfl (fun w=>rFa (f:=1) (k:=1) XK rfl X1 rfl rfl F rfl) H qq0 (Xl 7 rfl rfl rfl (fun a F w H=>Nt X9 rfl X1 F rfl (H.ra' 3 _ 8 rfl)) H qq0 (Xm 9 rfl rfl (fun a F w=>rFa (f:=4) (k:=5) XI rfl XR rfl rfl F rfl) H qq0 ?_));clear F a;intro a F
  refine Xk (k:=9) (i:=10) rfl F rfl rfl (fun w H=>rLr XV rfl ?si F rfl (H.range 2 rfl _ 2)) H (fun _ _ _ h=>h) ?_
  case si=>exact Jz XR
  clear F a;intro a F;refine Xj 11 rfl F rfl (fun w=>rFa (f:=1) (k:=1) XK rfl X1 rfl rfl F rfl) H qq0 (Xl 12 rfl rfl rfl (fun a F w H=>Nt X9 rfl X1 F rfl (H.ra' 3 _ 8 rfl)) H qq0 (Xm 15 rfl rfl (fun a F w=>rFa (f:=1) (k:=36) XG rfl Yg rfl rfl F rfl) H qq0 ?_));clear F a;intro a F;refine Xn (k:=13) (i:=8) rfl F (J3 call91 F rfl rfl (Lr x.aR x.aN _ _) (gG H ?_));clear F a H;intro a w F H;refine JR H ?_;refine Xn (k:=14) (i:=13) rfl F (J3 call91 F rfl rfl (Lr x.bR x.bN _ _) (gG H ?_));clear F a H;intro a w F H;refine JR H ?_;refine Xn (k:=15) (i:=14) rfl F (XfU F rfl rfl rfl (hV2 _ _ _ _) (gG H ?_));clear F a H;intro a w F H;refine JR H ?_
  refine Xq (k:=16) (i:=16) rfl F rfl (fun w=>XiA Yj XH F rfl rfl ?_) H (fun _ _ _ h=>h) ?_
  focus (omega)
  clear F a;intro a F;refine Xn (k:=17) (i:=17) rfl F (XjP H 5 XH F rfl rfl rfl (by omega) ?_);clear H;intro w H;refine Xo H ?_;refine Xp (k:=18) ?_;refine hK13 _ _ (cSR fun K14 hK14=>Xb (f:=0) (k:=0) XI rfl XH rfl rfl F rfl (Xc XJ rfl (H.cell 2 rfl rfl) (Xe rfl rfl (Xba (y:=2)) (qNK hK14 ?_))));clear hK13 hK14;clear F a;intro a F
  refine cIf F rfl (fun h71=>?_) (fun h71=>?_)
  ·
   replace h71:=Ep h71
   have hd:=hdst h71
   refine JY (Xb (f:=1) (k:=1) XI rfl XH rfl rfl F rfl (Xc XJ rfl (H.cell 2 rfl rfl) (Xh rfl (Xr (f:=1) (k:=1) XK rfl X1 rfl rfl rfl ?_))));clear F a;intro a F
   refine MP X9 XH F rfl rfl rfl rfl ?_ ?_
   focus (omega)
   clear F a;intro a F;refine LJ H 3 XH F rfl rfl rfl rfl (by omega) ?_;clear H;intro w H;refine nK hK9 (cSR fun K15 hK15=>Xb (f:=0) (k:=0) XK rfl XH rfl rfl F rfl (Xc XJ rfl (H.ce' 3 rfl) (Xe rfl rfl (ND (y:=1)) (Xr (f:=0) (k:=0) XK rfl XH rfl rfl rfl ?_))));clear hK9;clear F a;intro a F;refine LJ H 3 XH F rfl rfl rfl rfl (by omega) ?_;clear H;intro w H;refine nK hK15 (cSR fun K16 hK16=>Xf F rfl (Nu XK rfl XN rfl rfl rfl (H.whole 3 rfl) (Xr (f:=0) (k:=0) XG rfl Yc rfl rfl rfl ?_)));clear hK15;clear F a;intro a F
   refine Ed XW XN F rfl rfl rfl rfl ?_ ?_
   focus (omega)
   clear F a;intro a F;refine Xt H 5 XN F rfl rfl rfl ?_;clear H;intro w H;refine nK hK16 (cSR fun K17 hK17=>Xs XG rfl XL F rfl (H.whole 5 rfl) ?_);clear hK16;clear F a;intro a F;refine Xt H 4 XL F rfl rfl rfl ?_;clear H;intro w H;rw [JE] at H;refine nK hK17 ?_;clear hK17;refine wp_ret ?_;refine NE results120 F rfl XG rfl XL H 4 rfl ?_
   refine ⟨Ch fun i _=>?_,H.below⟩
   clear F H
   have e0:∀ v,put (cut s (t * 9)) (1+x.dst.toNat) v 0=cut s (t * 9) 0:=fun v=>if_neg (by omega)
   (simp only [Lp,h33,Xdd,MR,hd,h71,Xd4,e0,if_true,if_false,Bool.false_eq_true,Ns,E9];done)
  replace h71:=Er h71;refine wp_skip (hK9 _ _ (cSR fun K18 hK18=>Xb (f:=0) (k:=0) XK rfl XH rfl rfl F rfl (Xc XJ rfl (H.ce' 3 rfl) (Xe rfl rfl (ND (y:=1)) (Xr (f:=0) (k:=0) XK rfl XH rfl rfl rfl ?_)))));clear hK9;clear F a;intro a F;refine LJ H 3 XH F rfl rfl rfl rfl (by omega) ?_;clear H;intro w H;refine nK hK18 (cSR fun K19 hK19=>Xf F rfl (Nu XK rfl XN rfl rfl rfl (H.whole 3 rfl) (Xr (f:=0) (k:=0) XG rfl Yc rfl rfl rfl ?_)));clear hK18;clear F a;intro a F
  refine Ed XW XN F rfl rfl rfl rfl ?_ ?_
  focus (omega)
  clear F a;intro a F;refine Xt H 5 XN F rfl rfl rfl ?_;clear H;intro w H;refine nK hK19 (cSR fun K20 hK20=>Xs XG rfl XL F rfl (H.whole 5 rfl) ?_);clear hK19;clear F a;intro a F;refine Xt H 4 XL F rfl rfl rfl ?_;clear H;intro w H;rw [JE] at H;refine nK hK20 ?_;clear hK20;refine wp_ret ?_;refine NE results120 F rfl XG rfl XL H 4 rfl ?_
  refine ⟨Ch fun i _=>?_,H.below⟩
  clear F H
  have e0:∀ v,put (cut s (t * 9)) (1+x.dst.toNat) v 0=cut s (t * 9) 0:=fun v=>if_neg (by omega)
  (simp only [Lp,h33,Xdd,h71,Xd4,if_true,if_false,Bool.false_eq_true,Ns,E9];done)
 cases h46
end
def Xg6 (n:Nat) (f:Nat→Bool):Bool:=(List.range n).all f
theorem E6 {n:Nat} {f:Nat→Bool} (h:∀ i,i < n→f i=true):Xg6 n f=true:=by
 simp only [Xg6,List.all_eq_true,List.mem_range];exact h
theorem LQ {n:Nat} {f:Nat→Bool} {i:Nat} (hi:i < n) (h:f i=false):Xg6 n f=false:=by
 rw [← Bool.not_eq_true,Xg6,List.all_eq_true]
 intro h1
 rw [h1 i (List.mem_range.2 hi)] at h
 cases h
theorem allB_iff {n:Nat} {f:Nat→Bool}:Xg6 n f=true ↔ ∀ i,i < n→f i=true:=by
 simp only [Xg6,List.all_eq_true,List.mem_range]
def Qq (p:Prg) (s:By) (t:Nat):Bool:=match p.threads[t]? with
 | some l=>decide ((s (t * 9)).toNat≤l.length)
 | none=>same 9 (cut s (t * 9)) zb
def LV (p:Prg) (s:By) (k:Nat):Bool:=decide (k < p.locs.length) || s (36+k) == 0
def Mf (p:Prg) (s:By):Bool:=Xg6 4 (Qq p s) && Xg6 6 (LV p s) && (same 96 (cut s 42) zb && same 4 (cut s 138) zb)
def Qi (p:Prg) (s:By):Bool:=JH p == 0 && Mf p s
theorem CO {p:Prg} {s:By} (h:JH p ≠ 0):Qi p s=false:=by
 unfold Qi;rw [beq_false_of_ne h,Bool.false_and]
theorem CN {p:Prg} {s:By} {j:Nat} (hj:j < 4) (h:Qq p s j=false):Qi p s=false:=by
 unfold Qi Mf;rw [LQ hj h];simp
theorem Xet {p:Prg} {s:By} {j:Nat} (hj:j < 6) (h:LV p s j=false):Qi p s=false:=by
 unfold Qi Mf;rw [LQ hj h];simp
theorem MF {p:Prg} {s:By} (he:JH p=0) (ht:∀ i,i < 4→Qq p s i=true) (hm:∀ i,i < 6→LV p s i=true):Qi p s=(same 96 (cut s 42) zb && same 4 (cut s 138) zb):=by
 unfold Qi Mf;rw [E6 ht,E6 hm,he];rfl
theorem MV {p:Prg} {s:By} {j:Nat} (h:p.threads.length≤j):Qq p s j=same 9 (cut s (j * 9)) zb:=by
 unfold Qq;rw [List.getElem?_eq_none h]
theorem Q1 {p:Prg} {s:By} {j:Nat} {l:List Ins} (h:p.threads[j]? = some l):Qq p s j=decide ((s (j * 9)).toNat≤l.length):=by
 unfold Qq;rw [h]
theorem XdZ {p:Prg} {s:By} {k:Nat} (h:k < p.locs.length):LV p s k=true:=by
 unfold LV;rw [decide_eq_true h,Bool.true_or]
theorem ES {p:Prg} {s:By} {k:Nat} (h:p.locs.length≤k):LV p s k=(s (36+k) == 0):=by
 unfold LV;rw [decide_eq_false (by omega),Bool.false_or]
theorem J9 {f:Nat→Bool} {j:Nat} (h:∀ i,i < j→f i=true) (hj:f j=true):∀ i,i < j+1→f i=true:=fun i hi=>by
 rcases Nat.lt_or_ge i j with h1 | h1
 · exact h i h1
 · obtain rfl:i=j:=by omega
   exact hj
def Xf0 (p:Prg) (s:By) (t:Nat):Bool:=match p.threads[t]? with
 | some l=>decide ((s (t * 9)).toNat < l.length)
 | none=>false
def QT (p:Prg) (s:By):List Nat:=(List.range p.threads.length).filter (Xf0 p s)
def Na (p:Prg) (s:By):List Nat:=if Qi p s then QT p s else []
def EQ (p:Prg) (s:By) (t:Nat):Option Ins:=match p.threads[t]? with
 | some l=>l[(s (t * 9)).toNat]?
 | none=>none
def DT (p:Prg) (s:By) (t:Nat):By:=match EQ p s t with
 | some x=>Lp x s t
 | none=>s
def Qr (p:Prg):By:=lay zb 36 (min p.init.length 6) (ofL p.init)
def EE (p:Prg):By:=if JH p=0 then Qr p else zb
def DD (p:Prg):Int:=if JH p=0 then 0 else 2
def Qh (s:By):By:=fun i=>if i < 32 then s (i / 8 * 9+1+i % 8) else s (36+(i - 32))
theorem XeP (s:By):∀ i,i < 38→lay zb 32 6 (cut s 36) i=if 32≤i∨i < 0 * 8 then Qh s i else 0:=fun i hi=>by
 unfold lay Qh
 by_cases h:32≤i
 · rw [if_pos (by omega),if_pos (by omega),if_neg (by omega)];rfl
 · rw [if_neg (by omega),if_neg (by omega)];rfl
theorem XeO {s f:By} {j:Nat} (hj:j < 4) (hf:∀ i,i < 38→f i=if 32≤i∨i < j * 8 then Qh s i else 0) :
   ∀ i,i < 38→lay f (j * 8) 8 (cut (cut s (j * 9)) 1) i=if 32≤i∨i < (j+1) * 8 then Qh s i else 0:=fun i hi=>by
 unfold lay
 by_cases h:j * 8≤i∧i < j * 8+8
 · rw [if_pos h,if_pos (by omega)]
   unfold Qh cut
   rw [if_pos (by omega)]
   congr 1
   omega
 · rw [if_neg h,hf i hi]
   by_cases h2:32≤i∨i < j * 8
   · rw [if_pos h2,if_pos (by omega)]
   · rw [if_neg h2,if_neg (by omega)]
theorem XdU {p:Prg} {s:By} {t:Nat} {l:List Ins} {x:Ins} (h:p.threads[t]? = some l) (hx:l[(s (t * 9)).toNat]? = some x):EQ p s t=some x:=by
 unfold EQ;rw [h];exact hx
theorem D0 {p:Prg} {s:By} {t:Nat} {l:List Ins} {x:Ins} (h:p.threads[t]? = some l) (hx:l[(s (t * 9)).toNat]? = some x):DT p s t=Lp x s t:=by
 unfold DT;rw [XdU h hx]
theorem BI {p:Prg} {s:By} {t:Nat} (h:t ∈ QT p s):∃ l x,p.threads[t]? = some l∧l[(s (t * 9)).toNat]? = some x:=by
 have h2:=(List.mem_filter.1 h).2
 unfold Xf0 at h2
 split at h2
 · rename_i l hl
   exact ⟨l,_,hl,List.getElem?_eq_getElem (of_decide_eq_true h2)⟩
 · cases h2
theorem XbP {p:Prg} {s:By} {t:Nat} (h:t ∈ Na p s):Qi p s=true∧t ∈ QT p s:=by
 unfold Na at h
 split at h
 · rename_i hr;exact ⟨hr,h⟩
 · simp at h
theorem MZ {p:Prg} {s:By} (h:Qi p s=true):JH p=0:=by
 unfold Qi at h
 simp only [Bool.and_eq_true,beq_iff_eq] at h
 exact h.1
def Nz (p:Prg) (s:By) (t:Int):Bool:=(Na p s).any fun k=>(k:Int) == t
def M3 (p:Prg) (s:By) (t:Int):By:=if Nz p s t then DT p s t.toNat else zb
def Dq (p:Prg) (s:By) (t:Int):Int:=if Nz p s t then 0 else 2
def NY (l:List Nat):List (List Value):=l.map fun t:Nat=>[.int .i64 (t:Int)]
@[simp] theorem intRows_length (l:List Nat):(NY l).length=l.length:=by simp [NY]
theorem Ck (l:List Nat) (j:Nat):NY (l++[j])=NY l++[[.int .i64 (j:Int)]]:=by simp [NY]
theorem Xc5 (l:List Nat):∀ r ∈ NY l,r.length=1:=by
 intro r hr
 obtain ⟨t,_,rfl⟩:=List.mem_map.1 hr
 rfl
theorem MH (f:Nat→Bool) (j:Nat):(List.range (j+1)).filter f=if f j then (List.range j).filter f++[j] else (List.range j).filter f:=by
 rw [List.range_succ,List.filter_append]
 cases h:f j <;> simp [h]
theorem BJ {p:Prg} {s:By} {j:Nat} {l:List Ins} (h:p.threads[j]? = some l):Xf0 p s j=decide ((s (j * 9)).toNat < l.length):=by
 unfold Xf0;rw [h]
section
open Go.RowKit
set_option maxRecDepth 100000
theorem CP (cs:List Value) (p:Prg) (w0:World) (hP:ProgAt w0 cs p) (hN:NeedsAt w0) (s:By) :
   Calls Tryz.prog 84 #[.agg cs.toArray,.agg (bs 142 s).toArray] w0 fun e w'=>e = .returned (.bool (Qi p s))∧Below w0.heap.size w0 w':=by
 have H:=Own.start w0 none
 have hP0:=hP
 obtain ⟨LA,LC,IA,IC,TA,TC,h,ccs,hp⟩:=hP
 obtain ⟨c1,c2,c3,c4,c5,rfl⟩:=DM (JT hp.cond)
 have hcs:=hp.cs
 subst hcs
 have hn:=hp.threadsN
 have hm:=hp.locsN
 refine JF func84 rfl ntmps84 rfl (fun a F=>?_);refine cSR fun K1 hK1=>?_;refine sBx H F rfl rfl rfl ?_;clear F a H;intro b2 a w F H;refine Mg H F rfl rfl rfl ?_;clear F a H;intro b3 a w F H;refine Xa F rfl (qNK hK1 ?_);clear hK1;clear F a;intro a F;refine JD (fun K2 hK2=>?_);refine cSR fun K3 hK3=>?_
 refine Xw XM rfl ?si F rfl (H.whole 1 rfl) ?_
 case si=>exact Jz Ya
 clear F a;intro a F;refine Xu call69 F rfl (CM _ p _ (hP0.own H) (hN.own H)) (gG H ?_);clear F a H;intro a w F H;refine Xg F rfl rfl DR (qNK hK3 ?_);clear hK3;clear F a;intro a F
 refine cIf F rfl (fun h12=>?_) (fun h12=>?_)
 ·
  replace h12:=Ep h12;refine cSR fun K4 hK4=>Xa F rfl (qNK hK4 ?_);clear hK4;clear F a;intro a F;refine wp_ret ?_;simp only [Exit.then];refine JI Y2 F rfl ?_
  refine ⟨JZ ?_,H.below⟩
  clear F H
  exact (CO h12).symm
 replace h12:=Er h12;refine wp_skip (hK2 _ _ ?_);clear hK2;refine JD (fun K5 hK5=>?_);refine cSR fun K6 hK6=>Xb (f:=0) (k:=0) XG rfl Yc rfl rfl F rfl (Nu XW rfl Yc rfl rfl rfl (H.rangeB0 0 36 rfl (by omega)) (Xh rfl (qNK hK6 ?_)));clear hK6;clear F a;intro a F;refine wp_block ?_
 refine JN [2,3,14] (fun m ups w=>∃ j:Nat,m=4 - j∧ups=[(15,.int .i64 (j:Int))]∧j≤4∧(∀ i,i < j→Qq p s i=true)∧Own w0 none w [.blk b3 (bs 142 s) 60,.blk b2 ([.string p.name,.slice LA p.locs.length LC,.slice IA p.init.length IC,.slice TA p.threads.length TC,b8 p.ask]++[c1,c2,c3,c4,c5]) 29]) F (4) [(15,.int .i64 ((0:Nat):Int))] ?_ ?_
 · exact ⟨0,rfl,rfl,by omega,fun i hi=>by omega,H⟩
 clear F
 clear H
 intro m ups a w hI F
 obtain ⟨j,rfl,rfl,hj,ht,H⟩:=hI
 refine cSR fun K7 hK7=>Xg F rfl rfl QF (qNK hK7 ?_);clear hK7;clear F a;intro a F;refine JD (fun K8 hK8=>?_)
 refine cIf F rfl (fun h16=>?_) (fun h16=>?_)
 ·
  replace h16:=of_decide_eq_true h16;refine wp_skip (hK8 _ _ ?_);clear hK8;refine JD (fun K9 hK9=>?_);refine wp_block ?_;refine cSR fun K10 hK10=>Xf F rfl ?_;clear F a;intro a F
  refine Xj4 XW XN isAgg52 F rfl rfl rfl rfl ?_ ?_ ?_
  focus omega
  focus omega
  clear F a;intro a F;refine Mo H Xe1 F rfl rfl ?_;clear F a H;intro b6 a w F H;refine Xa F rfl ?_;clear F a;intro a F;refine Xt H 0 XN F rfl rfl rfl ?_;clear H;intro w H;rw [JE] at H;refine nK hK10 ?_;clear hK10;refine JD (fun K11 hK11=>?_);refine cSR fun K12 hK12=>Xf F rfl (Xr (f:=3) (k:=3) XM rfl Yo rfl rfl rfl (Xc Yp rfl (H.cell 2 rfl rfl) (Xx X7 rfl (Xe rfl rfl Cb (Xh rfl ?_)))));clear F a;intro a F
  refine F.split 24 rfl ?_ ?_ <;> (clear F;intro h24 F)
  ·
   replace h24:=of_decide_eq_true h24;refine Xs XK rfl XN F rfl (H.whole 0 rfl) (Xhx (places:=[(0,1),(1,8)]) Xe1 XK (by kernel_rfl) rfl rfl rfl FillB.nil (Xe rfl rfl (XjD eT52 gT52 rfl) (Xy rfl rfl (qNK hK12 ?_))));clear hK12;clear F a;intro a F
   refine cIf F rfl (fun h28=>?_) (fun h28=>?_)
   ·
    replace h28:=N1 h28;refine cSR fun K13 hK13=>Xa F rfl (qNK hK13 ?_);clear hK13;clear F a;intro a F;refine wp_ret ?_;refine xI ?_;refine JI Y2 F rfl ?_
    refine ⟨JZ ?_,H.below⟩
    clear F H
    exact (CN (j:=j) (by omega) (by rw [MV (by omega)];exact h28)).symm
   replace h28:=N2 h28;refine wp_skip (hK11 _ _ ?_);clear hK11;refine JD (fun K14 hK14=>?_);refine Xi H ?_;replace H:=H.drew;refine Xj 0 rfl F rfl (fun w=>rMv F rfl) H qq0 (Xm 1 rfl rfl (fun a F w=>rFa (f:=3) (k:=3) XM rfl Yo rfl rfl F rfl) H qq0 (Xl 2 rfl rfl rfl (fun a F w H=>rLd Yp F rfl (H.cell 2 rfl rfl)) H qq0 (Xl 3 rfl rfl rfl (fun a F w H=>Bw X7 F rfl) H qq0 (Xm 4 rfl rfl (fun a F w=>Q0 F rfl rfl QF) H qq0 (Xm 5 rfl rfl (fun a F w=>rMv F rfl) H qq0 ?_)))));clear F a;intro a F
   refine F.split 34 rfl ?_ ?_ <;> (clear F;intro h34 F)
   ·
    replace h34:=of_decide_eq_true h34
    have hjl:j < p.threads.length:=by omega
    obtain ⟨l,hl⟩:∃ l,p.threads[j]? = some l:=⟨_,List.getElem?_eq_getElem hjl⟩
    obtain ⟨bT,oT,BT,CT,rfl,hT1,hT2,hT3⟩:=hp.threads j l hl
    refine Xj 6 rfl F rfl (fun w=>rFa (f:=0) (k:=0) XK rfl XH rfl rfl F rfl) H qq0 (Xl 7 rfl rfl rfl (fun a F w H=>rLd XJ F rfl (H.ce' 0 rfl)) H qq0 (Xm 8 rfl rfl (fun a F w=>rCv XO XT F rfl (QG _)) H qq0 (Xm 9 rfl rfl (fun a F w=>rFa (f:=3) (k:=3) XM rfl Yo rfl rfl F rfl) H qq0 (Xl 10 rfl rfl rfl (fun a F w H=>rLd Yp F rfl (H.cell 2 rfl rfl)) H qq0 (Xm 11 rfl rfl (fun a F w=>rMv F rfl) H qq0 ?_)))));clear F a;intro a F
    refine Xq (k:=12) (i:=12) rfl F rfl (fun w=>rIx X7 YB F rfl rfl ?_) H (fun _ _ _ h=>h) ?_
    focus (omega)
    clear F a;intro a F;refine Xv 13 rfl F rfl rfl (fun w H=>rLd YI F rfl (H.arg hT1)) H qq0 (Xl 14 rfl rfl rfl (fun a F w H=>Bw Yl F rfl) H qq0 (Xm 15 rfl rfl (fun a F w=>Q0 F rfl rfl L3) H qq0 (Xm 16 rfl rfl (fun a F w=>rPk F rfl rfl) H qq0 ?_)));clear F a;intro a F;refine Xp (k:=17) ?_;refine hK14 _ _ ?_;clear hK14
    refine cIf F rfl (fun h45=>?_) (fun h45=>?_)
    ·
     replace h45:=of_decide_eq_true h45;refine cSR fun K15 hK15=>Xa F rfl (qNK hK15 ?_);clear hK15;clear F a;intro a F;refine wp_ret ?_;refine xI ?_;refine JI Y2 F rfl ?_
     refine ⟨JZ ?_,H.below⟩
     clear F H
     (exfalso;omega)
    replace h45:=of_decide_eq_false h45;refine wp_skip (hK9 _ _ (JY ?_));clear hK9
    refine Xg F rfl rfl (JJ (j:=1) ?_) ?_
    focus omega
    clear F a;intro a F;refine Xf F rfl ?_;clear F a;intro a F;refine J4 ?_
    refine ⟨4 - (j+1),by omega,_,⟨j+1,rfl,rfl,by omega,J9 ht ?_,H.tail⟩,F.tt⟩
    clear F H
    (exfalso;omega)
   replace h34:=of_decide_eq_false h34;refine Xz 6 rfl F rfl H qq0 (XA 7 rfl rfl H qq0 (XA 8 rfl rfl H qq0 (XA 9 rfl rfl H qq0 (XA 10 rfl rfl H qq0 (XA 11 rfl rfl H qq0 (XA 12 rfl rfl H qq0 (XA 13 rfl rfl H qq0 (XA 14 rfl rfl H qq0 (XA 15 rfl rfl H qq0 (Xm 16 rfl rfl (fun a F w=>rPk F rfl rfl) H qq0 ?_))))))))));clear F a;intro a F;refine Xp (k:=17) ?_;refine hK14 _ _ ?_;clear hK14;refine LB F rfl ?_;refine wp_skip (hK9 _ _ (JY ?_));clear hK9
   refine Xg F rfl rfl (JJ (j:=1) ?_) ?_
   focus omega
   clear F a;intro a F;refine Xf F rfl ?_;clear F a;intro a F;refine J4 ?_
   refine ⟨4 - (j+1),by omega,_,⟨j+1,rfl,rfl,by omega,J9 ht ?_,H.tail⟩,F.tt⟩
   clear F H
   (rw [MV (by omega)];exact h28)
  replace h24:=of_decide_eq_false h24;refine XB F (XC (XC (Xy rfl rfl (qNK hK12 ?_))));clear hK12;clear F a;intro a F;refine LB F rfl ?_;refine wp_skip (hK11 _ _ ?_);clear hK11;refine JD (fun K16 hK16=>?_);refine Xi H ?_;replace H:=H.drew;refine Xj 0 rfl F rfl (fun w=>rMv F rfl) H qq0 (Xm 1 rfl rfl (fun a F w=>rFa (f:=3) (k:=3) XM rfl Yo rfl rfl F rfl) H qq0 (Xl 2 rfl rfl rfl (fun a F w H=>rLd Yp F rfl (H.cell 2 rfl rfl)) H qq0 (Xl 3 rfl rfl rfl (fun a F w H=>Bw X7 F rfl) H qq0 (Xm 4 rfl rfl (fun a F w=>Q0 F rfl rfl QF) H qq0 (Xm 5 rfl rfl (fun a F w=>rMv F rfl) H qq0 ?_)))));clear F a;intro a F
  refine F.split 34 rfl ?_ ?_ <;> (clear F;intro h34 F)
  ·
   replace h34:=of_decide_eq_true h34
   have hjl:j < p.threads.length:=by omega
   obtain ⟨l,hl⟩:∃ l,p.threads[j]? = some l:=⟨_,List.getElem?_eq_getElem hjl⟩
   obtain ⟨bT,oT,BT,CT,rfl,hT1,hT2,hT3⟩:=hp.threads j l hl
   refine Xj 6 rfl F rfl (fun w=>rFa (f:=0) (k:=0) XK rfl XH rfl rfl F rfl) H qq0 (Xl 7 rfl rfl rfl (fun a F w H=>rLd XJ F rfl (H.ce' 0 rfl)) H qq0 (Xm 8 rfl rfl (fun a F w=>rCv XO XT F rfl (QG _)) H qq0 (Xm 9 rfl rfl (fun a F w=>rFa (f:=3) (k:=3) XM rfl Yo rfl rfl F rfl) H qq0 (Xl 10 rfl rfl rfl (fun a F w H=>rLd Yp F rfl (H.cell 2 rfl rfl)) H qq0 (Xm 11 rfl rfl (fun a F w=>rMv F rfl) H qq0 ?_)))));clear F a;intro a F
   refine Xq (k:=12) (i:=12) rfl F rfl (fun w=>rIx X7 YB F rfl rfl ?_) H (fun _ _ _ h=>h) ?_
   focus (omega)
   clear F a;intro a F;refine Xv 13 rfl F rfl rfl (fun w H=>rLd YI F rfl (H.arg hT1)) H qq0 (Xl 14 rfl rfl rfl (fun a F w H=>Bw Yl F rfl) H qq0 (Xm 15 rfl rfl (fun a F w=>Q0 F rfl rfl L3) H qq0 (Xm 16 rfl rfl (fun a F w=>rPk F rfl rfl) H qq0 ?_)));clear F a;intro a F;refine Xp (k:=17) ?_;refine hK16 _ _ ?_;clear hK16
   refine cIf F rfl (fun h45=>?_) (fun h45=>?_)
   ·
    replace h45:=of_decide_eq_true h45;refine cSR fun K17 hK17=>Xa F rfl (qNK hK17 ?_);clear hK17;clear F a;intro a F;refine wp_ret ?_;refine xI ?_;refine JI Y2 F rfl ?_
    refine ⟨JZ ?_,H.below⟩
    clear F H
    exact (CN (j:=j) (by omega) (by rw [Q1 hl];exact decide_eq_false (by simp only [cut,Nat.add_zero] at h45;omega))).symm
   replace h45:=of_decide_eq_false h45;refine wp_skip (hK9 _ _ (JY ?_));clear hK9
   refine Xg F rfl rfl (JJ (j:=1) ?_) ?_
   focus omega
   clear F a;intro a F;refine Xf F rfl ?_;clear F a;intro a F;refine J4 ?_
   refine ⟨4 - (j+1),by omega,_,⟨j+1,rfl,rfl,by omega,J9 ht ?_,H.tail⟩,F.tt⟩
   clear F H
   (rw [Q1 hl];exact decide_eq_true (by simp only [cut,Nat.add_zero] at h45;omega))
  replace h34:=of_decide_eq_false h34;refine Xz 6 rfl F rfl H qq0 (XA 7 rfl rfl H qq0 (XA 8 rfl rfl H qq0 (XA 9 rfl rfl H qq0 (XA 10 rfl rfl H qq0 (XA 11 rfl rfl H qq0 (XA 12 rfl rfl H qq0 (XA 13 rfl rfl H qq0 (XA 14 rfl rfl H qq0 (XA 15 rfl rfl H qq0 (Xm 16 rfl rfl (fun a F w=>rPk F rfl rfl) H qq0 ?_))))))))));clear F a;intro a F;refine Xp (k:=17) ?_;refine hK16 _ _ ?_;clear hK16;refine LB F rfl ?_;refine wp_skip (hK9 _ _ (JY ?_));clear hK9
  refine Xg F rfl rfl (JJ (j:=1) ?_) ?_
  focus omega
  clear F a;intro a F;refine Xf F rfl ?_;clear F a;intro a F;refine J4 ?_
  refine ⟨4 - (j+1),by omega,_,⟨j+1,rfl,rfl,by omega,J9 ht ?_,H.tail⟩,F.tt⟩
  clear F H
  (exfalso;omega)
 replace h16:=of_decide_eq_false h16;refine wp_exit ?_;refine hK5 _ _ ?_;clear hK5;refine JD (fun K18 hK18=>?_);refine cSR fun K19 hK19=>Xb (f:=1) (k:=36) XG rfl Yg rfl rfl F rfl (Nu Yj rfl Yg rfl rfl rfl (H.ra' 0 _ 6 rfl) (Xh rfl (qNK hK19 ?_)));clear hK19;clear F a;intro a F;refine wp_block ?_
 refine JN [2,3,48] (fun m ups w=>∃ j:Nat,m=6 - j∧ups=[(49,.int .i64 (j:Int))]∧j≤6∧(∀ i,i < j→LV p s i=true)∧Own w0 none w [.blk b3 (bs 142 s) 60,.blk b2 ([.string p.name,.slice LA p.locs.length LC,.slice IA p.init.length IC,.slice TA p.threads.length TC,b8 p.ask]++[c1,c2,c3,c4,c5]) 29]) F (6) [(49,.int .i64 ((0:Nat):Int))] ?_ ?_
 · exact ⟨0,rfl,rfl,by omega,fun i hi=>by omega,H⟩
 clear F
 clear H
 intro m ups a w hI F
 obtain ⟨k,rfl,rfl,hk,ht2,H⟩:=hI
 refine cSR fun K20 hK20=>Xg F rfl rfl QF (qNK hK20 ?_);clear hK20;clear F a;intro a F;refine JD (fun K21 hK21=>?_)
 refine cIf F rfl (fun h50=>?_) (fun h50=>?_)
 ·
  replace h50:=of_decide_eq_true h50;refine wp_skip (hK21 _ _ ?_);clear hK21;refine JD (fun K22 hK22=>?_);refine wp_block ?_;refine cSR fun K23 hK23=>Xf F rfl ?_;clear F a;intro a F
  refine sIdV Yj XH XJ F rfl rfl rfl rfl ?_ ?_ ?_
  focus omega
  focus omega
  clear F a;intro a F;refine Xa F rfl (Xd rfl (qNK hK23 (qSR fun K24 hK24=>Xh rfl (Xr (f:=1) (k:=1) XM rfl Yw rfl rfl rfl (Xc Yy rfl (H.cell 1 rfl rfl) (Xx Yk rfl (Xe rfl rfl Cb (Xh rfl ?_))))))));clear hK23;clear F a;intro a F
  refine F.split 58 rfl ?_ ?_ <;> (clear F;intro h58 F)
  ·
   replace h58:=of_decide_eq_true h58;refine Xf F rfl (Xe rfl rfl (Xba (y:=0)) (Xy rfl rfl (qNK hK24 ?_)));clear hK24;clear F a;intro a F
   refine cIf F rfl (fun h61=>?_) (fun h61=>?_)
   ·
    replace h61:=Ep h61;refine cSR fun K25 hK25=>Xa F rfl (qNK hK25 ?_);clear hK25;clear F a;intro a F;refine wp_ret ?_;refine xI ?_;refine JI Y2 F rfl ?_
    refine ⟨JZ ?_,H.below⟩
    clear F H
    exact (Xet (j:=k) (by omega) (by rw [ES (by omega)];exact beq_false_of_ne h61)).symm
   replace h61:=Er h61;refine wp_skip (hK22 _ _ (JY ?_));clear hK22
   refine Xg F rfl rfl (JJ (j:=1) ?_) ?_
   focus omega
   clear F a;intro a F;refine Xf F rfl ?_;clear F a;intro a F;refine J4 ?_
   refine ⟨6 - (k+1),by omega,_,⟨k+1,rfl,rfl,by omega,J9 ht2 ?_,H⟩,F.tt⟩
   clear F H
   (rw [ES (by omega)];exact beq_iff_eq.2 h61)
  replace h58:=of_decide_eq_false h58;refine XB F (XC (Xy rfl rfl (qNK hK24 ?_)));clear hK24;clear F a;intro a F;refine LB F rfl ?_;refine wp_skip (hK22 _ _ (JY ?_));clear hK22
  refine Xg F rfl rfl (JJ (j:=1) ?_) ?_
  focus omega
  clear F a;intro a F;refine Xf F rfl ?_;clear F a;intro a F;refine J4 ?_
  refine ⟨6 - (k+1),by omega,_,⟨k+1,rfl,rfl,by omega,J9 ht2 ?_,H⟩,F.tt⟩
  clear F H
  exact XdZ (by omega)
 replace h50:=of_decide_eq_false h50;refine wp_exit ?_;refine hK18 _ _ (cSR fun K26 hK26=>?_);clear hK18;refine Mo H N3 F rfl rfl ?_;clear F a H;intro b9 a w F H;refine nK hK26 (cSR fun K27 hK27=>Xb (f:=2) (k:=42) XG rfl Yb rfl rfl F rfl (Nu XZ rfl Yb rfl rfl rfl (H.ra' 1 _ 96 rfl) (Xr (f:=2) (k:=42) XG rfl Yb rfl rfl rfl (Nu XZ rfl Yb rfl rfl rfl (H.ra' 0 _ 96 rfl) (Xe rfl rfl (XjT eT57 gT57 rfl) (Xh rfl ?_))))));clear hK26;clear F a;intro a F
 refine F.split 68 rfl ?_ ?_ <;> (clear F;intro h68 F)
 ·
  refine Xb (f:=3) (k:=138) XG rfl Yh rfl rfl F rfl (Nu X8 rfl Yh rfl rfl rfl (H.ra' 1 _ 4 rfl) (Xr (f:=3) (k:=138) XG rfl Yh rfl rfl rfl (Nu X8 rfl Yh rfl rfl rfl (H.ra' 0 _ 4 rfl) (Xe rfl rfl (XjT eT58 gT58 rfl) (Xy rfl rfl (Xd rfl (qNK hK27 ?_)))))));clear hK27;clear F a;intro a F;refine wp_ret ?_;refine JI Y2 F rfl ?_
  refine ⟨JZ ?_,H.below⟩
  clear F H
  (rw [MF h12 (fun i hi=>ht i (by omega)) (fun i hi=>ht2 i (by omega))];(rw [show same 96 (cut s 42) zb=true from h68];rfl))
 refine XB F (XC (XC (XC (XC (Xy rfl rfl (Xd rfl (qNK hK27 ?_)))))));clear hK27;clear F a;intro a F;refine wp_ret ?_;refine JI Y2 F rfl ?_
 refine ⟨JZ ?_,H.below⟩
 clear F H
 (rw [MF h12 (fun i hi=>ht i (by omega)) (fun i hi=>ht2 i (by omega))];(rw [show same 96 (cut s 42) zb=false from h68];rfl))
end
section
open Go.RowKit
set_option maxRecDepth 100000
theorem Xfl (cs:List Value) (p:Prg) (w0:World) (hP:ProgAt w0 cs p) (hN:NeedsAt w0) :
   Calls Tryz.prog 44 #[.agg cs.toArray] w0 fun e w'=>e = .returned (.tuple #[.agg (bs 142 (EE p)).toArray,.int .i64 (DD p)])∧Below w0.heap.size w0 w':=by
 have H:=Own.start w0 none
 have hP0:=hP
 obtain ⟨LA,LC,IA,IC,TA,TC,h,ccs,hp⟩:=hP
 obtain ⟨c1,c2,c3,c4,c5,rfl⟩:=DM (JT hp.cond)
 have hcs:=hp.cs
 subst hcs;refine JF func44 rfl ntmps44 rfl (fun a F=>?_);refine cSR fun K1 hK1=>?_;refine sBx H F rfl rfl rfl ?_;clear F a H;intro b1 a w F H;refine Mo H N3 F rfl rfl ?_;clear F a H;intro b2 a w F H;refine Xa F rfl (qNK hK1 (qSR fun K2 hK2=>?_));clear hK1;clear F a;intro a F;refine Mo H N3 F rfl rfl ?_;clear F a H;intro b4 a w F H;refine nK hK2 ?_;clear hK2;refine JD (fun K3 hK3=>?_);refine cSR fun K4 hK4=>?_
 refine Xw XM rfl ?si F rfl (H.whole 2 rfl) ?_
 case si=>exact Jz Ya
 clear F a;intro a F;refine Xu call69 F rfl (CM _ p _ (hP0.own H) (hN.own H)) (gG H ?_);clear F a H;intro a w F H;refine Xg F rfl rfl DR (qNK hK4 ?_);clear hK4;clear F a;intro a F
 refine cIf F rfl (fun h7=>?_) (fun h7=>?_)
 ·
  replace h7:=Ep h7;refine cSR fun K5 hK5=>Xs XG rfl XL F rfl (H.whole 0 rfl) ?_;clear F a;intro a F;refine Xt H 1 XL F rfl rfl rfl ?_;clear H;intro w H;rw [JE] at H;refine Xa F rfl (qNK hK5 ?_);clear hK5;clear F a;intro a F;refine wp_ret ?_;simp only [Exit.then];refine QJ results44 F rfl rfl XG rfl XL H 1 rfl ?_
  exact ⟨by rw [EE,DD,if_neg h7,if_neg h7],H.below⟩
 replace h7:=Er h7;refine wp_skip (hK3 _ _ ?_);clear hK3;refine JD (fun K6 hK6=>?_);refine Xi H ?_;replace H:=H.drew;refine Xj 0 rfl F rfl (fun w=>rFa (f:=1) (k:=36) XG rfl Yg rfl rfl F rfl) H qq0 (Xl 1 rfl rfl rfl (fun a F w H=>rSlA Yj XH F rfl) H qq0 (Xm 2 rfl rfl (fun a F w=>rFa (f:=2) (k:=2) XM rfl sizeOf23 rfl rfl F rfl) H qq0 (Xl 3 rfl rfl rfl (fun a F w H=>rLd isAgg23 F rfl (H.cell 2 rfl rfl)) H qq0 ?_)));clear F a;intro a F;refine Xn (k:=4) (i:=4) rfl F (oCpB H 0 Yt XH F rfl rfl rfl rfl (RowsAt.own hp.init H) rfl (by omega) ?_);clear F a H;intro a w F H;refine Xo H ?_;refine Xp (k:=5) ?_;refine hK6 _ _ (cSR fun K7 hK7=>Xs XG rfl XL F rfl (H.whole 0 rfl) ?_);clear hK6;clear F a;intro a F;refine Xt H 1 XL F rfl rfl rfl ?_;clear H;intro w H;rw [JE] at H;refine Xa F rfl (qNK hK7 ?_);clear hK7;clear F a;intro a F;refine wp_ret ?_;refine QJ results44 F rfl rfl XG rfl XL H 1 rfl ?_
 exact ⟨by rw [EE,DD,if_pos h7,if_pos h7];rfl,H.below⟩
theorem Xdj (cs:List Value) (p:Prg) (w0:World) (hP:ProgAt w0 cs p) (hn:p.threads.length≤4) (s:By) :
   Calls Tryz.prog 134 #[.agg cs.toArray,.agg (bs 142 s).toArray] w0 fun e w'=>∃ A c,e = .returned (.slice A (QT p s).length c)∧Own w0 none w' [.rws 3 1 (.slice A (QT p s).length c) (NY (QT p s))]:=by
 have H:=Own.start w0 none
 obtain ⟨LA,LC,IA,IC,TA,TC,h,ccs,hp⟩:=hP
 obtain ⟨c1,c2,c3,c4,c5,rfl⟩:=DM (JT hp.cond)
 have hcs:=hp.cs
 subst hcs;refine JF func134 rfl ntmps134 rfl (fun a F=>?_);refine cSR fun K1 hK1=>?_;refine sBx H F rfl rfl rfl ?_;clear F a H;intro b2 a w F H;refine Mg H F rfl rfl rfl ?_;clear F a H;intro b3 a w F H;refine Xa F rfl (qNK hK1 (qSR fun K2 hK2=>Xd rfl ?_));clear hK1;clear F a;intro a F
 replace H:=H.nilRws 3 1
 refine nK hK2 ?_;clear hK2;refine JD (fun K3 hK3=>?_);refine cSR fun K4 hK4=>Xb (f:=3) (k:=3) XM rfl Yo rfl rfl F rfl (Xc Yp rfl (H.cell 2 rfl rfl) (Xx X7 rfl (Xh rfl (qNK hK4 ?_))));clear hK4;clear F a;intro a F;refine wp_block ?_
 refine JN [3,9,10] (fun m ups w=>∃ (j:Nat) (A:Option Addr) (c:Nat) (l:List Nat),m=p.threads.length - j∧ups=[(5,.slice A l.length c),(11,.int .i64 (j:Int))]∧j≤p.threads.length∧l=(List.range j).filter (Xf0 p s)∧Own w0 none w [.rws 3 1 (.slice A l.length c) (NY l),.blk b3 (bs 142 s) 60,.blk b2 ([.string p.name,.slice LA p.locs.length LC,.slice IA p.init.length IC,.slice TA p.threads.length TC,b8 p.ask]++[c1,c2,c3,c4,c5]) 29]) F (p.threads.length) [(5,.slice none 0 0),(11,.int .i64 ((0:Nat):Int))] ?_ ?_
 · exact ⟨0,none,0,[],rfl,rfl,by omega,rfl,H⟩
 clear F
 clear H
 intro m ups a w hI F
 obtain ⟨j,A,c,l,rfl,rfl,hj,hl,H⟩:=hI
 refine cSR fun K5 hK5=>Xg F rfl rfl QF (qNK hK5 ?_);clear hK5;clear F a;intro a F;refine JD (fun K6 hK6=>?_)
 refine cIf F rfl (fun h12=>?_) (fun h12=>?_)
 ·
  replace h12:=of_decide_eq_true h12
  have hjl:j < p.threads.length:=by omega
  obtain ⟨q,hq⟩:∃ q,p.threads[j]? = some q:=⟨_,List.getElem?_eq_getElem hjl⟩
  obtain ⟨bT,oT,BT,CT,rfl,hT1,hT2,hT3⟩:=hp.threads j q hq
  refine wp_skip (hK6 _ _ ?_);clear hK6;refine JD (fun K7 hK7=>?_);refine wp_block ?_;refine cSR fun K8 hK8=>Xf F rfl ?_;clear F a;intro a F
  refine sIx X7 YB F rfl rfl rfl rfl ?_ ?_
  focus (omega)
  clear F a;intro a F;refine sLd YI F rfl rfl rfl (H.arg hT1) (Xd rfl (Xd rfl (qNK hK8 (qSR fun K9 hK9=>Xh rfl (Xr (f:=0) (k:=0) XG rfl Yc rfl rfl rfl ?_)))));clear hK8;clear F a;intro a F
  refine Ed XW XN F rfl rfl rfl rfl ?_ ?_
  focus (omega)
  clear F a;intro a F;refine Xe2 (f:=0) XK rfl XH rfl rfl F rfl rfl rfl (Xc XJ rfl (H.ce' 1 rfl) (qCv XO XT rfl rfl rfl (QG _) (Xh rfl (Xx Yl rfl (Xe rfl rfl QF (qNK hK9 ?_))))));clear hK9;clear F a;intro a F
  refine cIf F rfl (fun h24=>?_) (fun h24=>?_)
  ·
   replace h24:=of_decide_eq_true h24;refine JY (Xf F rfl (Xh rfl ?_));clear F a;intro a F;refine sBs1 H YU YW zeroValue3 rfl F rfl rfl rfl rfl ?_;clear F a H;intro b27 a w F H
   refine Mq (bytes:=8) H 1 YU typeInfo3 rfl rfl rfl rfl rfl rfl F rfl rfl rfl rfl rfl (H.whole 0 rfl) rfl ?s1 ?s2 ?_
   case s1=>rfl
   case s2=>(rw [intRows_length];have:=List.length_filter_le (Xf0 p s) (List.range j);rw [← hl,List.length_range] at this;omega)
   clear F a H;intro A28 c28 a w F H;refine Xa F rfl (qNK hK7 (Ef ?_));clear hK7;clear F a;intro a F
   refine Xg F rfl rfl (JJ (j:=1) ?_) ?_
   focus omega
   clear F a;intro a F;refine Xf F rfl ?_;clear F a;intro a F;refine J4 ?_
   have hs:=MH (Xf0 p s) j
   rw [BJ hq,← hl] at hs
   (rw [if_pos (decide_eq_true (by omega))] at hs
    rw [← Ck,intRows_length] at H F
    exact ⟨_,by omega,_,⟨j+1,A28,c28,l++[j],rfl,rfl,by omega,hs.symm,H.tail⟩,F.tt⟩)
  replace h24:=of_decide_eq_false h24;refine wp_skip (hK7 _ _ (JY ?_));clear hK7
  refine Xg F rfl rfl (JJ (j:=1) ?_) ?_
  focus omega
  clear F a;intro a F;refine Xf F rfl ?_;clear F a;intro a F;refine J4 ?_
  have hs:=MH (Xf0 p s) j
  rw [BJ hq,← hl] at hs
  (rw [if_neg (by rw [decide_eq_true_eq];omega)] at hs
   exact ⟨_,by omega,_,⟨j+1,A,c,l,rfl,rfl,by omega,hs.symm,H⟩,F.tt⟩)
 replace h12:=of_decide_eq_false h12;refine wp_exit ?_;refine hK3 _ _ (cSR fun K10 hK10=>Xf F rfl (Xd rfl (qNK hK10 ?_)));clear hK3 hK10;clear F a;intro a F;refine wp_ret ?_;refine JI results134 F rfl ?_
 obtain rfl:j=p.threads.length:=by omega
 rw [← QT] at hl;subst hl
 exact ⟨A,c,rfl,H.pick 0 rfl⟩
end
section
open Go.RowKit
set_option maxRecDepth 100000
theorem fine {p:Prg} (h:JH p=0) {t:Nat} {l:List Ins} {i:Nat} {x:Ins} (hl:p.threads[t]? = some l) (hx:l[i]? = some x):XdM x:=by
 have hv:=valid h
 have hi:=M6 (hv.ins t l hl) hx
 have h0:=XaG x.op (NO hi 0 (by omega))
 have h2:decide (x.dst < 8)=true:=NO hi 2 (by omega)
 have hd:x.dst.toNat < 8:=of_decide_eq_true h2
 have h3:(!Qe x.op 2 || decide ((x.loc.toNat:Int) < (p.locs.length:Int)))=true:=NO hi 3 (by omega)
 have hl6:=hv.locs6
 have hloc:Qe x.op 2=true→x.loc.toNat < 6:=fun hb=>by
   rw [hb] at h3
   have:((x.loc.toNat:Int) < (p.locs.length:Int)):=by simpa using h3
   omega
 rcases h0 with h | h | h | h | h | h | h | h
 · exact .inr ⟨by simp [JB,h],by simp [LW,h],hloc (by rw [h];decide),fun _=>hd⟩
 · exact .inr ⟨by simp [JB,h],by simp [LW,h],hloc (by rw [h];decide),fun _=>hd⟩
 · exact .inl (by simp [JB,h])
 · exact .inr ⟨by simp [JB,h],by simp [LW,h],hloc (by rw [h];decide),fun _=>hd⟩
 · exact .inr ⟨by simp [JB,h],by simp [LW,h],hloc (by rw [h];decide),fun _=>hd⟩
 · exact .inr ⟨by simp [JB,h],by simp [LW,h],hloc (by rw [h];decide),fun _=>hd⟩
 · exact .inl (by simp [JB,h])
 · exact .inl (by simp [JB,h])
theorem XfX (cs:List Value) (p:Prg) (w0:World) (hP:ProgAt w0 cs p) (hN:NeedsAt w0) (s:By) :
   Calls Tryz.prog 119 #[.agg cs.toArray,.agg (bs 142 s).toArray] w0 fun e w'=>∃ A c,e = .returned (.slice A (Na p s).length c)∧Own w0 none w' [.rws 3 1 (.slice A (Na p s).length c) (NY (Na p s))]:=by
 have H:=Own.start w0 none
 obtain ⟨d1,d2,d3,d4,d5,d6,d7,d8,d9,d10,rfl⟩:=hP.len10
 refine JF func119 rfl ntmps119 rfl (fun a F=>?_);refine cSR fun K1 hK1=>?_;refine sBx H F rfl rfl rfl ?_;clear F a H;intro b2 a w F H;refine Mg H F rfl rfl rfl ?_;clear F a H;intro b3 a w F H;refine Xa F rfl (qNK hK1 ?_);clear hK1;clear F a;intro a F;refine JD (fun K2 hK2=>?_);refine cSR fun K3 hK3=>?_
 refine Xw XM rfl ?si F rfl (H.whole 1 rfl) ?_
 case si=>exact Jz Ya
 clear F a;intro a F;refine Xs XG rfl XL F rfl (H.whole 0 rfl) ?_;clear F a;intro a F;refine Xu call84 F rfl (CP _ p _ (hP.own H) (hN.own H) s) (gG H ?_);clear F a H;intro a w F H;refine Xav F rfl rfl rfl (qNK hK3 ?_);clear hK3;clear F a;intro a F
 refine cIf F rfl (fun h8=>?_) (fun h8=>?_)
 ·
  replace h8:=N1 h8;refine cSR fun K4 hK4=>Xa F rfl (qNK hK4 ?_);clear hK4;clear F a;intro a F;refine wp_ret ?_;simp only [Exit.then];refine JI results119 F rfl ?_
  exact ⟨none,0,by rw [Na,if_neg (by rw [h8];simp)];rfl,by rw [Na,if_neg (by rw [h8];simp)];exact (H.nilRws _ _).pick 0 rfl⟩
 replace h8:=N2 h8
 have hr:Qi p s=true:=h8
 have hv:=valid (MZ hr)
 refine wp_skip (hK2 _ _ (cSR fun K5 hK5=>?_));clear hK2
 refine Xw XM rfl ?si F rfl (H.whole 1 rfl) ?_
 case si=>exact Jz Ya
 clear F a;intro a F;refine Xs XG rfl XL F rfl (H.whole 0 rfl) ?_;clear F a;intro a F;refine Xu call134 F rfl (Xdj _ p _ (hP.own H) hv.thr4 s) ?_;rintro e w ⟨A,c,rfl,H2⟩;replace H:=H.join H2;clear H2;refine ⟨_,rfl,?_⟩;clear F a;intro a F;refine Xa F rfl (qNK hK5 ?_);clear hK5;clear F a;intro a F;refine wp_ret ?_;refine JI results119 F rfl ?_
 exact ⟨A,c,by rw [Na,if_pos hr],by rw [Na,if_pos hr];exact H.pick 0 rfl⟩
theorem Xb6 (s:By) (w0:World) :
   Calls Tryz.prog 24 #[.agg (bs 142 s).toArray] w0 fun e w'=>e = .returned (.agg (bs 38 (Qh s)).toArray)∧Below w0.heap.size w0 w':=by
 have H:=Own.start w0 none
 refine JF func24 rfl ntmps24 rfl (fun a F=>?_);refine cSR fun K1 hK1=>?_;refine Mg H F rfl rfl rfl ?_;clear F a H;intro b1 a w F H;refine Mo H Xg8 F rfl rfl ?_;clear F a H;intro b2 a w F H;refine nK hK1 (cSR fun K2 hK2=>Xb (f:=1) (k:=36) XG rfl Yg rfl rfl F rfl (Nu Yj rfl Yg rfl rfl rfl (H.ra' 1 _ 6 rfl) (Xhx (places:=[(0,32),(32,6)]) Xg8 X5 (by kernel_rfl) rfl rfl rfl (FillB.row rfl rfl FillB.nil) ?_)));clear hK1;clear F a;intro a F;refine Mo H Xg8 F rfl rfl ?_;clear F a H;intro b3 a w F H;refine Xt H 0 X0 F rfl rfl rfl ?_;clear H;intro w H;rw [JE] at H;refine nK hK2 ?_;clear hK2;refine JD (fun K3 hK3=>?_);refine cSR fun K4 hK4=>Xb (f:=0) (k:=0) XG rfl Yc rfl rfl F rfl (Nu XW rfl Yc rfl rfl rfl (H.rangeB0 2 36 rfl (by omega)) (Xh rfl (qNK hK4 ?_)));clear hK4;clear F a;intro a F;refine wp_block ?_
 refine JN [2,3,10] (fun m ups w=>∃ (j:Nat) (f:By),m=4 - j∧ups=[(11,.int .i64 (j:Int))]∧j≤4∧(∀ i,i < 38→f i=if 32≤i∨i < j * 8 then Qh s i else 0)∧Own w0 none w [.blk b3 (bs 38 f) 34,.blk b2 (bs 38 zb) 34,.blk b1 (bs 142 s) 60]) F (4) [(11,.int .i64 ((0:Nat):Int))] ?_ ?_
 · exact ⟨0,_,rfl,rfl,by omega,XeP s,H⟩
 clear F
 clear H
 intro m ups a w hI F
 obtain ⟨j,f,rfl,rfl,hj,hf,H⟩:=hI
 refine cSR fun K5 hK5=>Xg F rfl rfl QF (qNK hK5 ?_);clear hK5;clear F a;intro a F;refine JD (fun K6 hK6=>?_)
 refine cIf F rfl (fun h12=>?_) (fun h12=>?_)
 ·
  replace h12:=of_decide_eq_true h12;refine wp_skip (hK6 _ _ ?_);clear hK6;refine JD (fun K7 hK7=>?_);refine wp_block ?_;refine cSR fun K8 hK8=>Xf F rfl ?_;clear F a;intro a F
  refine Xj4 XW XN isAgg52 F rfl rfl rfl rfl ?_ ?_ ?_
  focus omega
  focus omega
  clear F a;intro a F;refine Mo H Xe1 F rfl rfl ?_;clear F a H;intro b5 a w F H;refine Xa F rfl ?_;clear F a;intro a F;refine Xt H 0 XN F rfl rfl rfl ?_;clear H;intro w H;rw [JE] at H;refine nK hK8 (JY (Xf F rfl (Xr (f:=1) (k:=1) XK rfl X1 rfl rfl rfl (Nu X9 rfl X1 rfl rfl rfl (H.ra' 0 _ 8 rfl) (Xr (f:=0) (k:=0) X5 rfl Zi rfl rfl rfl ?_)))));clear hK8;clear F a;intro a F
  refine Ed YV X1 F rfl rfl rfl rfl ?_ ?_
  focus (omega)
  clear F a;intro a F;refine Xt H 1 X1 F rfl rfl rfl ?_;clear H;intro w H;refine nK hK7 (JY ?_);clear hK7
  refine Xg F rfl rfl (JJ (j:=1) ?_) ?_
  focus omega
  clear F a;intro a F;refine Xf F rfl ?_;clear F a;intro a F;refine J4 ?_
  exact ⟨4 - (j+1),by omega,_,⟨j+1,_,rfl,rfl,by omega,XeO (by omega) hf,H.tail⟩,F.tt⟩
 replace h12:=of_decide_eq_false h12;refine wp_exit ?_;refine hK3 _ _ (cSR fun K9 hK9=>Xs X5 rfl X0 F rfl (H.whole 0 rfl) ?_);clear hK3;clear F a;intro a F;refine Xt H 1 X0 F rfl rfl rfl ?_;clear H;intro w H;rw [JE] at H;refine nK hK9 ?_;clear hK9;refine wp_ret ?_;refine NE results24 F rfl X5 rfl X0 H 1 rfl ?_
 obtain rfl:j=4:=by omega
 exact ⟨Ch fun i hi=>by rw [hf i hi,if_pos (by omega)],H.below⟩
end
def XdK (x:Ins) (th:By) (had:UInt8):By:=if JB x then Ni x th else Xdd x th had
def XbL (x:Ins) (th:By):UInt8:=if x.op=8∧MC x.fn (Ns x th) (E9 x th)=true then th 0+x.skip+1 else th 0+1
theorem Xfi (x:Ins) (th:By) (had:UInt8):XdK x th had 0=XbL x th:=by
 unfold XdK XbL
 cases hL:JB x with
 | true=>
   simp only [if_true]
   unfold Ni
   by_cases h3:x.op=3
   · rw [if_pos h3,if_neg (by rw [h3];intro h;exact absurd h.1 (by decide))];rfl
   · rw [if_neg h3]
     by_cases h8:x.op=8
     · rw [if_pos h8]
       cases hs:MC x.fn (Ns x th) (E9 x th)
       · simp [put]
       · simp [put,h8]
     · rw [if_neg h8]
       have h7:x.op=7:=by simpa [JB,h3,h8] using hL
       rw [if_pos h7,if_neg (fun h=>h8 h.1)];rfl
 | false=>
   have h8:x.op ≠ 8:=fun h=>by simp [JB,h] at hL
   rw [if_neg (by simp),if_neg (fun h=>h8 h.1)]
   rfl
theorem M4 (x:Ins) (s:By) (t i:Nat):Lp x s t i=if t * 9≤i∧i < t * 9+9 then XdK x (cut s (t * 9)) (s (36+x.loc.toNat)) (i - t * 9)
   else if JB x=false∧i=36+x.loc.toNat then Cd x (cut s (t * 9)) (s (36+x.loc.toNat)) else s i:=by
 unfold Lp XdK
 cases hL:JB x with
 | true=>simp only [if_true];unfold lay;split <;> simp
 | false=>
   simp only [Bool.false_eq_true,if_false,true_and]
   unfold lay
   split
   · rfl
   · unfold put;rfl
theorem XiY {x:Ins} {locs after:Int} (h:Ma x locs after=true) (h8:x.op=8):(x.skip.toNat:Int)≤after:=by
 have h7:(!Qe x.op 64 || (decide (1≤x.skip) && decide ((x.skip.toNat:Int)≤after)))=true:=NO h 7 (by omega)
 have:Qe x.op 64=true:=by rw [h8];decide
 rw [this] at h7
 simp only [Bool.not_true,Bool.false_or,Bool.and_eq_true,decide_eq_true_eq] at h7
 exact h7.2
theorem XdV {x:Ins} {th:By} {locs:Int} {n:Nat} (hn:n≤12) (hp:(th 0).toNat < n) (h:Ma x locs ((n:Int) - 1 - (th 0).toNat)=true):(th 0).toNat < (XbL x th).toNat∧(XbL x th).toNat≤n:=by
 unfold XbL
 have h1:(1:UInt8).toNat=1:=rfl
 split
 · rename_i hc
   have:=XiY h hc.1
   have e:(th 0+x.skip+1).toNat=(th 0).toNat+x.skip.toNat+1:=by
     rw [UInt8.toNat_add,UInt8.toNat_add,h1];omega
   rw [e];omega
 · have e:(th 0+1).toNat=(th 0).toNat+1:=by
     rw [UInt8.toNat_add,h1];omega
   rw [e];omega
def XjQ (p:Prg) (t:Nat):Nat:=(p.threads[t]?.map List.length).getD 0
def pcP (s:By) (t:Nat):Nat:=(s (t * 9)).toNat
theorem Xgb {p:Prg} {t:Nat} {l:List Ins} (h:p.threads[t]? = some l):XjQ p t=l.length:=by simp [XjQ,h]
def mu (p:Prg) (s:By):Nat:=(XjQ p 0 - pcP s 0)+(XjQ p 1 - pcP s 1)+(XjQ p 2 - pcP s 2)+(XjQ p 3 - pcP s 3)
structure StepOf (p:Prg) (s z:By) (t:Nat) (l:List Ins) (x:Ins):Prop where
 hl:p.threads[t]? = some l
 hx:l[pcP s t]? = some x
 fine:JB x=true∨(JB x=false∧LW x.op∧x.loc.toNat < p.locs.length∧(x.op ≠ 2→x.dst.toNat < 8))
 at':∀ i,z i=if t * 9≤i∧i < t * 9+9 then XdK x (cut s (t * 9)) (s (36+x.loc.toNat)) (i - t * 9)
   else if JB x=false∧i=36+x.loc.toNat then Cd x (cut s (t * 9)) (s (36+x.loc.toNat)) else s i
 t4:t < 4
 lt:pcP s t < l.length
 up:pcP s t < pcP z t
 le:pcP z t≤l.length
theorem Xjq {p:Prg} (h:JH p=0) {t:Nat} {l:List Ins} {i:Nat} {x:Ins} (hl:p.threads[t]? = some l) (hx:l[i]? = some x) :
   JB x=true∨(JB x=false∧LW x.op∧x.loc.toNat < p.locs.length∧(x.op ≠ 2→x.dst.toNat < 8)):=by
 have hv:=valid h
 have hi:=M6 (hv.ins t l hl) hx
 have h0:=XaG x.op (NO hi 0 (by omega))
 have h2:decide (x.dst < 8)=true:=NO hi 2 (by omega)
 have hd:x.dst.toNat < 8:=of_decide_eq_true h2
 have h3:(!Qe x.op 2 || decide ((x.loc.toNat:Int) < (p.locs.length:Int)))=true:=NO hi 3 (by omega)
 have hloc:Qe x.op 2=true→x.loc.toNat < p.locs.length:=fun hb=>by
   rw [hb] at h3
   have:((x.loc.toNat:Int) < (p.locs.length:Int)):=by simpa using h3
   omega
 rcases h0 with h | h | h | h | h | h | h | h
 · exact .inr ⟨by simp [JB,h],by simp [LW,h],hloc (by rw [h];decide),fun _=>hd⟩
 · exact .inr ⟨by simp [JB,h],by simp [LW,h],hloc (by rw [h];decide),fun _=>hd⟩
 · exact .inl (by simp [JB,h])
 · exact .inr ⟨by simp [JB,h],by simp [LW,h],hloc (by rw [h];decide),fun _=>hd⟩
 · exact .inr ⟨by simp [JB,h],by simp [LW,h],hloc (by rw [h];decide),fun _=>hd⟩
 · exact .inr ⟨by simp [JB,h],by simp [LW,h],hloc (by rw [h];decide),fun _=>hd⟩
 · exact .inl (by simp [JB,h])
 · exact .inl (by simp [JB,h])
theorem XdL {p:Prg} (h:JH p=0) {s:By} {t:Nat} (ht:t ∈ QT p s):∃ l x,StepOf p s (DT p s t) t l x:=by
 obtain ⟨l,x,hl,hx⟩:=BI ht
 have hv:=valid h
 have htl:t < p.threads.length:=(List.getElem?_eq_some_iff.1 hl).1
 have hlt:pcP s t < l.length:=(List.getElem?_eq_some_iff.1 hx).1
 have hi:=M6 (hv.ins t l hl) hx
 rw [Nat.zero_add] at hi
 have hpc:=XdV (th:=cut s (t * 9)) (hv.long t l hl) (by simpa [cut,pcP] using hlt) (by simpa [cut] using hi)
 have e:DT p s t=Lp x s t:=D0 hl hx
 have hz:DT p s t (t * 9)=XbL x (cut s (t * 9)):=by
   rw [e,M4,if_pos (by omega),Nat.sub_self,Xfi]
 refine ⟨l,x,hl,hx,Xjq h hl hx,fun i=>by rw [e];exact M4 x s t i,by have:=hv.thr4;omega,hlt,?_,?_⟩
 · unfold pcP;rw [hz];simpa [cut] using hpc.1
 · unfold pcP;rw [hz];exact hpc.2
section
variable {p:Prg} {s z:By} {t:Nat} {l:List Ins} {x:Ins}
theorem StepOf.far (h:StepOf p s z t l x) {u k:Nat} (hu:u ≠ t) (hk:k < 9) (hu4:u < 4):z (u * 9+k)=s (u * 9+k):=by
 have:=h.t4
 rw [h.at',if_neg (by rcases Nat.lt_or_gt_of_ne hu with h | h <;> omega),if_neg (by omega)]
theorem StepOf.pc (h:StepOf p s z t l x) {u:Nat} (hu:u ≠ t) (hu4:u < 4):pcP z u=pcP s u:=by
 have:=h.far hu (k:=0) (by omega) hu4
 simp only [Nat.add_zero] at this
 unfold pcP;rw [this]
theorem StepOf.rest (h:StepOf p s z t l x) (hp:JH p=0) {i:Nat} (hi:42≤i):z i=s i:=by
 have:=h.t4
 have h6:=(valid hp).locs6
 rw [h.at',if_neg (by omega),if_neg];rintro ⟨h1,h2⟩
 rcases h.fine with h3 | h3
 · rw [h3] at h1;cases h1
 · have:=h3.2.2.1;omega
theorem StepOf.mem (h:StepOf p s z t l x) {k:Nat} (hk:JB x=true∨k ≠ x.loc.toNat):z (36+k)=s (36+k):=by
 have:=h.t4
 rw [h.at',if_neg (by omega),if_neg];rintro ⟨h1,h2⟩
 rcases hk with hk | hk
 · rw [hk] at h1;cases h1
 · omega
theorem StepOf.mu (h:StepOf p s z t l x):mu p z < mu p s:=by
 have h1:=h.up
 have h2:=h.lt
 have h3:=Xgb h.hl
 have h4:=h.t4
 have q:∀ u,u < 4→u ≠ t→pcP z u=pcP s u:=fun u hu hne=>h.pc hne hu
 unfold YtcpehikcegoojaaGreatDoor.mu
 rcases (by omega:t=0∨t=1∨t=2∨t=3) with rfl | rfl | rfl | rfl
 · rw [q 1 (by omega) (by omega),q 2 (by omega) (by omega),q 3 (by omega) (by omega)];omega
 · rw [q 0 (by omega) (by omega),q 2 (by omega) (by omega),q 3 (by omega) (by omega)];omega
 · rw [q 0 (by omega) (by omega),q 1 (by omega) (by omega),q 3 (by omega) (by omega)];omega
 · rw [q 0 (by omega) (by omega),q 1 (by omega) (by omega),q 2 (by omega) (by omega)];omega
theorem StepOf.right (h:StepOf p s z t l x) (hr:Qi p s=true):Qi p z=true:=by
 have hp:=MZ hr
 have hr2:=hr
 unfold Qi Mf at hr2
 simp only [Bool.and_eq_true,beq_iff_eq] at hr2
 obtain ⟨_,⟨ht,hm⟩,hb,hy⟩:=hr2
 rw [allB_iff] at ht hm;rw [same_iff] at hb hy;rw [MF hp (fun u hu=>?_) (fun k hk=>?_)]
 · rw [Bool.and_eq_true,same_iff,same_iff]
   exact ⟨fun i hi=>(by unfold cut;rw [h.rest hp (by omega)];exact hb i hi),fun i hi=>(by unfold cut;rw [h.rest hp (by omega)];exact hy i hi)⟩
 · by_cases hut:u=t
   · subst hut
     rw [Q1 h.hl];exact decide_eq_true h.le
   · have h1:=ht u hu
     have h2:∀ k,k < 9→z (u * 9+k)=s (u * 9+k):=fun k hk=>h.far hut hk hu
     unfold Qq at h1 ⊢
     split at h1
     · rename_i l' hl'
       have h3:=h2 0 (by omega)
       simp only [Nat.add_zero] at h3
       rw [h3];exact h1
     · rename_i hl'
       rw [same_iff] at h1 ⊢
       intro k hk
       exact (h2 k hk).trans (h1 k hk)
 · have h1:=hm k hk
   unfold LV at h1 ⊢
   by_cases hkl:k < p.locs.length
   · rw [decide_eq_true hkl,Bool.true_or]
   · rw [decide_eq_false hkl,Bool.false_or] at h1 ⊢
     rw [h.mem]
     · exact h1
     · rcases h.fine with h3 | h3
       · exact .inl h3
       · exact .inr (by have:=h3.2.2.1;omega)
end
theorem Xaq {p:Prg} (h:JH p=0) (i:Nat):Qr p i=if 36≤i∧i < 36+p.locs.length then p.init.getD (i - 36) 0 else 0:=by
 have hv:=valid h
 have h6:=hv.locs6
 unfold Qr lay ofL zb
 rw [hv.init,Nat.min_eq_left h6]
theorem XcG {p:Prg} (h:JH p=0):Qi p (Qr p)=true:=by
 have hs:=Xaq h
 have h6:=(valid h).locs6
 have z9:∀ i,i < 36→Qr p i=0:=fun i hi=>by rw [hs,if_neg (by omega)]
 have z42:∀ i,42≤i→Qr p i=0:=fun i hi=>by rw [hs,if_neg (by omega)]
 rw [MF h (fun u hu=>?_) (fun k hk=>?_)]
 · rw [Bool.and_eq_true,same_iff,same_iff]
   exact ⟨fun i hi=>z42 _ (by omega),fun i hi=>z42 _ (by omega)⟩
 · unfold Qq
   split
   · rw [z9 _ (by omega)];exact decide_eq_true (Nat.zero_le _)
   · rw [same_iff];exact fun i hi=>z9 _ (by omega)
 · unfold LV
   by_cases hkl:k < p.locs.length
   · rw [decide_eq_true hkl,Bool.true_or]
   · rw [decide_eq_false hkl,Bool.false_or,hs,if_neg (by omega)];rfl
section
open Go.RowKit
set_option maxRecDepth 100000
theorem Own.intAt {w0 w:World} {row:Option Nat} {rs:List Res} (H:Own w0 row w rs) (i:Nat) {e:TypeId} {n c:Nat} {A:Option Addr} {l:List Nat} (hi:rs[i]? = some (.rws e 1 (.slice A n c) (NY l))) {j t:Nat} (hj:l[j]? = some t) :
   ∃ b off,A=some ⟨b,off,.none⟩∧w.cell? ⟨b,off+j * 1,.none⟩=some (.int .i64 (t:Int)):=by
 obtain ⟨b,off,h1,h2⟩:=H.rowsAt i hi (Xc5 l) (by omega) j [.int .i64 (t:Int)] (by simp [NY,hj])
 exact ⟨b,off,h1,by have:=h2 0 _ rfl;rwa [Nat.add_zero] at this⟩
theorem XeF {p:Prg} {s:By} {j k:Nat} (h:(Na p s)[j]? = some k):Nz p s (k:Int)=true:=by
 unfold Nz
 rw [List.any_eq_true]
 exact ⟨k,List.mem_of_getElem? h,by simp⟩
theorem Xc1 {p:Prg} {s:By} {t:Int} (h:∀ i k:Nat,(Na p s)[i]? = some k→(k:Int) ≠ t):Nz p s t=false:=by
 unfold Nz
 rw [← Bool.not_eq_true,List.any_eq_true];rintro ⟨k,hk,h2⟩
 obtain ⟨i,hi⟩:=List.getElem?_of_mem hk
 exact h i k hi (by simpa using h2)
theorem N8 (cs:List Value) (p:Prg) (w0:World) (hP:ProgAt w0 cs p) (hN:NeedsAt w0) (s:By) (t:Int) :
   Calls Tryz.prog 93 #[.agg cs.toArray,.agg (bs 142 s).toArray,.int .i64 t] w0 fun e w'=>e = .returned (.tuple #[.agg (bs 142 (M3 p s t)).toArray,.int .i64 (Dq p s t)])∧Below w0.heap.size w0 w':=by
 have H:=Own.start w0 none
 obtain ⟨d1,d2,d3,d4,d5,d6,d7,d8,d9,d10,rfl⟩:=hP.len10
 refine JF func93 rfl ntmps93 rfl (fun a F=>?_);refine cSR fun K1 hK1=>?_;refine sBx H F rfl rfl rfl ?_;clear F a H;intro b3 a w F H;refine Mg H F rfl rfl rfl ?_;clear F a H;intro b4 a w F H;refine Mo H N3 F rfl rfl ?_;clear F a H;intro b6 a w F H;refine Xa F rfl (qNK hK1 ?_);clear hK1;clear F a;intro a F;refine JD (fun K2 hK2=>?_);refine cSR fun K3 hK3=>?_
 refine Xw XM rfl ?si F rfl (H.whole 2 rfl) ?_
 case si=>exact Jz Ya
 clear F a;intro a F;refine Xs XG rfl XL F rfl (H.whole 1 rfl) ?_;clear F a;intro a F;refine Xu call119 F rfl (XfX _ p _ (hP.own H) (hN.own H) s) ?_;rintro e w ⟨A,c,rfl,H2⟩;replace H:=H.join H2;clear H2;refine ⟨_,rfl,?_⟩;clear F a;intro a F;refine Ec YU F rfl rfl rfl (Xh rfl (qNK hK3 ?_));clear hK3;clear F a;intro a F;refine wp_block ?_
 refine JN [2,3,4,6,12,13] (fun m ups w=>∃ j:Nat,m=(Na p s).length - j∧ups=[(14,.int .i64 (j:Int))]∧j≤(Na p s).length∧(∀ i k:Nat,i < j→(Na p s)[i]? = some k→(k:Int) ≠ t)∧Own w0 none w [.rws 3 1 (.slice A (Na p s).length c) (NY (Na p s)),.blk b6 (bs 142 zb) 60,.blk b4 (bs 142 s) 60,.blk b3 [d1,d2,d3,d4,d5,d6,d7,d8,d9,d10] 29]) F ((Na p s).length) [(14,.int .i64 ((0:Nat):Int))] ?_ ?_
 · exact ⟨0,rfl,rfl,by omega,fun i k hi=>by omega,H⟩
 clear F
 clear H
 intro m ups a w hI F
 obtain ⟨j,rfl,rfl,hj,hne,H⟩:=hI
 have hb:=(H.rwsLen 0 rfl).2
 simp only [maxLen] at hb
 refine cSR fun K4 hK4=>Xg F rfl rfl QF (qNK hK4 ?_);clear hK4;clear F a;intro a F;refine JD (fun K5 hK5=>?_)
 refine cIf F rfl (fun h15=>?_) (fun h15=>?_)
 ·
  replace h15:=of_decide_eq_true h15
  have hjl:j < (Na p s).length:=by omega
  obtain ⟨k,hk⟩:∃ k,(Na p s)[j]? = some k:=⟨_,List.getElem?_eq_getElem hjl⟩
  obtain ⟨bL,oL,rfl,hL⟩:=H.intAt 0 rfl hk
  refine wp_skip (hK5 _ _ ?_);clear hK5;refine JD (fun K6 hK6=>?_);refine wp_block ?_;refine cSR fun K7 hK7=>?_
  refine sIx YU YW F rfl rfl rfl rfl ?_ ?_
  focus (omega)
  clear F a;intro a F;refine sLd isAgg3 F rfl rfl rfl hL (Xd rfl (qNK hK7 (qSR fun K8 hK8=>Xh rfl (Xh rfl (Xe rfl rfl Mp (qNK hK8 ?_))))));clear hK7 hK8;clear F a;intro a F
  refine cIf F rfl (fun h20=>?_) (fun h20=>?_)
  ·
   replace h20:=J1 h20;subst h20
   have hm:=XbP (List.mem_of_getElem? hk)
   obtain ⟨l,x,hl,hx⟩:=BI hm.2
   have hf:=fine (MZ hm.1) hl hx
   have hk4:k < 4:=by
     have:=(List.getElem?_eq_some_iff.1 hl).1
     have:=(valid (MZ hm.1)).thr4
     omega
   refine cSR fun K9 hK9=>?_
   refine Xw XM rfl ?si F rfl (H.whole 3 rfl) ?_
   case si=>exact Jz Ya
   clear F a;intro a F;refine Xs XG rfl XL F rfl (H.whole 2 rfl) (Xh rfl ?_);clear F a;intro a F;refine Xu call120 F rfl (Xhg _ p _ (hP.own H) s k l x hk4 hl hx hf) (gG H ?_);clear F a H;intro a w F H;refine Xt H 1 XL F rfl rfl rfl ?_;clear H;intro w H;rw [JE] at H;refine Xa F rfl (qNK hK9 ?_);clear hK9;clear F a;intro a F;refine wp_ret ?_;refine xI ?_;refine QJ results93 F rfl rfl XG rfl XL H 1 rfl ?_
   exact ⟨by rw [M3,Dq,XeF hk,if_pos rfl,if_pos rfl,Int.toNat_natCast,D0 hl hx],H.below⟩
  replace h20:=J2 h20;refine wp_skip (hK6 _ _ (JY ?_));clear hK6
  refine Xg F rfl rfl (JJ (j:=1) ?_) ?_
  focus omega
  clear F a;intro a F;refine Xf F rfl ?_;clear F a;intro a F;refine J4 ?_
  have hne2:∀ i q:Nat,i < j+1→(Na p s)[i]? = some q→(q:Int) ≠ t:=fun i q hi hq=>by
    rcases Nat.lt_or_ge i j with h1 | h1
    · exact hne i q h1 hq
    · obtain rfl:i=j:=by omega
      rw [hk] at hq
      cases hq
      exact h20
  exact ⟨_,by omega,_,⟨j+1,rfl,rfl,by omega,hne2,H⟩,F.tt⟩
 replace h15:=of_decide_eq_false h15;refine wp_exit ?_;refine hK2 _ _ (cSR fun K10 hK10=>Xhn (places:=[(0,36),(36,6),(42,96),(138,4)]) N3 XG (by kernel_rfl) F rfl rfl rfl FillB.nil ?_);clear hK2;clear F a;intro a F;refine Xt H 1 XL F rfl rfl rfl ?_;clear H;intro w H;rw [JE] at H;refine Xa F rfl (qNK hK10 ?_);clear hK10;clear F a;intro a F;refine wp_ret ?_;refine QJ results93 F rfl rfl XG rfl XL H 1 rfl ?_
 (have hn:=Xc1 (p:=p) (s:=s) (t:=t) (fun i k hk=>hne i k (by have:=(List.getElem?_eq_some_iff.1 hk).1;omega) hk)
  exact ⟨by rw [M3,Dq,hn];rfl,H.below⟩)
end
section
open Go.RowKit
set_option maxRecDepth 100000
def BytesAt (w:World) (A:Option Addr) (l:List UInt8):Prop:=RowsAt w A 1 (l.map fun x=>[b8 x])
theorem BytesAt.get {w:World} {A:Option Addr} {l:List UInt8} (h:BytesAt w A l) {j:Nat} {x:UInt8} (hj:l[j]? = some x):∃ b off,A=some ⟨b,off,none⟩∧w.cell? ⟨b,off+j * 1,none⟩=some (b8 x):=by
 obtain ⟨b,off,h1,h2⟩:=h j [b8 x] (by rw [List.getElem?_map,hj];rfl)
 exact ⟨b,off,h1,by have:=h2 0 _ rfl;rwa [Nat.add_zero] at this⟩
theorem Xkj {p:Prg} {s:By} (hp:JH p=0) {k:Nat} (hk:k ∈ QT p s):mu p (DT p s k) < mu p s:=by
 obtain ⟨l,x,h⟩:=XdL hp hk
 exact h.mu
end
theorem DC {r:Bool} {n:UInt8} {a b:By} (h:∀ k,k < 9→a k=b k):NQ r n (cut a 1)=NQ r n (cut b 1):=by
 unfold NQ cut
 split
 · split
   · exact h _ (by omega)
   · rfl
 · rfl
theorem Cu {x:Ins} {a b:By} (h:∀ k,k < 9→a k=b k):Ns x a=Ns x b:=DC h
theorem Ct {x:Ins} {a b:By} (h:∀ k,k < 9→a k=b k):E9 x a=E9 x b:=DC h
theorem LP {x:Ins} {a b:By} {had:UInt8} (h:∀ k,k < 9→a k=b k):Cd x a had=Cd x b had:=by
 unfold Cd;rw [Cu h,Ct h]
theorem Bf {a b:By} {d v:UInt8} (h:∀ k,k < 9→a k=b k):∀ k,k < 9→MR a d v k=MR b d v k:=fun k hk=>by
 unfold MR
 split
 · unfold put;split
   · rfl
   · exact h k hk
 · exact h k hk
theorem EM {a b:By} {j:Nat} {u v:UInt8} (h:∀ k,k < 9→a k=b k) (huv:u=v):∀ k,k < 9→put a j u k=put b j v k:=fun k hk=>by
 unfold put;split
 · exact huv
 · exact h k hk
theorem Dc {x:Ins} {a b:By} {had:UInt8} (h:∀ k,k < 9→a k=b k):∀ k,k < 9→XdK x a had k=XdK x b had k:=fun k hk=>by
 have h0:=h 0 (by omega)
 unfold XdK
 split
 · unfold Ni
   rw [Cu h,Ct h,h0]
   split
   · exact EM (Bf h) rfl k hk
   · split
     · exact EM h rfl k hk
     · split
       · exact EM h rfl k hk
       · exact h k hk
 · unfold Xdd
   rw [h0]
   refine EM (fun q hq=>?_) rfl k hk
   split
   · exact h q hq
   · exact Bf h q hq
theorem Xel {x:Ins} (h:JB x=true) (a:By) (u v:UInt8):XdK x a u=XdK x a v:=by
 unfold XdK;rw [if_pos h,if_pos h]
section
variable {p:Prg} {s z1 z2 z12 z21:By} {t u:Nat} {l m:List Ins} {x y:Ins}
def farI (x y:Ins):Prop:=x.loc ≠ y.loc∨JB x=true∨JB y=true∨(x.op=1∧y.op=1)
theorem farI.symm (h:farI x y):farI y x:=by
 rcases h with h | h | h | h
 · exact .inl (Ne.symm h)
 · exact .inr (.inr (.inl h))
 · exact .inr (.inl h)
 · exact .inr (.inr (.inr ⟨h.2,h.1⟩))
theorem XiD (h:x.loc ≠ y.loc):y.loc.toNat ≠ x.loc.toNat:=fun e=>h (UInt8.toNat_inj.1 e.symm)
theorem BK {x:Ins} (h:x.op=1) (a:By) (had:UInt8):Cd x a had=had:=by
 unfold Cd
 rw [h]
 rfl
theorem StepOf.had (h1:StepOf p s z1 t l x) (hf:farI x y) (hy:JB y=false):z1 (36+y.loc.toNat)=s (36+y.loc.toNat):=by
 rcases hf with h | h | h | h
 · exact h1.mem (.inr (XiD h))
 · exact h1.mem (.inl h)
 · rw [h] at hy;cases hy
 · have h4:=h1.t4
   rw [h1.at',if_neg (by omega)]
   split
   · rename_i q
     rw [BK h.1]
     have:36+x.loc.toNat=36+y.loc.toNat:=q.2.symm
     rw [this]
   · rfl
theorem StepOf.near (h1:StepOf p s z1 t l x) (h12:StepOf p z1 z12 u m y) (h2:StepOf p s z2 u m y) (hne:t ≠ u) (hf:farI x y):∀ i,u * 9≤i∧i < u * 9+9→z12 i=z2 i:=fun i hi=>by
 have hc:∀ k,k < 9→cut z1 (u * 9) k=cut s (u * 9) k:=fun k hk=>h1.far (Ne.symm hne) hk h2.t4
 rw [h12.at',if_pos hi,h2.at',if_pos hi];rw [Dc hc _ (by omega)]
 cases hL:JB y with
 | true=>rw [Xel hL]
 | false=>rw [h1.had hf hL]
theorem commute (h1:StepOf p s z1 t l x) (h2:StepOf p s z2 u m y) (h12:StepOf p z1 z12 u m y) (h21:StepOf p z2 z21 t l x) (hne:t ≠ u) (hf:farI x y):same 142 z12 z21=true:=by
 rw [same_iff]
 intro i _
 have ht:=h1.t4
 have hu:=h2.t4
 by_cases hiu:u * 9≤i∧i < u * 9+9
 · rw [h1.near h12 h2 hne hf i hiu]
   have:i=u * 9+(i - u * 9):=by omega
   rw [this]
   exact (h21.far (Ne.symm hne) (by omega) hu).symm
 · by_cases hit:t * 9≤i∧i < t * 9+9
   · rw [h2.near h21 h1 (Ne.symm hne) hf.symm i hit]
     have:i=t * 9+(i - t * 9):=by omega
     rw [this]
     exact h12.far hne (by omega) ht
   · have hcy:∀ k,k < 9→cut z1 (u * 9) k=cut s (u * 9) k:=fun k hk=>h1.far (Ne.symm hne) hk hu
     have hcx:∀ k,k < 9→cut z2 (t * 9) k=cut s (t * 9) k:=fun k hk=>h2.far hne hk ht
     rw [h12.at',if_neg hiu,h21.at',if_neg hit,h1.at' i,if_neg hit,h2.at' i,if_neg hiu];rw [LP hcy,LP hcx]
     by_cases qx:JB x=false∧i=36+x.loc.toNat
     · rw [if_pos qx]
       by_cases qy:JB y=false∧i=36+y.loc.toNat
       · rw [if_pos qy,if_pos qx,h1.had hf qy.1,h2.had hf.symm qx.1]
         rcases hf with h | h | h | h
         · exact absurd (by omega) (XiD h)
         · rw [h] at qx;cases qx.1
         · rw [h] at qy;cases qy.1
         · rw [BK h.1,BK h.2,show 36+y.loc.toNat=36+x.loc.toNat by omega]
       · rw [if_neg qy,if_pos qx,h2.had hf.symm qx.1]
     · rw [if_neg qx,if_neg qx]
       by_cases qy:JB y=false∧i=36+y.loc.toNat
       · rw [if_pos qy,if_pos qy,h1.had hf qy.1]
       · rw [if_neg qy,if_neg qy]
theorem StepOf.still (h1:StepOf p s z1 t l x) (hp:JH p=0) (hne:t ≠ u) {k:Nat} (hu:u ∈ QT p s) (h2:StepOf p s z2 u m y):u ∈ QT p z1∧StepOf p z1 (DT p z1 u) u m y:=by
 have hpc:pcP z1 u=pcP s u:=h1.pc (Ne.symm hne) h2.t4
 have hx:m[pcP z1 u]? = some y:=by rw [hpc];exact h2.hx
 have hen:u ∈ QT p z1:=by
   unfold QT at hu ⊢
   rw [List.mem_filter] at hu ⊢
   refine ⟨hu.1,?_⟩
   rw [BJ h2.hl]
   exact decide_eq_true (List.getElem?_eq_some_iff.1 hx).1
 obtain ⟨l',y',hst⟩:=XdL hp hen
 have e1:l'=m:=by have:=hst.hl;rw [h2.hl] at this;exact (Option.some.inj this).symm
 subst e1
 have e2:y'=y:=by have:=hst.hx;rw [hx] at this;exact (Option.some.inj this).symm
 subst e2
 exact ⟨hen,hst⟩
end
def Runs (p:Prg):By→List Nat→List UInt8→By→Prop
 | s,[],[],z=>z=s
 | s,t :: r,i :: ix,z=>(QT p s)[i.toNat]? = some t∧Runs p (DT p s t) r ix z
 | _,_,_,_=>False
theorem Runs.len {p:Prg} {z:By}:∀ {r:List Nat} {ix:List UInt8} {s:By},Runs p s r ix z→ix.length=r.length
 | [],[],_,_=>rfl
 | _ :: r,_ :: ix,s,h=>by simp [Runs.len (r:=r) (ix:=ix) h.2]
 | [],_ :: _,_,h=>h.elim
 | _ :: _,[],_,h=>h.elim
theorem Runs.append {p:Prg} {z:By} {t:Nat} {i:UInt8} (ht:(QT p z)[i.toNat]? = some t):∀ {r:List Nat} {ix:List UInt8} {s:By},Runs p s r ix z→Runs p s (r++[t]) (ix++[i]) (DT p z t)
 | [],[],s,h=>by
   have h:z=s:=h
   subst h
   exact ⟨ht,rfl⟩
 | _ :: r,_ :: ix,s,h=>⟨h.1,Runs.append ht (r:=r) (ix:=ix) h.2⟩
 | [],_ :: _,_,h=>h.elim
 | _ :: _,[],_,h=>h.elim
theorem Runs.mu {p:Prg} (hp:JH p=0) {z:By}:∀ {r:List Nat} {ix:List UInt8} {s:By},Runs p s r ix z→r.length+mu p z≤mu p s
 | [],[],s,h=>by
   have h:z=s:=h
   subst h;simp
 | t :: r,i :: ix,s,h=>by
   have h1:=Runs.mu hp (r:=r) (ix:=ix) h.2
   have h2:=Xkj hp (List.mem_of_getElem? h.1)
   simp only [List.length_cons];omega
 | [],_ :: _,_,h=>h.elim
 | _ :: _,[],_,h=>h.elim
theorem Runs.right {p:Prg} {z:By}:∀ {r:List Nat} {ix:List UInt8} {s:By},Qi p s=true→Runs p s r ix z→Qi p z=true
 | [],[],s,hs,h=>by
   have h:z=s:=h
   subst h;exact hs
 | t :: r,i :: ix,s,hs,h=>by
   obtain ⟨l,x,hst⟩:=XdL (MZ hs) (List.mem_of_getElem? h.1)
   exact Runs.right (r:=r) (ix:=ix) (hst.right hs) h.2
 | [],_ :: _,_,_,h=>h.elim
 | _ :: _,[],_,_,h=>h.elim
end Go.Proofs.YtcpehikcegoojaaGreatDoor
