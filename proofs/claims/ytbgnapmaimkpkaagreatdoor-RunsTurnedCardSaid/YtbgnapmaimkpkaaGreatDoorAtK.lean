/-
  Plain Lean: threads and states by place (a thread: its Pc at 0, its registers from 1 on; a state: thread t from 9 t on, memory from 36 on, buffers from 42 on, their lengths from 138 on), and what a move computes. Conditions: none.
 
  WALK2. Package atomic: Worth, moved, skips, Local. Conditions: none.
 
  WALK2. Package atomic: Local. Conditions: none.
 
  WALK2. Package atomic: effects, step. Conditions: the program lies in memory.
 
  WALK2. Package atomic: step. Conditions: the program lies in memory; the thread has an instruction at its Pc, which is a valid one.
 
  Plain Lean: valid states, enabled threads, runs. Conditions: none.
 
  WALK2. Package atomic: Right, Start, enabled, Moves, Over. Conditions: the program lies in memory.
 
  WALK2. Package atomic: Start, enabled. Conditions: the program lies in memory.
 
  WALK2. Package atomic: Moves, Over, Move, Final. Conditions: the program lies in memory.
 
  Plain Lean: a move from a valid state. Conditions: none.
 
  WALK2. Package atomic: Move. Conditions: the program lies in memory.
 
  WALK2. Package atomic: Play. Conditions: the program and the picks lie in memory.
 
  Plain Lean: two moves commute. Conditions: none.
 
  Plain Lean: runs by the indices of their moves. Conditions: none.
-/
import Derived.Test.YtbgnapmaimkpkaaGreatDoorCkK
import Derived.Test.YtbgnapmaimkpkaaGreatDoorVcL
import Derived.Test.YtbgnapmaimkpkaaGreatDoorCkL
set_option linter.unusedSimpArgs false
set_option linter.unusedVariables false
namespace Go.Proofs.YtbgnapmaimkpkaaGreatDoor
open Go.Proofs.Tryz
def worthP (r:Bool) (n:UInt8) (regs:By):UInt8:=if r then (if n.toNat < 8 then regs n.toNat else 0) else n
def movedP (fn a b:UInt8):UInt8:=if fn=1 then a+b else if fn=2 then a - b else if fn=3 then a ^^^ b else 0
def skipsP (fn a b:UInt8):Bool:=if fn=4 then a == b else if fn=5 then a != b else if fn=6 then decide (a < b) else false
def valA (x:Ins) (t:By):UInt8:=worthP x.aR x.aN (cut t 1)
def valB (x:Ins) (t:By):UInt8:=worthP x.bR x.bN (cut t 1)
def withP (t:By) (dst v:UInt8):By:=if dst.toNat < 8 then put t (1+dst.toNat) v else t
def localP (x:Ins) (t:By):By:=
 if x.op=3 then put (withP t x.dst (movedP x.fn (valA x t) (valB x t))) 0 (t 0+1)
 else if x.op=8 then put t 0 (if skipsP x.fn (valA x t) (valB x t) then t 0+x.skip+1 else t 0+1)
 else if x.op=7 then put t 0 (t 0+1)
 else t
def isLocal (x:Ins):Bool:=x.op == 3 || x.op == 8 || x.op == 7
def hasP (x:Ins) (t:By) (had:UInt8):UInt8:=
 if x.op=2∨x.op=4 then valA x t else if x.op=5 then had+valA x t else if x.op=6 then (if had=valA x t then valB x t else had) else had
def farP (x:Ins) (t:By) (had:UInt8):By:=put (if x.op=2 then t else withP t x.dst had) 0 (t 0+1)
def moveP (x:Ins) (s:By) (t:Nat):By:=
 if isLocal x then lay s (t * 9) 9 (localP x (cut s (t * 9)))
 else lay (put s (36+x.loc.toNat) (hasP x (cut s (t * 9)) (s (36+x.loc.toNat)))) (t * 9) 9 (farP x (cut s (t * 9)) (s (36+x.loc.toNat)))
end Go.Proofs.YtbgnapmaimkpkaaGreatDoor
namespace Go.Proofs.YtbgnapmaimkpkaaGreatDoor
open Go.Proofs.Tryz
open Go.RowKit
set_option maxRecDepth 100000
theorem ret8 {a b:UInt8} (h:a=b):(Ending.returned (b8 a):Ending) = .returned (b8 b):=by rw [h]
theorem worth_any (r:Bool) (n:UInt8) (s:By) (w0:World):Calls Tryz.prog 110 #[.agg #[.bool r,b8 n],.agg (bs 8 s).toArray] w0 fun e w'=>e = .returned (b8 (worthP r n s))∧Below w0.heap.size w0 w':=by
 have H:=Own.start w0 none
 refine enterF func110 rfl ntmps110 rfl (fun a F=>?_);refine cSR fun K1 hK1=>?_;refine sBx H F rfl rfl rfl ?_;clear F a H;intro b2 a w F H;refine sBxB H F rfl rfl rfl ?_;clear F a H;intro b3 a w F H;refine sAs F rfl rfl rfl (qNK hK1 ?_);clear hK1;clear F a;intro a F;refine cSeq (fun K2 hK2=>?_);refine cSR fun K3 hK3=>sFa (f:=0) (k:=0) underlying35 rfl sizeOf4 rfl rfl F rfl rfl rfl (qLd isAgg4 rfl rfl rfl (H.cell 1 rfl rfl) (qNot rfl rfl rfl (qNK hK3 ?_)));clear hK3;clear F a;intro a F
 refine cIf F rfl (fun h7=>?_) (fun h7=>?_)
 ·
  replace h7:=notT h7;refine cSR fun K4 hK4=>sFa (f:=1) (k:=1) underlying35 rfl sizeOf5 rfl rfl F rfl rfl rfl (qLd isAgg5 rfl rfl rfl (H.cell 1 rfl rfl) (qAs rfl rfl rfl (qNK hK4 ?_)));clear hK4;clear F a;intro a F;refine wp_ret ?_;simp only [Exit.then];refine bRet results110 F rfl ?_
  exact ⟨by first | exact ret8 (by simp_all [worthP,cut];try omega) | exact ret8 (a:=0) (by simp_all [worthP,cut];try omega),H.below⟩
 replace h7:=notF h7;refine wp_skip (hK2 _ _ ?_);clear hK2;refine cSeq (fun K5 hK5=>?_);refine cSR fun K6 hK6=>sFa (f:=1) (k:=1) underlying35 rfl sizeOf5 rfl rfl F rfl rfl rfl (qLd isAgg5 rfl rfl rfl (H.cell 1 rfl rfl) (qCv underlying5 underlying3 rfl rfl rfl (wrapB _) (qBin rfl rfl rfl rfl bGeq (qNK hK6 ?_))));clear hK6;clear F a;intro a F
 refine cIf F rfl (fun h13=>?_) (fun h13=>?_)
 ·
  replace h13:=of_decide_eq_true h13;refine cSR fun K7 hK7=>sAs F rfl rfl rfl (qNK hK7 ?_);clear hK7;clear F a;intro a F;refine wp_ret ?_;simp only [Exit.then];refine bRet results110 F rfl ?_
  exact ⟨by first | exact ret8 (by simp_all [worthP,cut];try omega) | exact ret8 (a:=0) (by simp_all [worthP,cut];try omega),H.below⟩
 replace h13:=of_decide_eq_false h13;refine wp_skip (hK5 _ _ (cSR fun K8 hK8=>sFa (f:=1) (k:=1) underlying35 rfl sizeOf5 rfl rfl F rfl rfl rfl (qLd isAgg5 rfl rfl rfl (H.cell 1 rfl rfl) ?_)));clear hK5;clear F a;intro a F
 refine sIaZ1 underlying43 sizeOf5 F rfl rfl rfl rfl ?_ ?_
 focus (first | omega | decide | (simp;omega))
 clear F a;intro a F;refine sLd isAgg5 F rfl rfl rfl (H.cellB 0 rfl (by omega)) (qAs rfl rfl rfl (qNK hK8 ?_));clear hK8;clear F a;intro a F;refine wp_ret ?_;refine bRet results110 F rfl ?_
 exact ⟨by first | exact ret8 (by simp_all [worthP,cut];try omega) | exact ret8 (a:=0) (by simp_all [worthP,cut];try omega),H.below⟩
theorem moved_any (fn a b:UInt8) (w0:World):Calls Tryz.prog 142 #[b8 fn,b8 a,b8 b] w0 fun e w'=>e = .returned (b8 (movedP fn a b))∧Below w0.heap.size w0 w':=by
 have H:=Own.start w0 none
 refine enterF func142 rfl ntmps142 rfl (fun a F=>?_);refine cSR fun K1 hK1=>sAs F rfl rfl rfl (qNK hK1 ?_);clear hK1;clear F a;intro a F;refine cSeq (fun K2 hK2=>?_);refine cSR fun K3 hK3=>sMv F rfl rfl rfl (qNK hK3 ?_);clear hK3;clear F a;intro a F;refine wp_block ?_;refine cSR fun K4 hK4=>sBin F rfl rfl rfl rfl (bEqlB (y:=1)) (qAs rfl rfl rfl (qNK hK4 ?_));clear hK4;clear F a;intro a F
 refine cIf F rfl (fun h8=>?_) (fun h8=>?_)
 ·
  replace h8:=beqT h8;refine cSR fun K5 hK5=>sMv F rfl rfl rfl (qMv rfl rfl rfl (qBin rfl rfl rfl rfl (bAddB) (qAs rfl rfl rfl (qNK hK5 ?_))));clear hK5;clear F a;intro a F;refine wp_ret ?_;simp only [Exit.inBlock,Exit.then];refine bRet results142 F rfl ?_
  exact ⟨by first | exact ret8 (by simp_all [movedP]) | exact ret8 (a:=0) (by simp_all [movedP]),H.below⟩
 replace h8:=beqF h8;refine cSR fun K6 hK6=>sBin F rfl rfl rfl rfl (bEqlB (y:=2)) (qAs rfl rfl rfl (qNK hK6 ?_));clear hK6;clear F a;intro a F
 refine cIf F rfl (fun h13=>?_) (fun h13=>?_)
 ·
  replace h13:=beqT h13;refine cSR fun K7 hK7=>sMv F rfl rfl rfl (qMv rfl rfl rfl (qBin rfl rfl rfl rfl (bSubB) (qAs rfl rfl rfl (qNK hK7 ?_))));clear hK7;clear F a;intro a F;refine wp_ret ?_;simp only [Exit.inBlock,Exit.then];refine bRet results142 F rfl ?_
  exact ⟨by first | exact ret8 (by simp_all [movedP]) | exact ret8 (a:=0) (by simp_all [movedP]),H.below⟩
 replace h13:=beqF h13;refine cSR fun K8 hK8=>sBin F rfl rfl rfl rfl (bEqlB (y:=3)) (qAs rfl rfl rfl (qNK hK8 ?_));clear hK8;clear F a;intro a F
 refine cIf F rfl (fun h18=>?_) (fun h18=>?_)
 ·
  replace h18:=beqT h18;refine cSR fun K9 hK9=>sMv F rfl rfl rfl (qMv rfl rfl rfl (qBin rfl rfl rfl rfl (bXorB) (qAs rfl rfl rfl (qNK hK9 ?_))));clear hK9;clear F a;intro a F;refine wp_ret ?_;simp only [Exit.inBlock,Exit.then];refine bRet results142 F rfl ?_
  exact ⟨by first | exact ret8 (by simp_all [movedP]) | exact ret8 (a:=0) (by simp_all [movedP]),H.below⟩
 replace h18:=beqF h18;refine wp_skip (hK2 _ _ (cSR fun K10 hK10=>sAs F rfl rfl rfl (qNK hK10 ?_)));clear hK2 hK10;clear F a;intro a F;refine wp_ret ?_;refine bRet results142 F rfl ?_
 exact ⟨by first | exact ret8 (by simp_all [movedP]) | exact ret8 (a:=0) (by simp_all [movedP]),H.below⟩
theorem skips_any (fn a b:UInt8) (w0:World):Calls Tryz.prog 143 #[b8 fn,b8 a,b8 b] w0 fun e w'=>e = .returned (.bool (skipsP fn a b))∧Below w0.heap.size w0 w':=by
 have H:=Own.start w0 none
 refine enterF func143 rfl ntmps143 rfl (fun a F=>?_);refine cSR fun K1 hK1=>sAs F rfl rfl rfl (qNK hK1 ?_);clear hK1;clear F a;intro a F;refine cSeq (fun K2 hK2=>?_);refine cSR fun K3 hK3=>sMv F rfl rfl rfl (qNK hK3 ?_);clear hK3;clear F a;intro a F;refine wp_block ?_;refine cSR fun K4 hK4=>sBin F rfl rfl rfl rfl (bEqlB (y:=4)) (qAs rfl rfl rfl (qNK hK4 ?_));clear hK4;clear F a;intro a F
 refine cIf F rfl (fun h8=>?_) (fun h8=>?_)
 ·
  replace h8:=beqT h8;refine cSR fun K5 hK5=>sMv F rfl rfl rfl (qMv rfl rfl rfl (qBin rfl rfl rfl rfl bEqlB (qAs rfl rfl rfl (qNK hK5 ?_))));clear hK5;clear F a;intro a F;refine wp_ret ?_;simp only [Exit.inBlock,Exit.then];refine bRet results143 F rfl ?_
  exact ⟨retB (by simp_all [skipsP]),H.below⟩
 replace h8:=beqF h8;refine cSR fun K6 hK6=>sBin F rfl rfl rfl rfl (bEqlB (y:=5)) (qAs rfl rfl rfl (qNK hK6 ?_));clear hK6;clear F a;intro a F
 refine cIf F rfl (fun h13=>?_) (fun h13=>?_)
 ·
  replace h13:=beqT h13;refine cSR fun K7 hK7=>sMv F rfl rfl rfl (qMv rfl rfl rfl (qBin rfl rfl rfl rfl bNeqB (qAs rfl rfl rfl (qNK hK7 ?_))));clear hK7;clear F a;intro a F;refine wp_ret ?_;simp only [Exit.inBlock,Exit.then];refine bRet results143 F rfl ?_
  exact ⟨retB (by simp_all [skipsP]),H.below⟩
 replace h13:=beqF h13;refine cSR fun K8 hK8=>sBin F rfl rfl rfl rfl (bEqlB (y:=6)) (qAs rfl rfl rfl (qNK hK8 ?_));clear hK8;clear F a;intro a F
 refine cIf F rfl (fun h18=>?_) (fun h18=>?_)
 ·
  replace h18:=beqT h18;refine cSR fun K9 hK9=>sMv F rfl rfl rfl (qMv rfl rfl rfl (qBin rfl rfl rfl rfl bLssB (qAs rfl rfl rfl (qNK hK9 ?_))));clear hK9;clear F a;intro a F;refine wp_ret ?_;simp only [Exit.inBlock,Exit.then];refine bRet results143 F rfl ?_
  exact ⟨retB (by simp_all [skipsP]),H.below⟩
 replace h18:=beqF h18;refine wp_skip (hK2 _ _ (cSR fun K10 hK10=>sAs F rfl rfl rfl (qNK hK10 ?_)));clear hK2 hK10;clear F a;intro a F;refine wp_ret ?_;refine bRet results143 F rfl ?_
 exact ⟨retB (by simp_all [skipsP]),H.below⟩
end Go.Proofs.YtbgnapmaimkpkaaGreatDoor
namespace Go.Proofs.YtbgnapmaimkpkaaGreatDoor
open Go.Proofs.Tryz
open Go.RowKit
set_option maxRecDepth 100000
theorem retBs {n:Nat} {s t:By} {v:Value} (h:∀ i,i < n→s i=t i):(Ending.returned (.tuple #[.agg (bs n s).toArray,v]):Ending) = .returned (.tuple #[.agg (bs n t).toArray,v]):=by rw [bs_ext h]
theorem local_any (x:Ins) (t:By) (w0:World) :
   Calls Tryz.prog 113 #[.agg x.cells.toArray,.agg (bs 9 t).toArray] w0 fun e w'=>e = .returned (.tuple #[.agg (bs 9 (localP x t)).toArray,.bool (isLocal x)])∧Below w0.heap.size w0 w':=by
 have H:=Own.start w0 none
 refine enterF func113 rfl ntmps113 rfl (fun a F=>?_);refine cSR fun K1 hK1=>?_;refine sBx H F rfl rfl rfl ?_;clear F a H;intro b2 a w F H;refine sBxB H F rfl rfl rfl ?_;clear F a H;intro b3 a w F H;refine sAlB H zB62 F rfl rfl ?_;clear F a H;intro b4 a w F H;refine sAs F rfl rfl rfl (qNK hK1 ?_);clear hK1;clear F a;intro a F;refine cSeq (fun K2 hK2=>?_);refine cRegRO (by kernel_rfl) H ?_;replace H:=H.drew;refine eTF 0 rfl (by kernel_rfl) F rfl rfl rfl (fun w=>rFa (f:=3) (k:=3) underlying37 rfl sizeOf35 rfl rfl F rfl) H qq0 ?_;clear F a;intro a F
 refine eTake (k:=1) (i:=1) rfl (by kernel_rfl) F rfl rfl rfl rfl (fun w H=>rLr underlying35 rfl ?si F rfl (H.range 2 rfl _ 2)) H (fun _ _ _ h=>h) ?_
 case si=>exact info_size sizeOf35
 clear F a;intro a F;refine eTF 2 rfl (by kernel_rfl) F rfl rfl rfl (fun w=>rFa (f:=1) (k:=1) underlying62 rfl sizeOf43 rfl rfl F rfl) H qq0 (qT 3 rfl (by kernel_rfl) rfl rfl rfl rfl (fun a F w H=>rLrB underlying43 rfl sizeOf43 F rfl (H.rangeB 1 _ 8 rfl (by omega))) H qq0 (qTF 5 rfl (by kernel_rfl) rfl rfl rfl (fun a F w=>rFa (f:=4) (k:=5) underlying37 rfl sizeOf35 rfl rfl F rfl) H qq0 ?_));clear F a;intro a F
 refine eTake (k:=5) (i:=6) rfl (by kernel_rfl) F rfl rfl rfl rfl (fun w H=>rLr underlying35 rfl ?si F rfl (H.range 2 rfl _ 2)) H (fun _ _ _ h=>h) ?_
 case si=>exact info_size sizeOf35
 clear F a;intro a F;refine eTF 7 rfl (by kernel_rfl) F rfl rfl rfl (fun w=>rFa (f:=1) (k:=1) underlying62 rfl sizeOf43 rfl rfl F rfl) H qq0 (qT 8 rfl (by kernel_rfl) rfl rfl rfl rfl (fun a F w H=>rLrB underlying43 rfl sizeOf43 F rfl (H.rangeB 1 _ 8 rfl (by omega))) H qq0 ?_);clear F a;intro a F;refine eOne (k:=8) (i:=4) rfl (by kernel_rfl) F rfl (oCall call110 F rfl rfl (worth_any x.aR x.aN (cut t 1) _) ?_);rintro e w ⟨rfl,hb⟩;replace H:=H.grow hb;clear hb;refine ⟨_,rfl,?_⟩;clear F a;intro a F;refine eKeep H ?_;refine eOne (k:=9) (i:=9) rfl (by kernel_rfl) F rfl (oCall call110 F rfl rfl (worth_any x.bR x.bN (cut t 1) _) ?_);rintro e w ⟨rfl,hb⟩;replace H:=H.grow hb;clear hb;refine ⟨_,rfl,?_⟩;clear F a;intro a F;refine ePartO (by kernel_rfl) H ?_;refine eTF 10 rfl (by kernel_rfl) F rfl rfl rfl (fun w=>rAs F rfl) H qq0 (qTF 11 rfl (by kernel_rfl) rfl rfl rfl (fun a F w=>rAs F rfl) H qq0 ?_);clear F a;intro a F;refine eNil (k:=12) (by kernel_rfl) ?_;refine hK2 _ _ ?_;clear hK2;refine cSeq (fun K3 hK3=>?_);refine cSR fun K4 hK4=>sFa (f:=0) (k:=0) underlying37 rfl sizeOf5 rfl rfl F rfl rfl rfl (qLd isAgg5 rfl rfl rfl (H.cell 2 rfl rfl) (qNK hK4 ?_));clear hK4;clear F a;intro a F;refine wp_block ?_;refine cSR fun K5 hK5=>sBin F rfl rfl rfl rfl (bEqlB (y:=3)) (qAs rfl rfl rfl (qNK hK5 ?_));clear hK5;clear F a;intro a F
 refine cIf F rfl (fun h21=>?_) (fun h21=>?_)
 ·
  replace h21:=beqT h21;refine cSR fun K6 hK6=>sFa (f:=1) (k:=1) underlying37 rfl sizeOf5 rfl rfl F rfl rfl rfl (qLd isAgg5 rfl rfl rfl (H.cell 2 rfl rfl) (qCv underlying5 underlying3 rfl rfl rfl (wrapB _) (qBin rfl rfl rfl rfl bLss (qNK hK6 ?_))));clear hK6;clear F a;intro a F
  refine cIf F rfl (fun h26=>?_) (fun h26=>?_)
  ·
   replace h26:=of_decide_eq_true h26
   replace h26:x.dst.toNat < 8:=by omega
   refine cRegRO (by kernel_rfl) H ?_;replace H:=H.drew;refine eTF 0 rfl (by kernel_rfl) F rfl rfl rfl (fun w=>rFa (f:=1) (k:=1) underlying37 rfl sizeOf5 rfl rfl F rfl) H qq0 (qT 1 rfl (by kernel_rfl) rfl rfl rfl rfl (fun a F w H=>rLd isAgg5 F rfl (H.cell 2 rfl rfl)) H qq0 (qTF 2 rfl (by kernel_rfl) rfl rfl rfl (fun a F w=>rFa (f:=5) (k:=7) underlying37 rfl sizeOf5 rfl rfl F rfl) H qq0 (qT 3 rfl (by kernel_rfl) rfl rfl rfl rfl (fun a F w H=>rLd isAgg5 F rfl (H.cell 2 rfl rfl)) H qq0 (qTF 4 rfl (by kernel_rfl) rfl rfl rfl (fun a F w=>rMv F rfl) H qq0 (qTF 5 rfl (by kernel_rfl) rfl rfl rfl (fun a F w=>rMv F rfl) H qq0 (qTF 7 rfl (by kernel_rfl) rfl rfl rfl (fun a F w=>rFa (f:=1) (k:=1) underlying62 rfl sizeOf43 rfl rfl F rfl) H qq0 ?_))))));clear F a;intro a F;refine eOne (k:=7) (i:=6) rfl (by kernel_rfl) F rfl (oCall call142 F rfl rfl (moved_any x.fn _ _ _) ?_);rintro e w ⟨rfl,hb⟩;replace H:=H.grow hb;clear hb;refine ⟨_,rfl,?_⟩;clear F a;intro a F;refine eKeep H ?_
   refine eTakeF (k:=8) (i:=8) rfl (by kernel_rfl) F rfl rfl rfl (fun w=>rIa1 underlying43 sizeOf5 F rfl rfl ?_) H (fun _ _ _ h=>h) ?_
   focus (first | omega | decide | (simp;omega))
   clear F a;intro a F;refine eOne (k:=9) (i:=9) rfl (by kernel_rfl) F rfl (oStB H 1 sizeOf5 F rfl rfl rfl (by omega) ?_);clear H;intro w H;refine ePartO (by kernel_rfl) H ?_;refine eNil (k:=10) (by kernel_rfl) ?_;refine hK3 _ _ (cSR fun K7 hK7=>sFa (f:=0) (k:=0) underlying62 rfl sizeOf5 rfl rfl F rfl rfl rfl (qLd isAgg5 rfl rfl rfl (H.cellB 1 rfl (by omega)) (qBin rfl rfl rfl rfl (bAddB (y:=1)) (qFa (f:=0) (k:=0) underlying62 rfl sizeOf5 rfl rfl rfl rfl rfl ?_))));clear hK3;clear F a;intro a F;refine sStB H 1 sizeOf5 F rfl rfl rfl rfl (by omega) ?_;clear H;intro w H;refine nK hK7 (cSR fun K8 hK8=>sLrB underlying62 rfl sizeOf62 F rfl rfl rfl (H.whole 1 rfl) ?_);clear hK7;clear F a;intro a F;refine sSrB H 0 sizeOf62 F rfl rfl rfl rfl (by omega) ?_;clear H;intro w H;rw [lay_all] at H;refine sAs F rfl rfl rfl (qNK hK8 ?_);clear hK8;clear F a;intro a F;refine wp_ret ?_;refine bRetB1 results113 F rfl rfl underlying62 rfl sizeOf62 H 0 rfl ?_
   refine ⟨?_,H.below⟩
   clear F H
   first
     | (have e1:isLocal x=true:=by simp [isLocal, *]
        rw [e1];refine retBs fun i _=>?_;by_cases hi:i=0 <;> simp [localP,withP,valA,valB,put,hi, *] <;> omega)
     | (have e1:isLocal x=false:=by simp [isLocal, *]
        rw [e1];refine retBs fun i _=>?_;by_cases hi:i=0 <;> simp [localP,withP,valA,valB,put,hi, *] <;> omega)
  replace h26:=of_decide_eq_false h26
  replace h26:¬ x.dst.toNat < 8:=by omega
  refine wp_skip (hK3 _ _ (cSR fun K9 hK9=>sFa (f:=0) (k:=0) underlying62 rfl sizeOf5 rfl rfl F rfl rfl rfl (qLd isAgg5 rfl rfl rfl (H.cellB 1 rfl (by omega)) (qBin rfl rfl rfl rfl (bAddB (y:=1)) (qFa (f:=0) (k:=0) underlying62 rfl sizeOf5 rfl rfl rfl rfl rfl ?_)))));clear hK3;clear F a;intro a F;refine sStB H 1 sizeOf5 F rfl rfl rfl rfl (by omega) ?_;clear H;intro w H;refine nK hK9 (cSR fun K10 hK10=>sLrB underlying62 rfl sizeOf62 F rfl rfl rfl (H.whole 1 rfl) ?_);clear hK9;clear F a;intro a F;refine sSrB H 0 sizeOf62 F rfl rfl rfl rfl (by omega) ?_;clear H;intro w H;rw [lay_all] at H;refine sAs F rfl rfl rfl (qNK hK10 ?_);clear hK10;clear F a;intro a F;refine wp_ret ?_;refine bRetB1 results113 F rfl rfl underlying62 rfl sizeOf62 H 0 rfl ?_
  refine ⟨?_,H.below⟩
  clear F H
  first
    | (have e1:isLocal x=true:=by simp [isLocal, *]
       rw [e1];refine retBs fun i _=>?_;by_cases hi:i=0 <;> simp [localP,withP,valA,valB,put,hi, *] <;> omega)
    | (have e1:isLocal x=false:=by simp [isLocal, *]
       rw [e1];refine retBs fun i _=>?_;by_cases hi:i=0 <;> simp [localP,withP,valA,valB,put,hi, *] <;> omega)
 replace h21:=beqF h21;refine cSR fun K11 hK11=>sBin F rfl rfl rfl rfl (bEqlB (y:=8)) (qAs rfl rfl rfl (qNK hK11 ?_));clear hK11;clear F a;intro a F
 refine cIf F rfl (fun h36=>?_) (fun h36=>?_)
 ·
  replace h36:=beqT h36;refine cSR fun K12 hK12=>sFa (f:=5) (k:=7) underlying37 rfl sizeOf5 rfl rfl F rfl rfl rfl (qLd isAgg5 rfl rfl rfl (H.cell 2 rfl rfl) (qMv rfl rfl rfl (qMv rfl rfl rfl ?_)));clear F a;intro a F;refine sCall call143 F rfl rfl rfl (skips_any x.fn _ _ _) ?_;rintro e w ⟨rfl,hb⟩;replace H:=H.grow hb;clear hb;refine ⟨_,rfl,?_⟩;clear F a;intro a F;refine nK hK12 ?_;clear hK12
  refine cIf F rfl (fun h42=>?_) (fun h42=>?_)
  ·
   refine cReg (sFa (f:=0) (k:=0) underlying62 rfl sizeOf5 rfl rfl F rfl rfl rfl (qLd isAgg5 rfl rfl rfl (H.cellB 1 rfl (by omega)) (qFa (f:=7) (k:=9) underlying37 rfl sizeOf5 rfl rfl rfl rfl rfl (qLd isAgg5 rfl rfl rfl (H.cell 2 rfl rfl) (qBin rfl rfl rfl rfl (bAddB) (qFa (f:=0) (k:=0) underlying62 rfl sizeOf5 rfl rfl rfl rfl rfl ?_))))));clear F a;intro a F;refine sStB H 1 sizeOf5 F rfl rfl rfl rfl (by omega) ?_;clear H;intro w H;refine nK hK3 (cSR fun K13 hK13=>sFa (f:=0) (k:=0) underlying62 rfl sizeOf5 rfl rfl F rfl rfl rfl (qLd isAgg5 rfl rfl rfl (H.cellB 1 rfl (by omega)) (qBin rfl rfl rfl rfl (bAddB (y:=1)) (qFa (f:=0) (k:=0) underlying62 rfl sizeOf5 rfl rfl rfl rfl rfl ?_))));clear hK3;clear F a;intro a F;refine sStB H 1 sizeOf5 F rfl rfl rfl rfl (by omega) ?_;clear H;intro w H;refine nK hK13 (cSR fun K14 hK14=>sLrB underlying62 rfl sizeOf62 F rfl rfl rfl (H.whole 1 rfl) ?_);clear hK13;clear F a;intro a F;refine sSrB H 0 sizeOf62 F rfl rfl rfl rfl (by omega) ?_;clear H;intro w H;rw [lay_all] at H;refine sAs F rfl rfl rfl (qNK hK14 ?_);clear hK14;clear F a;intro a F;refine wp_ret ?_;refine bRetB1 results113 F rfl rfl underlying62 rfl sizeOf62 H 0 rfl ?_
   refine ⟨?_,H.below⟩
   clear F H
   first
     | (have e1:isLocal x=true:=by simp [isLocal, *]
        rw [e1];refine retBs fun i _=>?_;by_cases hi:i=0 <;> simp [localP,withP,valA,valB,put,hi, *] <;> omega)
     | (have e1:isLocal x=false:=by simp [isLocal, *]
        rw [e1];refine retBs fun i _=>?_;by_cases hi:i=0 <;> simp [localP,withP,valA,valB,put,hi, *] <;> omega)
  refine wp_skip (hK3 _ _ (cSR fun K15 hK15=>sFa (f:=0) (k:=0) underlying62 rfl sizeOf5 rfl rfl F rfl rfl rfl (qLd isAgg5 rfl rfl rfl (H.cellB 1 rfl (by omega)) (qBin rfl rfl rfl rfl (bAddB (y:=1)) (qFa (f:=0) (k:=0) underlying62 rfl sizeOf5 rfl rfl rfl rfl rfl ?_)))));clear hK3;clear F a;intro a F;refine sStB H 1 sizeOf5 F rfl rfl rfl rfl (by omega) ?_;clear H;intro w H;refine nK hK15 (cSR fun K16 hK16=>sLrB underlying62 rfl sizeOf62 F rfl rfl rfl (H.whole 1 rfl) ?_);clear hK15;clear F a;intro a F;refine sSrB H 0 sizeOf62 F rfl rfl rfl rfl (by omega) ?_;clear H;intro w H;rw [lay_all] at H;refine sAs F rfl rfl rfl (qNK hK16 ?_);clear hK16;clear F a;intro a F;refine wp_ret ?_;refine bRetB1 results113 F rfl rfl underlying62 rfl sizeOf62 H 0 rfl ?_
  refine ⟨?_,H.below⟩
  clear F H
  first
    | (have e1:isLocal x=true:=by simp [isLocal, *]
       rw [e1];refine retBs fun i _=>?_;by_cases hi:i=0 <;> simp [localP,withP,valA,valB,put,hi, *] <;> omega)
    | (have e1:isLocal x=false:=by simp [isLocal, *]
       rw [e1];refine retBs fun i _=>?_;by_cases hi:i=0 <;> simp [localP,withP,valA,valB,put,hi, *] <;> omega)
 replace h36:=beqF h36;refine cSR fun K17 hK17=>sBin F rfl rfl rfl rfl (bEqlB (y:=7)) (qAs rfl rfl rfl (qNK hK17 ?_));clear hK17;clear F a;intro a F
 refine cIf F rfl (fun h49=>?_) (fun h49=>?_)
 ·
  replace h49:=beqT h49;refine wp_skip (hK3 _ _ (cSR fun K18 hK18=>sFa (f:=0) (k:=0) underlying62 rfl sizeOf5 rfl rfl F rfl rfl rfl (qLd isAgg5 rfl rfl rfl (H.cellB 1 rfl (by omega)) (qBin rfl rfl rfl rfl (bAddB (y:=1)) (qFa (f:=0) (k:=0) underlying62 rfl sizeOf5 rfl rfl rfl rfl rfl ?_)))));clear hK3;clear F a;intro a F;refine sStB H 1 sizeOf5 F rfl rfl rfl rfl (by omega) ?_;clear H;intro w H;refine nK hK18 (cSR fun K19 hK19=>sLrB underlying62 rfl sizeOf62 F rfl rfl rfl (H.whole 1 rfl) ?_);clear hK18;clear F a;intro a F;refine sSrB H 0 sizeOf62 F rfl rfl rfl rfl (by omega) ?_;clear H;intro w H;rw [lay_all] at H;refine sAs F rfl rfl rfl (qNK hK19 ?_);clear hK19;clear F a;intro a F;refine wp_ret ?_;refine bRetB1 results113 F rfl rfl underlying62 rfl sizeOf62 H 0 rfl ?_
  refine ⟨?_,H.below⟩
  clear F H
  first
    | (have e1:isLocal x=true:=by simp [isLocal, *]
       rw [e1];refine retBs fun i _=>?_;by_cases hi:i=0 <;> simp [localP,withP,valA,valB,put,hi, *] <;> omega)
    | (have e1:isLocal x=false:=by simp [isLocal, *]
       rw [e1];refine retBs fun i _=>?_;by_cases hi:i=0 <;> simp [localP,withP,valA,valB,put,hi, *] <;> omega)
 replace h49:=beqF h49;refine cSR fun K20 hK20=>sLrB underlying62 rfl sizeOf62 F rfl rfl rfl (H.whole 1 rfl) ?_;clear F a;intro a F;refine sSrB H 0 sizeOf62 F rfl rfl rfl rfl (by omega) ?_;clear H;intro w H;rw [lay_all] at H;refine sAs F rfl rfl rfl (qNK hK20 ?_);clear hK20;clear F a;intro a F;refine wp_ret ?_;simp only [Exit.inBlock,Exit.then];refine bRetB1 results113 F rfl rfl underlying62 rfl sizeOf62 H 0 rfl ?_
 refine ⟨?_,H.below⟩
 clear F H
 first
   | (have e1:isLocal x=true:=by simp [isLocal, *]
      rw [e1];refine retBs fun i _=>?_;by_cases hi:i=0 <;> simp [localP,withP,valA,valB,put,hi, *] <;> omega)
   | (have e1:isLocal x=false:=by simp [isLocal, *]
      rw [e1];refine retBs fun i _=>?_;by_cases hi:i=0 <;> simp [localP,withP,valA,valB,put,hi, *] <;> omega)
end Go.Proofs.YtbgnapmaimkpkaaGreatDoor
namespace Go.Proofs.YtbgnapmaimkpkaaGreatDoor
open Go.Proofs.Tryz
open Go.RowKit
set_option maxRecDepth 100000
def effP (op old a b:UInt8):UInt8:=if op=2∨op=4 then a else if op=5 then old+a else if op=6 then (if old=a then b else old) else old
def effs:List (UInt8 × Value):=[(1,.func (.func 144) #[] #[]),(2,.func (.func 145) #[] #[]),(4,.func (.func 146) #[] #[]),(5,.func (.func 147) #[] #[]),(6,.func (.func 148) #[] #[])]
def isFar (op:UInt8):Prop:=op=1∨op=2∨op=4∨op=5∨op=6
theorem effects_any (w0:World):Calls Tryz.prog 114 #[] w0 fun e w'=>∃ b,e = .returned (.map (some b))∧Own w0 none w' [.mpB b effs]:=by
 have H:=Own.start w0 none
 refine enterF func114 rfl ntmps114 rfl (fun a F=>?_);refine cSR fun K1 hK1=>sAs F rfl rfl rfl (qNK hK1 (qSR fun K2 hK2=>?_));clear hK1;clear F a;intro a F;refine sMkM H F rfl rfl ?_;clear F a H;intro b1 a w F H;refine sIns (k:=1) H 0 underlying174 underlying5 F rfl rfl rfl rfl rfl rfl ?_;clear H;intro w H;refine sIns (k:=2) H 0 underlying174 underlying5 F rfl rfl rfl rfl rfl rfl ?_;clear H;intro w H;refine sIns (k:=4) H 0 underlying174 underlying5 F rfl rfl rfl rfl rfl rfl ?_;clear H;intro w H;refine sIns (k:=5) H 0 underlying174 underlying5 F rfl rfl rfl rfl rfl rfl ?_;clear H;intro w H;refine sIns (k:=6) H 0 underlying174 underlying5 F rfl rfl rfl rfl rfl rfl ?_;clear H;intro w H;refine sMv F rfl rfl rfl (qAs rfl rfl rfl (qNK hK2 ?_));clear hK2;clear F a;intro a F;refine wp_ret ?_;refine bRet results114 F rfl ?_
 exact ⟨_,rfl,H⟩
theorem eff1_any (old a b:UInt8) (w0:World):Calls Tryz.prog 144 #[b8 old,b8 a,b8 b] w0 fun e w'=>e = .returned (b8 (effP 1 old a b))∧Below w0.heap.size w0 w':=by
 have H:=Own.start w0 none
 refine enterF func144 rfl ntmps144 rfl (fun a F=>?_);refine cSR fun K1 hK1=>sAs F rfl rfl rfl (qNK hK1 (qSR fun K2 hK2=>qMv rfl rfl rfl (qAs rfl rfl rfl (qNK hK2 ?_))));clear hK1 hK2;clear F a;intro a F;refine wp_ret ?_;refine bRet results144 F rfl ?_
 exact ⟨ret8 rfl,H.below⟩
theorem eff2_any (old a b:UInt8) (w0:World):Calls Tryz.prog 145 #[b8 old,b8 a,b8 b] w0 fun e w'=>e = .returned (b8 (effP 2 old a b))∧Below w0.heap.size w0 w':=by
 have H:=Own.start w0 none
 refine enterF func145 rfl ntmps145 rfl (fun a F=>?_);refine cSR fun K1 hK1=>sAs F rfl rfl rfl (qNK hK1 (qSR fun K2 hK2=>qMv rfl rfl rfl (qAs rfl rfl rfl (qNK hK2 ?_))));clear hK1 hK2;clear F a;intro a F;refine wp_ret ?_;refine bRet results145 F rfl ?_
 exact ⟨ret8 rfl,H.below⟩
theorem eff3_any (old a b:UInt8) (w0:World):Calls Tryz.prog 146 #[b8 old,b8 a,b8 b] w0 fun e w'=>e = .returned (b8 (effP 4 old a b))∧Below w0.heap.size w0 w':=by
 have H:=Own.start w0 none
 refine enterF func146 rfl ntmps146 rfl (fun a F=>?_);refine cSR fun K1 hK1=>sAs F rfl rfl rfl (qNK hK1 (qSR fun K2 hK2=>qMv rfl rfl rfl (qAs rfl rfl rfl (qNK hK2 ?_))));clear hK1 hK2;clear F a;intro a F;refine wp_ret ?_;refine bRet results146 F rfl ?_
 exact ⟨ret8 rfl,H.below⟩
theorem eff4_any (old a b:UInt8) (w0:World):Calls Tryz.prog 147 #[b8 old,b8 a,b8 b] w0 fun e w'=>e = .returned (b8 (effP 5 old a b))∧Below w0.heap.size w0 w':=by
 have H:=Own.start w0 none
 refine enterF func147 rfl ntmps147 rfl (fun a F=>?_);refine cSR fun K1 hK1=>sAs F rfl rfl rfl (qNK hK1 (qSR fun K2 hK2=>qMv rfl rfl rfl (qMv rfl rfl rfl (qBin rfl rfl rfl rfl (bAddB) (qAs rfl rfl rfl (qNK hK2 ?_))))));clear hK1 hK2;clear F a;intro a F;refine wp_ret ?_;refine bRet results147 F rfl ?_
 exact ⟨ret8 rfl,H.below⟩
theorem eff5_any (old a b:UInt8) (w0:World):Calls Tryz.prog 148 #[b8 old,b8 a,b8 b] w0 fun e w'=>e = .returned (b8 (effP 6 old a b))∧Below w0.heap.size w0 w':=by
 have H:=Own.start w0 none
 refine enterF func148 rfl ntmps148 rfl (fun a F=>?_);refine cSR fun K1 hK1=>sAs F rfl rfl rfl (qNK hK1 ?_);clear hK1;clear F a;intro a F;refine cSeq (fun K2 hK2=>?_);refine cSR fun K3 hK3=>sMv F rfl rfl rfl (qMv rfl rfl rfl (qBin rfl rfl rfl rfl bEqlB (qNK hK3 ?_)));clear hK3;clear F a;intro a F
 refine cIf F rfl (fun h9=>?_) (fun h9=>?_)
 ·
  replace h9:=beqT h9;refine cSR fun K4 hK4=>sMv F rfl rfl rfl (qAs rfl rfl rfl (qNK hK4 ?_));clear hK4;clear F a;intro a F;refine wp_ret ?_;simp only [Exit.then];refine bRet results148 F rfl ?_
  exact ⟨ret8 (by simp [effP, *]),H.below⟩
 replace h9:=beqF h9;refine wp_skip (hK2 _ _ (cSR fun K5 hK5=>sMv F rfl rfl rfl (qAs rfl rfl rfl (qNK hK5 ?_))));clear hK2 hK5;clear F a;intro a F;refine wp_ret ?_;refine bRet results148 F rfl ?_
 exact ⟨ret8 (by simp [effP, *]),H.below⟩
theorem eff_at {op:UInt8} (h:isFar op):∃ v,findB op effs=some (op,v)∧∀ old a b w,CallsF Tryz.prog v [b8 old,b8 a,b8 b] w fun e w'=>e = .returned (b8 (effP op old a b))∧Below w.heap.size w w':=by
 rcases h with rfl | rfl | rfl | rfl | rfl
 · exact ⟨_,rfl,fun old a b w=>⟨_,[],[],rfl,call144,eff1_any old a b w⟩⟩
 · exact ⟨_,rfl,fun old a b w=>⟨_,[],[],rfl,call145,eff2_any old a b w⟩⟩
 · exact ⟨_,rfl,fun old a b w=>⟨_,[],[],rfl,call146,eff3_any old a b w⟩⟩
 · exact ⟨_,rfl,fun old a b w=>⟨_,[],[],rfl,call147,eff4_any old a b w⟩⟩
 · exact ⟨_,rfl,fun old a b w=>⟨_,[],[],rfl,call148,eff5_any old a b w⟩⟩
end Go.Proofs.YtbgnapmaimkpkaaGreatDoor
namespace Go.Proofs.YtbgnapmaimkpkaaGreatDoor
open Go.Proofs.Tryz
open Go.RowKit
set_option maxRecDepth 100000
theorem retB1 {n:Nat} {s t:By} (h:∀ i,i < n→s i=t i):(Ending.returned (.agg (bs n s).toArray):Ending) = .returned (.agg (bs n t).toArray):=by rw [bs_ext h]
def stepFine (x:Ins):Prop:=isLocal x=true∨(isLocal x=false∧isFar x.op∧x.loc.toNat < 6∧(x.op ≠ 2→x.dst.toNat < 8))
theorem hasP_eff (x:Ins) (t:By) (had:UInt8):hasP x t had=effP x.op had (valA x t) (valB x t):=rfl
theorem step_any (cs:List Value) (p:Prg) (w0:World) (hP:ProgAt w0 cs p) (s:By) (t:Nat) (l:List Ins) (x:Ins) (ht:t < 4) (hl:p.threads[t]? = some l) (hx:l[(s (t * 9)).toNat]? = some x) (hf:stepFine x) :
   Calls Tryz.prog 56 #[.agg cs.toArray,.agg (bs 142 s).toArray,.int .i64 (t:Int)] w0 fun e w'=>e = .returned (.agg (bs 142 (moveP x s t)).toArray)∧Below w0.heap.size w0 w':=by
 have H:=Own.start w0 none
 obtain ⟨LA,LC,IA,IC,TA,TC,h,ccs,hp⟩:=hP
 obtain ⟨c1,c2,c3,c4,c5,rfl⟩:=len5 (condAt_len hp.cond)
 have hcs:=hp.cs
 subst hcs
 obtain ⟨bT,oT,BT,CT,rfl,hT1,hT2,hT3⟩:=hp.threads t l hl
 have hpcl:(s (t * 9)).toNat < l.length:=(List.getElem?_eq_some_iff.1 hx).1
 obtain ⟨bI,oI,rfl,hI⟩:=hT2 (s (t * 9)).toNat x.cells (by rw [List.getElem?_map,hx];rfl)
 have htl:t < p.threads.length:=(List.getElem?_eq_some_iff.1 hl).1
 refine enterF func56 rfl ntmps56 rfl (fun a F=>?_);refine cSR fun K1 hK1=>?_;refine sBx H F rfl rfl rfl ?_;clear F a H;intro b3 a w F H;refine sBxB H F rfl rfl rfl ?_;clear F a H;intro b4 a w F H;refine sAlB H zB70 F rfl rfl ?_;clear F a H;intro b6 a w F H;refine nK hK1 (cSR fun K2 hK2=>sMv F rfl rfl rfl (qFa (f:=0) (k:=0) underlying70 rfl sizeOf63 rfl rfl rfl rfl rfl ?_));clear hK1;clear F a;intro a F
 refine sIaZ underlying63 sizeOf62 F rfl rfl rfl rfl ?_ ?_
 focus (first | omega | decide | (simp;omega))
 clear F a;intro a F;refine sLrB underlying62 rfl sizeOf62 F rfl rfl rfl (H.rangeB 1 _ 9 rfl (by omega)) ?_;clear F a;intro a F;refine sAlB H zB62 F rfl rfl ?_;clear F a H;intro b7 a w F H;refine sSrB H 0 sizeOf62 F rfl rfl rfl rfl (by omega) ?_;clear H;intro w H;rw [lay_all] at H;refine nK hK2 ?_;clear hK2;refine cSeq (fun K3 hK3=>?_);refine cRegRO (by kernel_rfl) H ?_;replace H:=H.drew;refine eTF 0 rfl (by kernel_rfl) F rfl rfl rfl (fun w=>rFa (f:=3) (k:=3) underlying29 rfl sizeOf24 rfl rfl F rfl) H qq0 (qT 1 rfl (by kernel_rfl) rfl rfl rfl rfl (fun a F w H=>rLd isAgg24 F rfl (H.cell 3 rfl rfl)) H qq0 (qTF 2 rfl (by kernel_rfl) rfl rfl rfl (fun a F w=>rMv F rfl) H qq0 ?_));clear F a;intro a F
 refine eTakeF (k:=3) (i:=3) rfl (by kernel_rfl) F rfl rfl rfl (fun w=>rIx underlying24 sizeOf33 F rfl rfl ?_) H (fun _ _ _ h=>h) ?_
 focus (first | omega | decide | (simp;omega))
 clear F a;intro a F;refine eT 4 rfl (by kernel_rfl) F rfl rfl rfl rfl (fun w H=>rLd isAgg33 F rfl (H.arg hT1)) H qq0 (qTF 5 rfl (by kernel_rfl) rfl rfl rfl (fun a F w=>rFa (f:=0) (k:=0) underlying62 rfl sizeOf5 rfl rfl F rfl) H qq0 (qT 6 rfl (by kernel_rfl) rfl rfl rfl rfl (fun a F w H=>rLd isAgg5 F rfl (H.cellB 0 rfl (by omega))) H qq0 ?_));clear F a;intro a F
 refine eTakeF (k:=7) (i:=7) rfl (by kernel_rfl) F rfl rfl rfl (fun w=>rIx underlying33 sizeOf37 F rfl rfl ?_) H (fun _ _ _ h=>h) ?_
 focus exact hpcl
 clear F a;intro a F
 refine eTake (k:=8) (i:=8) rfl (by kernel_rfl) F rfl rfl rfl rfl (fun w H=>rLr underlying37 rfl ?si F rfl (H.argR hI)) H (fun _ _ _ h=>h) ?_
 case si=>exact info_size sizeOf37
 clear F a;intro a F;refine eOne (k:=9) (i:=9) rfl (by kernel_rfl) F rfl (oAl H zeroValue37 F rfl ?_);clear F a H;intro b8 a w F H;refine eKeep H.tail ?_
 refine eOne (k:=10) (i:=10) rfl (by kernel_rfl) F rfl (oSr H 0 ?si F rfl rfl ?s1 rfl rfl ?_)
 case si=>exact info_size sizeOf37
 case s1=>first | rfl | (repeat (first | exact one_nil | (apply one_cons;· first | rfl | assumption | exact one_bif rfl rfl)))
 clear H;intro w H;refine ePartO (by kernel_rfl) H ?_;refine eNil (k:=11) (by kernel_rfl) ?_;refine hK3 _ _ ?_;clear hK3;refine cSeq (fun K4 hK4=>?_);refine cSR fun K5 hK5=>?_
 refine sLr underlying37 rfl ?si F rfl rfl rfl (H.whole 0 rfl) ?_
 case si=>exact info_size sizeOf37
 clear F a;intro a F;refine sLrB underlying62 rfl sizeOf62 F rfl rfl rfl (H.whole 1 rfl) ?_;clear F a;intro a F;refine sCall call113 F rfl rfl rfl (local_any x _ _) ?_;rintro e w ⟨rfl,hb⟩;replace H:=H.grow hb;clear hb;refine ⟨_,rfl,?_⟩;clear F a;intro a F;refine sMv F rfl rfl rfl (qExt rfl rfl rfl rfl (qExt rfl rfl rfl rfl ?_));clear F a;intro a F;refine sAlB H zB62 F rfl rfl ?_;clear F a H;intro b9 a w F H;refine sSrB H 0 sizeOf62 F rfl rfl rfl rfl (by omega) ?_;clear H;intro w H;rw [lay_all] at H;refine sAs F rfl rfl rfl (qNK hK5 (qSR fun K6 hK6=>qMv rfl rfl rfl (qNK hK6 ?_)));clear hK5 hK6;clear F a;intro a F
 refine cIf F rfl (fun h33=>?_) (fun h33=>?_)
 ·
  refine cSR fun K7 hK7=>sMv F rfl rfl rfl (qLrB underlying62 rfl sizeOf62 rfl rfl rfl (H.whole 0 rfl) (qFa (f:=0) (k:=0) underlying70 rfl sizeOf63 rfl rfl rfl rfl rfl ?_));clear F a;intro a F
  refine sIaZ underlying63 sizeOf62 F rfl rfl rfl rfl ?_ ?_
  focus (first | omega | decide | (simp;omega))
  clear F a;intro a F;refine sSrB H 4 sizeOf62 F rfl rfl rfl rfl (by omega) ?_;clear H;intro w H;refine nK hK7 (cSR fun K8 hK8=>sLrB underlying70 rfl sizeOf70 F rfl rfl rfl (H.whole 4 rfl) ?_);clear hK7;clear F a;intro a F;refine sSrB H 3 sizeOf70 F rfl rfl rfl rfl (by omega) ?_;clear H;intro w H;rw [lay_all] at H;refine nK hK8 ?_;clear hK8;refine wp_ret ?_;simp only [Exit.then];refine bRetB results56 F rfl underlying70 rfl sizeOf70 H 3 rfl ?_
  refine ⟨retB1 fun i _=>?_,H.below⟩
  clear F H
  have e0:∀ v,put (cut s (t * 9)) (1+x.dst.toNat) v 0=cut s (t * 9) 0:=fun v=>if_neg (by omega)
  first
    | (simp only [moveP,h33,if_true];done)
    | (simp only [moveP,h33,farP,withP,hd,h71,hasP_eff,e0,if_true,if_false,Bool.false_eq_true,valA,valB];done)
    | (simp only [moveP,h33,farP,h71,hasP_eff,if_true,if_false,Bool.false_eq_true,valA,valB];done)
 obtain ⟨hfar,hloc,hdst⟩:isFar x.op∧x.loc.toNat < 6∧(x.op ≠ 2→x.dst.toNat < 8):=by
   rcases hf with h | h
   · rw [h] at h33;cases h33
   · exact h.2
 obtain ⟨V,hV1,hV2⟩:=eff_at hfar
 refine wp_skip (hK4 _ _ ?_);clear hK4;refine cSeq (fun K9 hK9=>?_);refine cSeq (fun K10 hK10=>?_);refine cRegRO (by kernel_rfl) H ?_;replace H:=H.drew;refine eTF 1 rfl (by kernel_rfl) F rfl rfl rfl (fun w=>rFa (f:=0) (k:=0) underlying37 rfl sizeOf5 rfl rfl F rfl) H qq0 (qT 2 rfl (by kernel_rfl) rfl rfl rfl rfl (fun a F w H=>rLd isAgg5 F rfl (H.cell 1 rfl rfl)) H qq0 ?_);clear F a;intro a F;refine eOne (k:=2) (i:=0) rfl (by kernel_rfl) F rfl (oCall call114 F rfl rfl (effects_any _) ?_);rintro e w ⟨M,rfl,H2⟩;replace H:=H.join H2;clear H2;refine ⟨_,rfl,?_⟩;clear F a;intro a F;refine eKeep H.tail ?_;refine eUp H (fun w h=>h.sel [1,2,3,4,5,6] rfl rfl) ?_;refine eT 3 rfl (by kernel_rfl) F rfl rfl rfl rfl (fun w H=>rLkB H 0 underlying174 underlying5 F rfl rfl rfl (hV1)) H qq0 (qTF 4 rfl (by kernel_rfl) rfl rfl rfl (fun a F w=>rMv F rfl) H qq0 (qTF 5 rfl (by kernel_rfl) rfl rfl rfl (fun a F w=>rExt F rfl rfl) H qq0 (qTF 6 rfl (by kernel_rfl) rfl rfl rfl (fun a F w=>rExt F rfl rfl) H qq0 (qTF 7 rfl (by kernel_rfl) rfl rfl rfl (fun a F w=>rAs F rfl) H qq0 (qTF 8 rfl (by kernel_rfl) rfl rfl rfl (fun a F w=>rAs F rfl) H qq0 ?_)))));clear F a;intro a F;refine eNil (k:=9) (by kernel_rfl) ?_;refine hK10 _ _ (cSR fun K11 hK11=>sMv F rfl rfl rfl (qNK hK11 ?_));clear hK10 hK11;clear F a;intro a F
 refine cIf F rfl (fun h46=>?_) (fun h46=>?_)
 ·
  refine cSR fun K12 hK12=>sFa (f:=2) (k:=2) underlying37 rfl sizeOf5 rfl rfl F rfl rfl rfl (qLd isAgg5 rfl rfl rfl (H.cell 2 rfl rfl) (qFa (f:=1) (k:=36) underlying70 rfl sizeOf45 rfl rfl rfl rfl rfl ?_));clear F a;intro a F
  refine sIa1 underlying45 sizeOf5 F rfl rfl rfl rfl ?_ ?_
  focus (first | omega | decide | (simp;omega))
  clear F a;intro a F;refine sLd isAgg5 F rfl rfl rfl (H.cellB 5 rfl (by omega)) (qAs rfl rfl rfl (qNK hK12 ?_));clear hK12;clear F a;intro a F;refine cSeq (fun K13 hK13=>?_);refine cRegRO (by kernel_rfl) H ?_;replace H:=H.drew;refine eTF 0 rfl (by kernel_rfl) F rfl rfl rfl (fun w=>rFa (f:=2) (k:=2) underlying37 rfl sizeOf5 rfl rfl F rfl) H qq0 (qT 1 rfl (by kernel_rfl) rfl rfl rfl rfl (fun a F w H=>rLd isAgg5 F rfl (H.cell 2 rfl rfl)) H qq0 (qTF 2 rfl (by kernel_rfl) rfl rfl rfl (fun a F w=>rMv F rfl) H qq0 (qTF 3 rfl (by kernel_rfl) rfl rfl rfl (fun a F w=>rMv F rfl) H qq0 (qTF 4 rfl (by kernel_rfl) rfl rfl rfl (fun a F w=>rFa (f:=3) (k:=3) underlying37 rfl sizeOf35 rfl rfl F rfl) H qq0 ?_))));clear F a;intro a F
  refine eTake (k:=5) (i:=5) rfl (by kernel_rfl) F rfl rfl rfl rfl (fun w H=>rLr underlying35 rfl ?si F rfl (H.range 2 rfl _ 2)) H (fun _ _ _ h=>h) ?_
  case si=>exact info_size sizeOf35
  clear F a;intro a F;refine eTF 6 rfl (by kernel_rfl) F rfl rfl rfl (fun w=>rFa (f:=1) (k:=1) underlying62 rfl sizeOf43 rfl rfl F rfl) H qq0 (qT 7 rfl (by kernel_rfl) rfl rfl rfl rfl (fun a F w H=>rLrB underlying43 rfl sizeOf43 F rfl (H.rangeB 3 _ 8 rfl (by omega))) H qq0 (qTF 9 rfl (by kernel_rfl) rfl rfl rfl (fun a F w=>rFa (f:=4) (k:=5) underlying37 rfl sizeOf35 rfl rfl F rfl) H qq0 ?_));clear F a;intro a F
  refine eTake (k:=9) (i:=10) rfl (by kernel_rfl) F rfl rfl rfl rfl (fun w H=>rLr underlying35 rfl ?si F rfl (H.range 2 rfl _ 2)) H (fun _ _ _ h=>h) ?_
  case si=>exact info_size sizeOf35
  clear F a;intro a F;refine eTF 11 rfl (by kernel_rfl) F rfl rfl rfl (fun w=>rFa (f:=1) (k:=1) underlying62 rfl sizeOf43 rfl rfl F rfl) H qq0 (qT 12 rfl (by kernel_rfl) rfl rfl rfl rfl (fun a F w H=>rLrB underlying43 rfl sizeOf43 F rfl (H.rangeB 3 _ 8 rfl (by omega))) H qq0 (qTF 15 rfl (by kernel_rfl) rfl rfl rfl (fun a F w=>rFa (f:=1) (k:=36) underlying70 rfl sizeOf45 rfl rfl F rfl) H qq0 ?_));clear F a;intro a F;refine eOne (k:=13) (i:=8) rfl (by kernel_rfl) F rfl (oCall call110 F rfl rfl (worth_any x.aR x.aN _ _) ?_);rintro e w ⟨rfl,hb⟩;replace H:=H.grow hb;clear hb;refine ⟨_,rfl,?_⟩;clear F a;intro a F;refine eKeep H ?_;refine eOne (k:=14) (i:=13) rfl (by kernel_rfl) F rfl (oCall call110 F rfl rfl (worth_any x.bR x.bN _ _) ?_);rintro e w ⟨rfl,hb⟩;replace H:=H.grow hb;clear hb;refine ⟨_,rfl,?_⟩;clear F a;intro a F;refine eKeep H ?_;refine eOne (k:=15) (i:=14) rfl (by kernel_rfl) F rfl (oCallV F rfl rfl rfl (hV2 _ _ _ _) ?_);rintro e w ⟨rfl,hb⟩;replace H:=H.grow hb;clear hb;refine ⟨_,rfl,?_⟩;clear F a;intro a F;refine eKeep H ?_
  refine eTakeF (k:=16) (i:=16) rfl (by kernel_rfl) F rfl rfl rfl (fun w=>rIa1 underlying45 sizeOf5 F rfl rfl ?_) H (fun _ _ _ h=>h) ?_
  focus (first | omega | decide | (simp;omega))
  clear F a;intro a F;refine eOne (k:=17) (i:=17) rfl (by kernel_rfl) F rfl (oStB H 5 sizeOf5 F rfl rfl rfl (by omega) ?_);clear H;intro w H;refine ePartO (by kernel_rfl) H ?_;refine eNil (k:=18) (by kernel_rfl) ?_;refine hK13 _ _ (cSR fun K14 hK14=>sFa (f:=0) (k:=0) underlying37 rfl sizeOf5 rfl rfl F rfl rfl rfl (qLd isAgg5 rfl rfl rfl (H.cell 2 rfl rfl) (qBin rfl rfl rfl rfl (bNeqB (y:=2)) (qNK hK14 ?_))));clear hK13 hK14;clear F a;intro a F
  refine cIf F rfl (fun h71=>?_) (fun h71=>?_)
  ·
   replace h71:=bneT h71
   have hd:=hdst h71
   refine cReg (sFa (f:=1) (k:=1) underlying37 rfl sizeOf5 rfl rfl F rfl rfl rfl (qLd isAgg5 rfl rfl rfl (H.cell 2 rfl rfl) (qMv rfl rfl rfl (qFa (f:=1) (k:=1) underlying62 rfl sizeOf43 rfl rfl rfl rfl rfl ?_))));clear F a;intro a F
   refine sIa1 underlying43 sizeOf5 F rfl rfl rfl rfl ?_ ?_
   focus (first | omega | decide | (simp;omega))
   clear F a;intro a F;refine sStB H 3 sizeOf5 F rfl rfl rfl rfl (by omega) ?_;clear H;intro w H;refine nK hK9 (cSR fun K15 hK15=>sFa (f:=0) (k:=0) underlying62 rfl sizeOf5 rfl rfl F rfl rfl rfl (qLd isAgg5 rfl rfl rfl (H.cellB 3 rfl (by omega)) (qBin rfl rfl rfl rfl (bAddB (y:=1)) (qFa (f:=0) (k:=0) underlying62 rfl sizeOf5 rfl rfl rfl rfl rfl ?_))));clear hK9;clear F a;intro a F;refine sStB H 3 sizeOf5 F rfl rfl rfl rfl (by omega) ?_;clear H;intro w H;refine nK hK15 (cSR fun K16 hK16=>sMv F rfl rfl rfl (qLrB underlying62 rfl sizeOf62 rfl rfl rfl (H.whole 3 rfl) (qFa (f:=0) (k:=0) underlying70 rfl sizeOf63 rfl rfl rfl rfl rfl ?_)));clear hK15;clear F a;intro a F
   refine sIaZ underlying63 sizeOf62 F rfl rfl rfl rfl ?_ ?_
   focus (first | omega | decide | (simp;omega))
   clear F a;intro a F;refine sSrB H 5 sizeOf62 F rfl rfl rfl rfl (by omega) ?_;clear H;intro w H;refine nK hK16 (cSR fun K17 hK17=>sLrB underlying70 rfl sizeOf70 F rfl rfl rfl (H.whole 5 rfl) ?_);clear hK16;clear F a;intro a F;refine sSrB H 4 sizeOf70 F rfl rfl rfl rfl (by omega) ?_;clear H;intro w H;rw [lay_all] at H;refine nK hK17 ?_;clear hK17;refine wp_ret ?_;refine bRetB results56 F rfl underlying70 rfl sizeOf70 H 4 rfl ?_
   refine ⟨retB1 fun i _=>?_,H.below⟩
   clear F H
   have e0:∀ v,put (cut s (t * 9)) (1+x.dst.toNat) v 0=cut s (t * 9) 0:=fun v=>if_neg (by omega)
   first
     | (simp only [moveP,h33,if_true];done)
     | (simp only [moveP,h33,farP,withP,hd,h71,hasP_eff,e0,if_true,if_false,Bool.false_eq_true,valA,valB];done)
     | (simp only [moveP,h33,farP,h71,hasP_eff,if_true,if_false,Bool.false_eq_true,valA,valB];done)
  replace h71:=bneF h71;refine wp_skip (hK9 _ _ (cSR fun K18 hK18=>sFa (f:=0) (k:=0) underlying62 rfl sizeOf5 rfl rfl F rfl rfl rfl (qLd isAgg5 rfl rfl rfl (H.cellB 3 rfl (by omega)) (qBin rfl rfl rfl rfl (bAddB (y:=1)) (qFa (f:=0) (k:=0) underlying62 rfl sizeOf5 rfl rfl rfl rfl rfl ?_)))));clear hK9;clear F a;intro a F;refine sStB H 3 sizeOf5 F rfl rfl rfl rfl (by omega) ?_;clear H;intro w H;refine nK hK18 (cSR fun K19 hK19=>sMv F rfl rfl rfl (qLrB underlying62 rfl sizeOf62 rfl rfl rfl (H.whole 3 rfl) (qFa (f:=0) (k:=0) underlying70 rfl sizeOf63 rfl rfl rfl rfl rfl ?_)));clear hK18;clear F a;intro a F
  refine sIaZ underlying63 sizeOf62 F rfl rfl rfl rfl ?_ ?_
  focus (first | omega | decide | (simp;omega))
  clear F a;intro a F;refine sSrB H 5 sizeOf62 F rfl rfl rfl rfl (by omega) ?_;clear H;intro w H;refine nK hK19 (cSR fun K20 hK20=>sLrB underlying70 rfl sizeOf70 F rfl rfl rfl (H.whole 5 rfl) ?_);clear hK19;clear F a;intro a F;refine sSrB H 4 sizeOf70 F rfl rfl rfl rfl (by omega) ?_;clear H;intro w H;rw [lay_all] at H;refine nK hK20 ?_;clear hK20;refine wp_ret ?_;refine bRetB results56 F rfl underlying70 rfl sizeOf70 H 4 rfl ?_
  refine ⟨retB1 fun i _=>?_,H.below⟩
  clear F H
  have e0:∀ v,put (cut s (t * 9)) (1+x.dst.toNat) v 0=cut s (t * 9) 0:=fun v=>if_neg (by omega)
  first
    | (simp only [moveP,h33,if_true];done)
    | (simp only [moveP,h33,farP,withP,hd,h71,hasP_eff,e0,if_true,if_false,Bool.false_eq_true,valA,valB];done)
    | (simp only [moveP,h33,farP,h71,hasP_eff,if_true,if_false,Bool.false_eq_true,valA,valB];done)
 cases h46
end Go.Proofs.YtbgnapmaimkpkaaGreatDoor
namespace Go.Proofs.YtbgnapmaimkpkaaGreatDoor
open Go.Proofs.Tryz
def allB (n:Nat) (f:Nat→Bool):Bool:=(List.range n).all f
theorem allB_true {n:Nat} {f:Nat→Bool} (h:∀ i,i < n→f i=true):allB n f=true:=by
 simp only [allB,List.all_eq_true,List.mem_range];exact h
theorem allB_false {n:Nat} {f:Nat→Bool} {i:Nat} (hi:i < n) (h:f i=false):allB n f=false:=by
 rw [← Bool.not_eq_true,allB,List.all_eq_true]
 intro h1
 rw [h1 i (List.mem_range.2 hi)] at h
 cases h
theorem allB_iff {n:Nat} {f:Nat→Bool}:allB n f=true ↔ ∀ i,i < n→f i=true:=by
 simp only [allB,List.all_eq_true,List.mem_range]
def threadSt (p:Prg) (s:By) (t:Nat):Bool:=match p.threads[t]? with
 | some l=>decide ((s (t * 9)).toNat≤l.length)
 | none=>same 9 (cut s (t * 9)) zb
def memSt (p:Prg) (s:By) (k:Nat):Bool:=decide (k < p.locs.length) || s (36+k) == 0
def stateOk (p:Prg) (s:By):Bool:=allB 4 (threadSt p s) && allB 6 (memSt p s) && (same 96 (cut s 42) zb && same 4 (cut s 138) zb)
def rightS (p:Prg) (s:By):Bool:=rightErr p == 0 && stateOk p s
theorem rightS_err {p:Prg} {s:By} (h:rightErr p ≠ 0):rightS p s=false:=by
 unfold rightS;rw [beq_false_of_ne h,Bool.false_and]
theorem rightS_thr {p:Prg} {s:By} {j:Nat} (hj:j < 4) (h:threadSt p s j=false):rightS p s=false:=by
 unfold rightS stateOk;rw [allB_false hj h];simp
theorem rightS_mem {p:Prg} {s:By} {j:Nat} (hj:j < 6) (h:memSt p s j=false):rightS p s=false:=by
 unfold rightS stateOk;rw [allB_false hj h];simp
theorem rightS_end {p:Prg} {s:By} (he:rightErr p=0) (ht:∀ i,i < 4→threadSt p s i=true) (hm:∀ i,i < 6→memSt p s i=true):rightS p s=(same 96 (cut s 42) zb && same 4 (cut s 138) zb):=by
 unfold rightS stateOk;rw [allB_true ht,allB_true hm,he];rfl
theorem threadSt_none {p:Prg} {s:By} {j:Nat} (h:p.threads.length≤j):threadSt p s j=same 9 (cut s (j * 9)) zb:=by
 unfold threadSt;rw [List.getElem?_eq_none h]
theorem threadSt_some {p:Prg} {s:By} {j:Nat} {l:List Ins} (h:p.threads[j]? = some l):threadSt p s j=decide ((s (j * 9)).toNat≤l.length):=by
 unfold threadSt;rw [h]
theorem memSt_in {p:Prg} {s:By} {k:Nat} (h:k < p.locs.length):memSt p s k=true:=by
 unfold memSt;rw [decide_eq_true h,Bool.true_or]
theorem memSt_out {p:Prg} {s:By} {k:Nat} (h:p.locs.length≤k):memSt p s k=(s (36+k) == 0):=by
 unfold memSt;rw [decide_eq_false (by omega),Bool.false_or]
theorem below_succ {f:Nat→Bool} {j:Nat} (h:∀ i,i < j→f i=true) (hj:f j=true):∀ i,i < j+1→f i=true:=fun i hi=>by
 rcases Nat.lt_or_ge i j with h1 | h1
 · exact h i h1
 · obtain rfl:i=j:=by omega
   exact hj
def mayP (p:Prg) (s:By) (t:Nat):Bool:=match p.threads[t]? with
 | some l=>decide ((s (t * 9)).toNat < l.length)
 | none=>false
def enabledP (p:Prg) (s:By):List Nat:=(List.range p.threads.length).filter (mayP p s)
def movesP (p:Prg) (s:By):List Nat:=if rightS p s then enabledP p s else []
def nextI (p:Prg) (s:By) (t:Nat):Option Ins:=match p.threads[t]? with
 | some l=>l[(s (t * 9)).toNat]?
 | none=>none
def stepP (p:Prg) (s:By) (t:Nat):By:=match nextI p s t with
 | some x=>moveP x s t
 | none=>s
def startP (p:Prg):By:=lay zb 36 (min p.init.length 6) (ofL p.init)
def startS (p:Prg):By:=if rightErr p=0 then startP p else zb
def startE (p:Prg):Int:=if rightErr p=0 then 0 else 2
def finalP (s:By):By:=fun i=>if i < 32 then s (i / 8 * 9+1+i % 8) else s (36+(i - 32))
theorem final_init (s:By):∀ i,i < 38→lay zb 32 6 (cut s 36) i=if 32≤i∨i < 0 * 8 then finalP s i else 0:=fun i hi=>by
 unfold lay finalP
 by_cases h:32≤i
 · rw [if_pos (by omega),if_pos (by omega),if_neg (by omega)];rfl
 · rw [if_neg (by omega),if_neg (by omega)];rfl
theorem final_step {s f:By} {j:Nat} (hj:j < 4) (hf:∀ i,i < 38→f i=if 32≤i∨i < j * 8 then finalP s i else 0) :
   ∀ i,i < 38→lay f (j * 8) 8 (cut (cut s (j * 9)) 1) i=if 32≤i∨i < (j+1) * 8 then finalP s i else 0:=fun i hi=>by
 unfold lay
 by_cases h:j * 8≤i∧i < j * 8+8
 · rw [if_pos h,if_pos (by omega)]
   unfold finalP cut
   rw [if_pos (by omega)]
   congr 1
   omega
 · rw [if_neg h,hf i hi]
   by_cases h2:32≤i∨i < j * 8
   · rw [if_pos h2,if_pos (by omega)]
   · rw [if_neg h2,if_neg (by omega)]
theorem nextI_at {p:Prg} {s:By} {t:Nat} {l:List Ins} {x:Ins} (h:p.threads[t]? = some l) (hx:l[(s (t * 9)).toNat]? = some x):nextI p s t=some x:=by
 unfold nextI;rw [h];exact hx
theorem stepP_at {p:Prg} {s:By} {t:Nat} {l:List Ins} {x:Ins} (h:p.threads[t]? = some l) (hx:l[(s (t * 9)).toNat]? = some x):stepP p s t=moveP x s t:=by
 unfold stepP;rw [nextI_at h hx]
theorem mem_enabled {p:Prg} {s:By} {t:Nat} (h:t ∈ enabledP p s):∃ l x,p.threads[t]? = some l∧l[(s (t * 9)).toNat]? = some x:=by
 have h2:=(List.mem_filter.1 h).2
 unfold mayP at h2
 split at h2
 · rename_i l hl
   exact ⟨l,_,hl,List.getElem?_eq_getElem (of_decide_eq_true h2)⟩
 · cases h2
theorem mem_moves {p:Prg} {s:By} {t:Nat} (h:t ∈ movesP p s):rightS p s=true∧t ∈ enabledP p s:=by
 unfold movesP at h
 split at h
 · rename_i hr;exact ⟨hr,h⟩
 · simp at h
theorem right_of {p:Prg} {s:By} (h:rightS p s=true):rightErr p=0:=by
 unfold rightS at h
 simp only [Bool.and_eq_true,beq_iff_eq] at h
 exact h.1
def movable (p:Prg) (s:By) (t:Int):Bool:=(movesP p s).any fun k=>(k:Int) == t
def moveS (p:Prg) (s:By) (t:Int):By:=if movable p s t then stepP p s t.toNat else zb
def moveE (p:Prg) (s:By) (t:Int):Int:=if movable p s t then 0 else 2
def intRows (l:List Nat):List (List Value):=l.map fun t:Nat=>[.int .i64 (t:Int)]
@[simp] theorem intRows_length (l:List Nat):(intRows l).length=l.length:=by simp [intRows]
theorem intRows_append (l:List Nat) (j:Nat):intRows (l++[j])=intRows l++[[.int .i64 (j:Int)]]:=by simp [intRows]
theorem intRows_one (l:List Nat):∀ r ∈ intRows l,r.length=1:=by
 intro r hr
 obtain ⟨t,_,rfl⟩:=List.mem_map.1 hr
 rfl
theorem range_filter_succ (f:Nat→Bool) (j:Nat):(List.range (j+1)).filter f=if f j then (List.range j).filter f++[j] else (List.range j).filter f:=by
 rw [List.range_succ,List.filter_append]
 cases h:f j <;> simp [h]
theorem mayP_at {p:Prg} {s:By} {j:Nat} {l:List Ins} (h:p.threads[j]? = some l):mayP p s j=decide ((s (j * 9)).toNat < l.length):=by
 unfold mayP;rw [h]
end Go.Proofs.YtbgnapmaimkpkaaGreatDoor
namespace Go.Proofs.YtbgnapmaimkpkaaGreatDoor
open Go.Proofs.Tryz
open Go.RowKit
set_option maxRecDepth 100000
theorem rightA_any (cs:List Value) (p:Prg) (w0:World) (hP:ProgAt w0 cs p) (hN:NeedsAt w0) (s:By) :
   Calls Tryz.prog 103 #[.agg cs.toArray,.agg (bs 142 s).toArray] w0 fun e w'=>e = .returned (.bool (rightS p s))∧Below w0.heap.size w0 w':=by
 have H:=Own.start w0 none
 have hP0:=hP
 obtain ⟨LA,LC,IA,IC,TA,TC,h,ccs,hp⟩:=hP
 obtain ⟨c1,c2,c3,c4,c5,rfl⟩:=len5 (condAt_len hp.cond)
 have hcs:=hp.cs
 subst hcs
 have hn:=hp.threadsN
 have hm:=hp.locsN
 refine enterF func103 rfl ntmps103 rfl (fun a F=>?_);refine cSR fun K1 hK1=>?_;refine sBx H F rfl rfl rfl ?_;clear F a H;intro b2 a w F H;refine sBxB H F rfl rfl rfl ?_;clear F a H;intro b3 a w F H;refine sAs F rfl rfl rfl (qNK hK1 ?_);clear hK1;clear F a;intro a F;refine cSeq (fun K2 hK2=>?_);refine cSR fun K3 hK3=>?_
 refine sLr underlying29 rfl ?si F rfl rfl rfl (H.whole 1 rfl) ?_
 case si=>exact info_size sizeOf29
 clear F a;intro a F;refine sCall call15 F rfl rfl rfl (right_any' _ p _ (hP0.own H) (hN.own H)) ?_;rintro e w ⟨rfl,hb⟩;replace H:=H.grow hb;clear hb;refine ⟨_,rfl,?_⟩;clear F a;intro a F;refine sBin F rfl rfl rfl rfl bNeq (qNK hK3 ?_);clear hK3;clear F a;intro a F
 refine cIf F rfl (fun h12=>?_) (fun h12=>?_)
 ·
  replace h12:=bneT h12;refine cSR fun K4 hK4=>sAs F rfl rfl rfl (qNK hK4 ?_);clear hK4;clear F a;intro a F;refine wp_ret ?_;simp only [Exit.then];refine bRet results103 F rfl ?_
  refine ⟨retB ?_,H.below⟩
  clear F H
  first
    | exact (rightS_err h12).symm
    | (exfalso;omega)
    | exact (rightS_thr (j:=j) (by omega) (by rw [threadSt_none (by omega)];exact h28)).symm
    | exact (rightS_thr (j:=j) (by omega) (by rw [threadSt_some hl];exact decide_eq_false (by simp only [cut,Nat.add_zero] at h45;omega))).symm
    | exact (rightS_mem (j:=k) (by omega) (by rw [memSt_out (by omega)];exact beq_false_of_ne h61)).symm
    | (rw [rightS_end h12 (fun i hi=>ht i (by omega)) (fun i hi=>ht2 i (by omega))];first | (rw [show same 96 (cut s 42) zb=true from h68];rfl) | (rw [show same 96 (cut s 42) zb=false from h68];rfl))
 replace h12:=bneF h12;refine wp_skip (hK2 _ _ ?_);clear hK2;refine cSeq (fun K5 hK5=>?_);refine cSR fun K6 hK6=>sFa (f:=0) (k:=0) underlying70 rfl sizeOf63 rfl rfl F rfl rfl rfl (qLrB underlying63 rfl sizeOf63 rfl rfl rfl (H.rangeB0 0 36 rfl (by omega)) (qMv rfl rfl rfl (qNK hK6 ?_)));clear hK6;clear F a;intro a F;refine wp_block ?_
 refine cLoopR [2,3,14] (fun m ups w=>∃ j:Nat,m=4 - j∧ups=[(15,.int .i64 (j:Int))]∧j≤4∧(∀ i,i < j→threadSt p s i=true)∧Own w0 none w [.blk b3 (bs 142 s) 70,.blk b2 ([.string p.name,.slice LA p.locs.length LC,.slice IA p.init.length IC,.slice TA p.threads.length TC,b8 p.ask]++[c1,c2,c3,c4,c5]) 29]) F (4) [(15,.int .i64 ((0:Nat):Int))] (by repeat (first | exact SubR.nil | (apply SubR.cons;· rfl))) ?_ ?_ ?_
 · exact ⟨0,rfl,rfl,by omega,fun i hi=>by omega,H⟩
 · repeat (first | exact trivial | refine Le.cons rfl ?_)
 clear F
 clear H
 intro m ups a w hI F
 obtain ⟨j,rfl,rfl,hj,ht,H⟩:=hI
 refine cSR fun K7 hK7=>sBin F rfl rfl rfl rfl bLss (qNK hK7 ?_);clear hK7;clear F a;intro a F;refine cSeq (fun K8 hK8=>?_)
 refine cIf F rfl (fun h16=>?_) (fun h16=>?_)
 ·
  replace h16:=of_decide_eq_true h16;refine wp_skip (hK8 _ _ ?_);clear hK8;refine cSeq (fun K9 hK9=>?_);refine wp_block ?_;refine cSR fun K10 hK10=>sMv F rfl rfl rfl ?_;clear F a;intro a F
  refine sIdA underlying63 sizeOf62 isAgg62 F rfl rfl rfl rfl ?_ ?_ ?_
  focus omega
  focus omega
  clear F a;intro a F;refine sAlB H zB62 F rfl rfl ?_;clear F a H;intro b6 a w F H;refine sAs F rfl rfl rfl ?_;clear F a;intro a F;refine sSrB H 0 sizeOf62 F rfl rfl rfl rfl (by omega) ?_;clear H;intro w H;rw [lay_all] at H;refine nK hK10 ?_;clear hK10;refine cSeq (fun K11 hK11=>?_);refine cSR fun K12 hK12=>sMv F rfl rfl rfl (qFa (f:=3) (k:=3) underlying29 rfl sizeOf24 rfl rfl rfl rfl rfl (qLd isAgg24 rfl rfl rfl (H.cell 2 rfl rfl) (qLen underlying24 rfl rfl rfl (qBin rfl rfl rfl rfl bGeq (qMv rfl rfl rfl ?_)))));clear F a;intro a F
  refine F.split 24 rfl ?_ ?_ <;> (clear F;intro h24 F)
  ·
   replace h24:=of_decide_eq_true h24;refine sLrB underlying62 rfl sizeOf62 F rfl rfl rfl (H.whole 0 rfl) (qBdB (places:=[(0,1),(1,8)]) zB62 underlying62 (by kernel_rfl) rfl rfl rfl FillB.nil (qBin rfl rfl rfl rfl (bNeY eT62 gT62 rfl) (qPk rfl rfl rfl rfl (qNK hK12 ?_))));clear hK12;clear F a;intro a F
   refine cIf F rfl (fun h28=>?_) (fun h28=>?_)
   ·
    replace h28:=notT h28;refine cSR fun K13 hK13=>sAs F rfl rfl rfl (qNK hK13 ?_);clear hK13;clear F a;intro a F;refine wp_ret ?_;simp only [Exit.inBlock,Exit.then];refine bRet results103 F rfl ?_
    refine ⟨retB ?_,H.below⟩
    clear F H
    first
      | exact (rightS_err h12).symm
      | (exfalso;omega)
      | exact (rightS_thr (j:=j) (by omega) (by rw [threadSt_none (by omega)];exact h28)).symm
      | exact (rightS_thr (j:=j) (by omega) (by rw [threadSt_some hl];exact decide_eq_false (by simp only [cut,Nat.add_zero] at h45;omega))).symm
      | exact (rightS_mem (j:=k) (by omega) (by rw [memSt_out (by omega)];exact beq_false_of_ne h61)).symm
      | (rw [rightS_end h12 (fun i hi=>ht i (by omega)) (fun i hi=>ht2 i (by omega))];first | (rw [show same 96 (cut s 42) zb=true from h68];rfl) | (rw [show same 96 (cut s 42) zb=false from h68];rfl))
   replace h28:=notF h28;refine wp_skip (hK11 _ _ ?_);clear hK11;refine cSeq (fun K14 hK14=>?_);refine cRegRO (by kernel_rfl) H ?_;replace H:=H.drew;refine eTF 0 rfl (by kernel_rfl) F rfl rfl rfl (fun w=>rMv F rfl) H qq0 (qTF 1 rfl (by kernel_rfl) rfl rfl rfl (fun a F w=>rFa (f:=3) (k:=3) underlying29 rfl sizeOf24 rfl rfl F rfl) H qq0 (qT 2 rfl (by kernel_rfl) rfl rfl rfl rfl (fun a F w H=>rLd isAgg24 F rfl (H.cell 2 rfl rfl)) H qq0 (qT 3 rfl (by kernel_rfl) rfl rfl rfl rfl (fun a F w H=>rLen underlying24 F rfl) H qq0 (qTF 4 rfl (by kernel_rfl) rfl rfl rfl (fun a F w=>rBin F rfl rfl bLss) H qq0 (qTF 5 rfl (by kernel_rfl) rfl rfl rfl (fun a F w=>rMv F rfl) H qq0 ?_)))));clear F a;intro a F
   refine F.split 34 rfl ?_ ?_ <;> (clear F;intro h34 F)
   ·
    replace h34:=of_decide_eq_true h34
    have hjl:j < p.threads.length:=by omega
    obtain ⟨l,hl⟩:∃ l,p.threads[j]? = some l:=⟨_,List.getElem?_eq_getElem hjl⟩
    obtain ⟨bT,oT,BT,CT,rfl,hT1,hT2,hT3⟩:=hp.threads j l hl
    refine eTF 6 rfl (by kernel_rfl) F rfl rfl rfl (fun w=>rFa (f:=0) (k:=0) underlying62 rfl sizeOf5 rfl rfl F rfl) H qq0 (qT 7 rfl (by kernel_rfl) rfl rfl rfl rfl (fun a F w H=>rLd isAgg5 F rfl (H.cellB 0 rfl (by omega))) H qq0 (qTF 8 rfl (by kernel_rfl) rfl rfl rfl (fun a F w=>rCv underlying5 underlying3 F rfl (wrapB _)) H qq0 (qTF 9 rfl (by kernel_rfl) rfl rfl rfl (fun a F w=>rFa (f:=3) (k:=3) underlying29 rfl sizeOf24 rfl rfl F rfl) H qq0 (qT 10 rfl (by kernel_rfl) rfl rfl rfl rfl (fun a F w H=>rLd isAgg24 F rfl (H.cell 2 rfl rfl)) H qq0 (qTF 11 rfl (by kernel_rfl) rfl rfl rfl (fun a F w=>rMv F rfl) H qq0 ?_)))));clear F a;intro a F
    refine eTakeF (k:=12) (i:=12) rfl (by kernel_rfl) F rfl rfl rfl (fun w=>rIx underlying24 sizeOf33 F rfl rfl ?_) H (fun _ _ _ h=>h) ?_
    focus (first | omega | decide | (simp;omega))
    clear F a;intro a F;refine eT 13 rfl (by kernel_rfl) F rfl rfl rfl rfl (fun w H=>rLd isAgg33 F rfl (H.arg hT1)) H qq0 (qT 14 rfl (by kernel_rfl) rfl rfl rfl rfl (fun a F w H=>rLen underlying33 F rfl) H qq0 (qTF 15 rfl (by kernel_rfl) rfl rfl rfl (fun a F w=>rBin F rfl rfl bGtr) H qq0 (qTF 16 rfl (by kernel_rfl) rfl rfl rfl (fun a F w=>rPk F rfl rfl) H qq0 ?_)));clear F a;intro a F;refine eNil (k:=17) (by kernel_rfl) ?_;refine hK14 _ _ ?_;clear hK14
    refine cIf F rfl (fun h45=>?_) (fun h45=>?_)
    ·
     replace h45:=of_decide_eq_true h45;refine cSR fun K15 hK15=>sAs F rfl rfl rfl (qNK hK15 ?_);clear hK15;clear F a;intro a F;refine wp_ret ?_;simp only [Exit.inBlock,Exit.then];refine bRet results103 F rfl ?_
     refine ⟨retB ?_,H.below⟩
     clear F H
     first
       | exact (rightS_err h12).symm
       | (exfalso;omega)
       | exact (rightS_thr (j:=j) (by omega) (by rw [threadSt_none (by omega)];exact h28)).symm
       | exact (rightS_thr (j:=j) (by omega) (by rw [threadSt_some hl];exact decide_eq_false (by simp only [cut,Nat.add_zero] at h45;omega))).symm
       | exact (rightS_mem (j:=k) (by omega) (by rw [memSt_out (by omega)];exact beq_false_of_ne h61)).symm
       | (rw [rightS_end h12 (fun i hi=>ht i (by omega)) (fun i hi=>ht2 i (by omega))];first | (rw [show same 96 (cut s 42) zb=true from h68];rfl) | (rw [show same 96 (cut s 42) zb=false from h68];rfl))
    replace h45:=of_decide_eq_false h45;refine wp_skip (hK9 _ _ (cReg ?_));clear hK9
    refine sBin F rfl rfl rfl rfl (bAddN (j:=1) ?_) ?_
    focus omega
    clear F a;intro a F;refine sMv F rfl rfl rfl ?_;clear F a;intro a F;refine sNil ?_
    refine ⟨4 - (j+1),by omega,_,⟨j+1,rfl,rfl,by omega,below_succ ht ?_,H.tail⟩,F.to (by repeat (first | exact trivial | refine Le.cons rfl ?_))⟩
    clear F H
    first
      | (exfalso;omega)
      | (rw [threadSt_some hl];exact decide_eq_true (by simp only [cut,Nat.add_zero] at h45;omega))
      | (rw [threadSt_none (by omega)];exact h28)
   replace h34:=of_decide_eq_false h34;refine eSF 6 rfl (by kernel_rfl) F rfl rfl rfl H qq0 (qSF 7 rfl (by kernel_rfl) rfl rfl rfl H qq0 (qSF 8 rfl (by kernel_rfl) rfl rfl rfl H qq0 (qSF 9 rfl (by kernel_rfl) rfl rfl rfl H qq0 (qSF 10 rfl (by kernel_rfl) rfl rfl rfl H qq0 (qSF 11 rfl (by kernel_rfl) rfl rfl rfl H qq0 (qSF 12 rfl (by kernel_rfl) rfl rfl rfl H qq0 (qSF 13 rfl (by kernel_rfl) rfl rfl rfl H qq0 (qSF 14 rfl (by kernel_rfl) rfl rfl rfl H qq0 (qSF 15 rfl (by kernel_rfl) rfl rfl rfl H qq0 (qTF 16 rfl (by kernel_rfl) rfl rfl rfl (fun a F w=>rPk F rfl rfl) H qq0 ?_))))))))));clear F a;intro a F;refine eNil (k:=17) (by kernel_rfl) ?_;refine hK14 _ _ ?_;clear hK14;refine cIfF F rfl ?_;refine wp_skip (hK9 _ _ (cReg ?_));clear hK9
   refine sBin F rfl rfl rfl rfl (bAddN (j:=1) ?_) ?_
   focus omega
   clear F a;intro a F;refine sMv F rfl rfl rfl ?_;clear F a;intro a F;refine sNil ?_
   refine ⟨4 - (j+1),by omega,_,⟨j+1,rfl,rfl,by omega,below_succ ht ?_,H.tail⟩,F.to (by repeat (first | exact trivial | refine Le.cons rfl ?_))⟩
   clear F H
   first
     | (exfalso;omega)
     | (rw [threadSt_some hl];exact decide_eq_true (by simp only [cut,Nat.add_zero] at h45;omega))
     | (rw [threadSt_none (by omega)];exact h28)
  replace h24:=of_decide_eq_false h24;refine sSk F rfl rfl (qSk rfl rfl (qSk rfl rfl (qPk rfl rfl rfl rfl (qNK hK12 ?_))));clear hK12;clear F a;intro a F;refine cIfF F rfl ?_;refine wp_skip (hK11 _ _ ?_);clear hK11;refine cSeq (fun K16 hK16=>?_);refine cRegRO (by kernel_rfl) H ?_;replace H:=H.drew;refine eTF 0 rfl (by kernel_rfl) F rfl rfl rfl (fun w=>rMv F rfl) H qq0 (qTF 1 rfl (by kernel_rfl) rfl rfl rfl (fun a F w=>rFa (f:=3) (k:=3) underlying29 rfl sizeOf24 rfl rfl F rfl) H qq0 (qT 2 rfl (by kernel_rfl) rfl rfl rfl rfl (fun a F w H=>rLd isAgg24 F rfl (H.cell 2 rfl rfl)) H qq0 (qT 3 rfl (by kernel_rfl) rfl rfl rfl rfl (fun a F w H=>rLen underlying24 F rfl) H qq0 (qTF 4 rfl (by kernel_rfl) rfl rfl rfl (fun a F w=>rBin F rfl rfl bLss) H qq0 (qTF 5 rfl (by kernel_rfl) rfl rfl rfl (fun a F w=>rMv F rfl) H qq0 ?_)))));clear F a;intro a F
  refine F.split 34 rfl ?_ ?_ <;> (clear F;intro h34 F)
  ·
   replace h34:=of_decide_eq_true h34
   have hjl:j < p.threads.length:=by omega
   obtain ⟨l,hl⟩:∃ l,p.threads[j]? = some l:=⟨_,List.getElem?_eq_getElem hjl⟩
   obtain ⟨bT,oT,BT,CT,rfl,hT1,hT2,hT3⟩:=hp.threads j l hl
   refine eTF 6 rfl (by kernel_rfl) F rfl rfl rfl (fun w=>rFa (f:=0) (k:=0) underlying62 rfl sizeOf5 rfl rfl F rfl) H qq0 (qT 7 rfl (by kernel_rfl) rfl rfl rfl rfl (fun a F w H=>rLd isAgg5 F rfl (H.cellB 0 rfl (by omega))) H qq0 (qTF 8 rfl (by kernel_rfl) rfl rfl rfl (fun a F w=>rCv underlying5 underlying3 F rfl (wrapB _)) H qq0 (qTF 9 rfl (by kernel_rfl) rfl rfl rfl (fun a F w=>rFa (f:=3) (k:=3) underlying29 rfl sizeOf24 rfl rfl F rfl) H qq0 (qT 10 rfl (by kernel_rfl) rfl rfl rfl rfl (fun a F w H=>rLd isAgg24 F rfl (H.cell 2 rfl rfl)) H qq0 (qTF 11 rfl (by kernel_rfl) rfl rfl rfl (fun a F w=>rMv F rfl) H qq0 ?_)))));clear F a;intro a F
   refine eTakeF (k:=12) (i:=12) rfl (by kernel_rfl) F rfl rfl rfl (fun w=>rIx underlying24 sizeOf33 F rfl rfl ?_) H (fun _ _ _ h=>h) ?_
   focus (first | omega | decide | (simp;omega))
   clear F a;intro a F;refine eT 13 rfl (by kernel_rfl) F rfl rfl rfl rfl (fun w H=>rLd isAgg33 F rfl (H.arg hT1)) H qq0 (qT 14 rfl (by kernel_rfl) rfl rfl rfl rfl (fun a F w H=>rLen underlying33 F rfl) H qq0 (qTF 15 rfl (by kernel_rfl) rfl rfl rfl (fun a F w=>rBin F rfl rfl bGtr) H qq0 (qTF 16 rfl (by kernel_rfl) rfl rfl rfl (fun a F w=>rPk F rfl rfl) H qq0 ?_)));clear F a;intro a F;refine eNil (k:=17) (by kernel_rfl) ?_;refine hK16 _ _ ?_;clear hK16
   refine cIf F rfl (fun h45=>?_) (fun h45=>?_)
   ·
    replace h45:=of_decide_eq_true h45;refine cSR fun K17 hK17=>sAs F rfl rfl rfl (qNK hK17 ?_);clear hK17;clear F a;intro a F;refine wp_ret ?_;simp only [Exit.inBlock,Exit.then];refine bRet results103 F rfl ?_
    refine ⟨retB ?_,H.below⟩
    clear F H
    first
      | exact (rightS_err h12).symm
      | (exfalso;omega)
      | exact (rightS_thr (j:=j) (by omega) (by rw [threadSt_none (by omega)];exact h28)).symm
      | exact (rightS_thr (j:=j) (by omega) (by rw [threadSt_some hl];exact decide_eq_false (by simp only [cut,Nat.add_zero] at h45;omega))).symm
      | exact (rightS_mem (j:=k) (by omega) (by rw [memSt_out (by omega)];exact beq_false_of_ne h61)).symm
      | (rw [rightS_end h12 (fun i hi=>ht i (by omega)) (fun i hi=>ht2 i (by omega))];first | (rw [show same 96 (cut s 42) zb=true from h68];rfl) | (rw [show same 96 (cut s 42) zb=false from h68];rfl))
   replace h45:=of_decide_eq_false h45;refine wp_skip (hK9 _ _ (cReg ?_));clear hK9
   refine sBin F rfl rfl rfl rfl (bAddN (j:=1) ?_) ?_
   focus omega
   clear F a;intro a F;refine sMv F rfl rfl rfl ?_;clear F a;intro a F;refine sNil ?_
   refine ⟨4 - (j+1),by omega,_,⟨j+1,rfl,rfl,by omega,below_succ ht ?_,H.tail⟩,F.to (by repeat (first | exact trivial | refine Le.cons rfl ?_))⟩
   clear F H
   first
     | (exfalso;omega)
     | (rw [threadSt_some hl];exact decide_eq_true (by simp only [cut,Nat.add_zero] at h45;omega))
     | (rw [threadSt_none (by omega)];exact h28)
  replace h34:=of_decide_eq_false h34;refine eSF 6 rfl (by kernel_rfl) F rfl rfl rfl H qq0 (qSF 7 rfl (by kernel_rfl) rfl rfl rfl H qq0 (qSF 8 rfl (by kernel_rfl) rfl rfl rfl H qq0 (qSF 9 rfl (by kernel_rfl) rfl rfl rfl H qq0 (qSF 10 rfl (by kernel_rfl) rfl rfl rfl H qq0 (qSF 11 rfl (by kernel_rfl) rfl rfl rfl H qq0 (qSF 12 rfl (by kernel_rfl) rfl rfl rfl H qq0 (qSF 13 rfl (by kernel_rfl) rfl rfl rfl H qq0 (qSF 14 rfl (by kernel_rfl) rfl rfl rfl H qq0 (qSF 15 rfl (by kernel_rfl) rfl rfl rfl H qq0 (qTF 16 rfl (by kernel_rfl) rfl rfl rfl (fun a F w=>rPk F rfl rfl) H qq0 ?_))))))))));clear F a;intro a F;refine eNil (k:=17) (by kernel_rfl) ?_;refine hK16 _ _ ?_;clear hK16;refine cIfF F rfl ?_;refine wp_skip (hK9 _ _ (cReg ?_));clear hK9
  refine sBin F rfl rfl rfl rfl (bAddN (j:=1) ?_) ?_
  focus omega
  clear F a;intro a F;refine sMv F rfl rfl rfl ?_;clear F a;intro a F;refine sNil ?_
  refine ⟨4 - (j+1),by omega,_,⟨j+1,rfl,rfl,by omega,below_succ ht ?_,H.tail⟩,F.to (by repeat (first | exact trivial | refine Le.cons rfl ?_))⟩
  clear F H
  first
    | (exfalso;omega)
    | (rw [threadSt_some hl];exact decide_eq_true (by simp only [cut,Nat.add_zero] at h45;omega))
    | (rw [threadSt_none (by omega)];exact h28)
 replace h16:=of_decide_eq_false h16;refine wp_exit ?_;refine hK5 _ _ ?_;clear hK5;refine cSeq (fun K18 hK18=>?_);refine cSR fun K19 hK19=>sFa (f:=1) (k:=36) underlying70 rfl sizeOf45 rfl rfl F rfl rfl rfl (qLrB underlying45 rfl sizeOf45 rfl rfl rfl (H.rangeB 0 _ 6 rfl (by omega)) (qMv rfl rfl rfl (qNK hK19 ?_)));clear hK19;clear F a;intro a F;refine wp_block ?_
 refine cLoopR [2,3,48] (fun m ups w=>∃ j:Nat,m=6 - j∧ups=[(49,.int .i64 (j:Int))]∧j≤6∧(∀ i,i < j→memSt p s i=true)∧Own w0 none w [.blk b3 (bs 142 s) 70,.blk b2 ([.string p.name,.slice LA p.locs.length LC,.slice IA p.init.length IC,.slice TA p.threads.length TC,b8 p.ask]++[c1,c2,c3,c4,c5]) 29]) F (6) [(49,.int .i64 ((0:Nat):Int))] (by repeat (first | exact SubR.nil | (apply SubR.cons;· rfl))) ?_ ?_ ?_
 · exact ⟨0,rfl,rfl,by omega,fun i hi=>by omega,H⟩
 · repeat (first | exact trivial | refine Le.cons rfl ?_)
 clear F
 clear H
 intro m ups a w hI F
 obtain ⟨k,rfl,rfl,hk,ht2,H⟩:=hI
 refine cSR fun K20 hK20=>sBin F rfl rfl rfl rfl bLss (qNK hK20 ?_);clear hK20;clear F a;intro a F;refine cSeq (fun K21 hK21=>?_)
 refine cIf F rfl (fun h50=>?_) (fun h50=>?_)
 ·
  replace h50:=of_decide_eq_true h50;refine wp_skip (hK21 _ _ ?_);clear hK21;refine cSeq (fun K22 hK22=>?_);refine wp_block ?_;refine cSR fun K23 hK23=>sMv F rfl rfl rfl ?_;clear F a;intro a F
  refine sIdV underlying45 sizeOf5 isAgg5 F rfl rfl rfl rfl ?_ ?_ ?_
  focus omega
  focus omega
  clear F a;intro a F;refine sAs F rfl rfl rfl (qAs rfl rfl rfl (qNK hK23 (qSR fun K24 hK24=>qMv rfl rfl rfl (qFa (f:=1) (k:=1) underlying29 rfl sizeOf22 rfl rfl rfl rfl rfl (qLd isAgg22 rfl rfl rfl (H.cell 1 rfl rfl) (qLen underlying22 rfl rfl rfl (qBin rfl rfl rfl rfl bGeq (qMv rfl rfl rfl ?_))))))));clear hK23;clear F a;intro a F
  refine F.split 58 rfl ?_ ?_ <;> (clear F;intro h58 F)
  ·
   replace h58:=of_decide_eq_true h58;refine sMv F rfl rfl rfl (qBin rfl rfl rfl rfl (bNeqB (y:=0)) (qPk rfl rfl rfl rfl (qNK hK24 ?_)));clear hK24;clear F a;intro a F
   refine cIf F rfl (fun h61=>?_) (fun h61=>?_)
   ·
    replace h61:=bneT h61;refine cSR fun K25 hK25=>sAs F rfl rfl rfl (qNK hK25 ?_);clear hK25;clear F a;intro a F;refine wp_ret ?_;simp only [Exit.inBlock,Exit.then];refine bRet results103 F rfl ?_
    refine ⟨retB ?_,H.below⟩
    clear F H
    first
      | exact (rightS_err h12).symm
      | (exfalso;omega)
      | exact (rightS_thr (j:=j) (by omega) (by rw [threadSt_none (by omega)];exact h28)).symm
      | exact (rightS_thr (j:=j) (by omega) (by rw [threadSt_some hl];exact decide_eq_false (by simp only [cut,Nat.add_zero] at h45;omega))).symm
      | exact (rightS_mem (j:=k) (by omega) (by rw [memSt_out (by omega)];exact beq_false_of_ne h61)).symm
      | (rw [rightS_end h12 (fun i hi=>ht i (by omega)) (fun i hi=>ht2 i (by omega))];first | (rw [show same 96 (cut s 42) zb=true from h68];rfl) | (rw [show same 96 (cut s 42) zb=false from h68];rfl))
   replace h61:=bneF h61;refine wp_skip (hK22 _ _ (cReg ?_));clear hK22
   refine sBin F rfl rfl rfl rfl (bAddN (j:=1) ?_) ?_
   focus omega
   clear F a;intro a F;refine sMv F rfl rfl rfl ?_;clear F a;intro a F;refine sNil ?_
   refine ⟨6 - (k+1),by omega,_,⟨k+1,rfl,rfl,by omega,below_succ ht2 ?_,H⟩,F.to (by repeat (first | exact trivial | refine Le.cons rfl ?_))⟩
   clear F H
   first
     | (rw [memSt_out (by omega)];exact beq_iff_eq.2 h61)
     | exact memSt_in (by omega)
  replace h58:=of_decide_eq_false h58;refine sSk F rfl rfl (qSk rfl rfl (qPk rfl rfl rfl rfl (qNK hK24 ?_)));clear hK24;clear F a;intro a F;refine cIfF F rfl ?_;refine wp_skip (hK22 _ _ (cReg ?_));clear hK22
  refine sBin F rfl rfl rfl rfl (bAddN (j:=1) ?_) ?_
  focus omega
  clear F a;intro a F;refine sMv F rfl rfl rfl ?_;clear F a;intro a F;refine sNil ?_
  refine ⟨6 - (k+1),by omega,_,⟨k+1,rfl,rfl,by omega,below_succ ht2 ?_,H⟩,F.to (by repeat (first | exact trivial | refine Le.cons rfl ?_))⟩
  clear F H
  first
    | (rw [memSt_out (by omega)];exact beq_iff_eq.2 h61)
    | exact memSt_in (by omega)
 replace h50:=of_decide_eq_false h50;refine wp_exit ?_;refine hK18 _ _ (cSR fun K26 hK26=>?_);clear hK18;refine sAlB H zB70 F rfl rfl ?_;clear F a H;intro b9 a w F H;refine nK hK26 (cSR fun K27 hK27=>sFa (f:=2) (k:=42) underlying70 rfl sizeOf67 rfl rfl F rfl rfl rfl (qLrB underlying67 rfl sizeOf67 rfl rfl rfl (H.rangeB 1 _ 96 rfl (by omega)) (qFa (f:=2) (k:=42) underlying70 rfl sizeOf67 rfl rfl rfl rfl rfl (qLrB underlying67 rfl sizeOf67 rfl rfl rfl (H.rangeB 0 _ 96 rfl (by omega)) (qBin rfl rfl rfl rfl (bEqY eT67 gT67 rfl) (qMv rfl rfl rfl ?_))))));clear hK26;clear F a;intro a F
 refine F.split 68 rfl ?_ ?_ <;> (clear F;intro h68 F)
 ·
  refine sFa (f:=3) (k:=138) underlying70 rfl sizeOf68 rfl rfl F rfl rfl rfl (qLrB underlying68 rfl sizeOf68 rfl rfl rfl (H.rangeB 1 _ 4 rfl (by omega)) (qFa (f:=3) (k:=138) underlying70 rfl sizeOf68 rfl rfl rfl rfl rfl (qLrB underlying68 rfl sizeOf68 rfl rfl rfl (H.rangeB 0 _ 4 rfl (by omega)) (qBin rfl rfl rfl rfl (bEqY eT68 gT68 rfl) (qPk rfl rfl rfl rfl (qAs rfl rfl rfl (qNK hK27 ?_)))))));clear hK27;clear F a;intro a F;refine wp_ret ?_;refine bRet results103 F rfl ?_
  refine ⟨retB ?_,H.below⟩
  clear F H
  first
    | exact (rightS_err h12).symm
    | (exfalso;omega)
    | exact (rightS_thr (j:=j) (by omega) (by rw [threadSt_none (by omega)];exact h28)).symm
    | exact (rightS_thr (j:=j) (by omega) (by rw [threadSt_some hl];exact decide_eq_false (by simp only [cut,Nat.add_zero] at h45;omega))).symm
    | exact (rightS_mem (j:=k) (by omega) (by rw [memSt_out (by omega)];exact beq_false_of_ne h61)).symm
    | (rw [rightS_end h12 (fun i hi=>ht i (by omega)) (fun i hi=>ht2 i (by omega))];first | (rw [show same 96 (cut s 42) zb=true from h68];rfl) | (rw [show same 96 (cut s 42) zb=false from h68];rfl))
 refine sSk F rfl rfl (qSk rfl rfl (qSk rfl rfl (qSk rfl rfl (qSk rfl rfl (qPk rfl rfl rfl rfl (qAs rfl rfl rfl (qNK hK27 ?_)))))));clear hK27;clear F a;intro a F;refine wp_ret ?_;refine bRet results103 F rfl ?_
 refine ⟨retB ?_,H.below⟩
 clear F H
 first
   | exact (rightS_err h12).symm
   | (exfalso;omega)
   | exact (rightS_thr (j:=j) (by omega) (by rw [threadSt_none (by omega)];exact h28)).symm
   | exact (rightS_thr (j:=j) (by omega) (by rw [threadSt_some hl];exact decide_eq_false (by simp only [cut,Nat.add_zero] at h45;omega))).symm
   | exact (rightS_mem (j:=k) (by omega) (by rw [memSt_out (by omega)];exact beq_false_of_ne h61)).symm
   | (rw [rightS_end h12 (fun i hi=>ht i (by omega)) (fun i hi=>ht2 i (by omega))];first | (rw [show same 96 (cut s 42) zb=true from h68];rfl) | (rw [show same 96 (cut s 42) zb=false from h68];rfl))
end Go.Proofs.YtbgnapmaimkpkaaGreatDoor
namespace Go.Proofs.YtbgnapmaimkpkaaGreatDoor
open Go.Proofs.Tryz
open Go.RowKit
set_option maxRecDepth 100000
theorem start_any (cs:List Value) (p:Prg) (w0:World) (hP:ProgAt w0 cs p) (hN:NeedsAt w0) :
   Calls Tryz.prog 26 #[.agg cs.toArray] w0 fun e w'=>e = .returned (.tuple #[.agg (bs 142 (startS p)).toArray,.int .i64 (startE p)])∧Below w0.heap.size w0 w':=by
 have H:=Own.start w0 none
 have hP0:=hP
 obtain ⟨LA,LC,IA,IC,TA,TC,h,ccs,hp⟩:=hP
 obtain ⟨c1,c2,c3,c4,c5,rfl⟩:=len5 (condAt_len hp.cond)
 have hcs:=hp.cs
 subst hcs;refine enterF func26 rfl ntmps26 rfl (fun a F=>?_);refine cSR fun K1 hK1=>?_;refine sBx H F rfl rfl rfl ?_;clear F a H;intro b1 a w F H;refine sAlB H zB70 F rfl rfl ?_;clear F a H;intro b2 a w F H;refine sAs F rfl rfl rfl (qNK hK1 (qSR fun K2 hK2=>?_));clear hK1;clear F a;intro a F;refine sAlB H zB70 F rfl rfl ?_;clear F a H;intro b4 a w F H;refine nK hK2 ?_;clear hK2;refine cSeq (fun K3 hK3=>?_);refine cSR fun K4 hK4=>?_
 refine sLr underlying29 rfl ?si F rfl rfl rfl (H.whole 2 rfl) ?_
 case si=>exact info_size sizeOf29
 clear F a;intro a F;refine sCall call15 F rfl rfl rfl (right_any' _ p _ (hP0.own H) (hN.own H)) ?_;rintro e w ⟨rfl,hb⟩;replace H:=H.grow hb;clear hb;refine ⟨_,rfl,?_⟩;clear F a;intro a F;refine sBin F rfl rfl rfl rfl bNeq (qNK hK4 ?_);clear hK4;clear F a;intro a F
 refine cIf F rfl (fun h7=>?_) (fun h7=>?_)
 ·
  replace h7:=bneT h7;refine cSR fun K5 hK5=>sLrB underlying70 rfl sizeOf70 F rfl rfl rfl (H.whole 0 rfl) ?_;clear F a;intro a F;refine sSrB H 1 sizeOf70 F rfl rfl rfl rfl (by omega) ?_;clear H;intro w H;rw [lay_all] at H;refine sAs F rfl rfl rfl (qNK hK5 ?_);clear hK5;clear F a;intro a F;refine wp_ret ?_;simp only [Exit.then];refine bRetB1 results26 F rfl rfl underlying70 rfl sizeOf70 H 1 rfl ?_
  first | exact ⟨by rw [startS,startE,if_neg h7,if_neg h7],H.below⟩ | exact ⟨by rw [startS,startE,if_pos h7,if_pos h7];rfl,H.below⟩
 replace h7:=bneF h7;refine wp_skip (hK3 _ _ ?_);clear hK3;refine cSeq (fun K6 hK6=>?_);refine cRegRO (by kernel_rfl) H ?_;replace H:=H.drew;refine eTF 0 rfl (by kernel_rfl) F rfl rfl rfl (fun w=>rFa (f:=1) (k:=36) underlying70 rfl sizeOf45 rfl rfl F rfl) H qq0 (qT 1 rfl (by kernel_rfl) rfl rfl rfl rfl (fun a F w H=>rSlA underlying45 sizeOf5 F rfl) H qq0 (qTF 2 rfl (by kernel_rfl) rfl rfl rfl (fun a F w=>rFa (f:=2) (k:=2) underlying29 rfl sizeOf23 rfl rfl F rfl) H qq0 (qT 3 rfl (by kernel_rfl) rfl rfl rfl rfl (fun a F w H=>rLd isAgg23 F rfl (H.cell 2 rfl rfl)) H qq0 ?_)));clear F a;intro a F;refine eOne (k:=4) (i:=4) rfl (by kernel_rfl) F rfl (oCpB H 0 underlying23 sizeOf5 F rfl rfl rfl rfl (RowsAt.own hp.init H) rfl (by omega) ?_);clear F a H;intro a w F H;refine ePartO (by kernel_rfl) H ?_;refine eNil (k:=5) (by kernel_rfl) ?_;refine hK6 _ _ (cSR fun K7 hK7=>sLrB underlying70 rfl sizeOf70 F rfl rfl rfl (H.whole 0 rfl) ?_);clear hK6;clear F a;intro a F;refine sSrB H 1 sizeOf70 F rfl rfl rfl rfl (by omega) ?_;clear H;intro w H;rw [lay_all] at H;refine sAs F rfl rfl rfl (qNK hK7 ?_);clear hK7;clear F a;intro a F;refine wp_ret ?_;refine bRetB1 results26 F rfl rfl underlying70 rfl sizeOf70 H 1 rfl ?_
 first | exact ⟨by rw [startS,startE,if_neg h7,if_neg h7],H.below⟩ | exact ⟨by rw [startS,startE,if_pos h7,if_pos h7];rfl,H.below⟩
theorem enabled_any (cs:List Value) (p:Prg) (w0:World) (hP:ProgAt w0 cs p) (hn:p.threads.length≤4) (s:By) :
   Calls Tryz.prog 55 #[.agg cs.toArray,.agg (bs 142 s).toArray] w0 fun e w'=>∃ A c,e = .returned (.slice A (enabledP p s).length c)∧Own w0 none w' [.rws 3 1 (.slice A (enabledP p s).length c) (intRows (enabledP p s))]:=by
 have H:=Own.start w0 none
 obtain ⟨LA,LC,IA,IC,TA,TC,h,ccs,hp⟩:=hP
 obtain ⟨c1,c2,c3,c4,c5,rfl⟩:=len5 (condAt_len hp.cond)
 have hcs:=hp.cs
 subst hcs;refine enterF func55 rfl ntmps55 rfl (fun a F=>?_);refine cSR fun K1 hK1=>?_;refine sBx H F rfl rfl rfl ?_;clear F a H;intro b2 a w F H;refine sBxB H F rfl rfl rfl ?_;clear F a H;intro b3 a w F H;refine sAs F rfl rfl rfl (qNK hK1 (qSR fun K2 hK2=>qAs rfl rfl rfl ?_));clear hK1;clear F a;intro a F
 replace H:=H.nilRws 3 1
 refine nK hK2 ?_;clear hK2;refine cSeq (fun K3 hK3=>?_);refine cSR fun K4 hK4=>sFa (f:=3) (k:=3) underlying29 rfl sizeOf24 rfl rfl F rfl rfl rfl (qLd isAgg24 rfl rfl rfl (H.cell 2 rfl rfl) (qLen underlying24 rfl rfl rfl (qMv rfl rfl rfl (qNK hK4 ?_))));clear hK4;clear F a;intro a F;refine wp_block ?_
 refine cLoopR [3,9,10] (fun m ups w=>∃ (j:Nat) (A:Option Addr) (c:Nat) (l:List Nat),m=p.threads.length - j∧ups=[(5,.slice A l.length c),(11,.int .i64 (j:Int))]∧j≤p.threads.length∧l=(List.range j).filter (mayP p s)∧Own w0 none w [.rws 3 1 (.slice A l.length c) (intRows l),.blk b3 (bs 142 s) 70,.blk b2 ([.string p.name,.slice LA p.locs.length LC,.slice IA p.init.length IC,.slice TA p.threads.length TC,b8 p.ask]++[c1,c2,c3,c4,c5]) 29]) F (p.threads.length) [(5,.slice none 0 0),(11,.int .i64 ((0:Nat):Int))] (by repeat (first | exact SubR.nil | (apply SubR.cons;· rfl))) ?_ ?_ ?_
 · exact ⟨0,none,0,[],rfl,rfl,by omega,rfl,H⟩
 · repeat (first | exact trivial | refine Le.cons rfl ?_)
 clear F
 clear H
 intro m ups a w hI F
 obtain ⟨j,A,c,l,rfl,rfl,hj,hl,H⟩:=hI
 refine cSR fun K5 hK5=>sBin F rfl rfl rfl rfl bLss (qNK hK5 ?_);clear hK5;clear F a;intro a F;refine cSeq (fun K6 hK6=>?_)
 refine cIf F rfl (fun h12=>?_) (fun h12=>?_)
 ·
  replace h12:=of_decide_eq_true h12
  have hjl:j < p.threads.length:=by omega
  obtain ⟨q,hq⟩:∃ q,p.threads[j]? = some q:=⟨_,List.getElem?_eq_getElem hjl⟩
  obtain ⟨bT,oT,BT,CT,rfl,hT1,hT2,hT3⟩:=hp.threads j q hq
  refine wp_skip (hK6 _ _ ?_);clear hK6;refine cSeq (fun K7 hK7=>?_);refine wp_block ?_;refine cSR fun K8 hK8=>sMv F rfl rfl rfl ?_;clear F a;intro a F
  refine sIx underlying24 sizeOf33 F rfl rfl rfl rfl ?_ ?_
  focus (first | omega | decide | (simp;omega))
  clear F a;intro a F;refine sLd isAgg33 F rfl rfl rfl (H.arg hT1) (qAs rfl rfl rfl (qAs rfl rfl rfl (qNK hK8 (qSR fun K9 hK9=>qMv rfl rfl rfl (qFa (f:=0) (k:=0) underlying70 rfl sizeOf63 rfl rfl rfl rfl rfl ?_)))));clear hK8;clear F a;intro a F
  refine sIaZ underlying63 sizeOf62 F rfl rfl rfl rfl ?_ ?_
  focus (first | omega | decide | (simp;omega))
  clear F a;intro a F;refine sFaZ (f:=0) underlying62 rfl sizeOf5 rfl rfl F rfl rfl rfl (qLd isAgg5 rfl rfl rfl (H.cellB 1 rfl (by omega)) (qCv underlying5 underlying3 rfl rfl rfl (wrapB _) (qMv rfl rfl rfl (qLen underlying33 rfl rfl rfl (qBin rfl rfl rfl rfl bLss (qNK hK9 ?_))))));clear hK9;clear F a;intro a F
  refine cIf F rfl (fun h24=>?_) (fun h24=>?_)
  ·
   replace h24:=of_decide_eq_true h24;refine cReg (sMv F rfl rfl rfl (qMv rfl rfl rfl ?_));clear F a;intro a F;refine sBs1 H underlying83 sizeOf3 zeroValue3 rfl F rfl rfl rfl rfl ?_;clear F a H;intro b27 a w F H
   refine sApp1 (bytes:=8) H 1 underlying83 typeInfo3 rfl rfl rfl rfl rfl rfl F rfl rfl rfl rfl rfl (H.whole 0 rfl) rfl ?s1 ?s2 ?_
   case s1=>first | rfl | (repeat (first | exact one_nil | (apply one_cons;· first | rfl | assumption | exact one_bif rfl rfl)))
   case s2=>(rw [intRows_length];have:=List.length_filter_le (mayP p s) (List.range j);rw [← hl,List.length_range] at this;omega)
   clear F a H;intro A28 c28 a w F H;refine sAs F rfl rfl rfl (qNK hK7 (qReg ?_));clear hK7;clear F a;intro a F
   refine sBin F rfl rfl rfl rfl (bAddN (j:=1) ?_) ?_
   focus omega
   clear F a;intro a F;refine sMv F rfl rfl rfl ?_;clear F a;intro a F;refine sNil ?_
   have hs:=range_filter_succ (mayP p s) j
   rw [mayP_at hq,← hl] at hs
   first
     | (rw [if_pos (decide_eq_true (by omega))] at hs
        rw [← intRows_append,intRows_length] at H F
        exact ⟨_,by omega,_,⟨j+1,A28,c28,l++[j],rfl,rfl,by omega,hs.symm,H.tail⟩,F.to (by repeat (first | exact trivial | refine Le.cons rfl ?_))⟩)
     | (rw [if_neg (by rw [decide_eq_true_eq];omega)] at hs
        exact ⟨_,by omega,_,⟨j+1,A,c,l,rfl,rfl,by omega,hs.symm,H.tail⟩,F.to (by repeat (first | exact trivial | refine Le.cons rfl ?_))⟩)
  replace h24:=of_decide_eq_false h24;refine wp_skip (hK7 _ _ (cReg ?_));clear hK7
  refine sBin F rfl rfl rfl rfl (bAddN (j:=1) ?_) ?_
  focus omega
  clear F a;intro a F;refine sMv F rfl rfl rfl ?_;clear F a;intro a F;refine sNil ?_
  have hs:=range_filter_succ (mayP p s) j
  rw [mayP_at hq,← hl] at hs
  first
    | (rw [if_pos (decide_eq_true (by omega))] at hs
       rw [← intRows_append,intRows_length] at H F
       exact ⟨_,by omega,_,⟨j+1,A28,c28,l++[j],rfl,rfl,by omega,hs.symm,H⟩,F.to (by repeat (first | exact trivial | refine Le.cons rfl ?_))⟩)
    | (rw [if_neg (by rw [decide_eq_true_eq];omega)] at hs
       exact ⟨_,by omega,_,⟨j+1,A,c,l,rfl,rfl,by omega,hs.symm,H⟩,F.to (by repeat (first | exact trivial | refine Le.cons rfl ?_))⟩)
 replace h12:=of_decide_eq_false h12;refine wp_exit ?_;refine hK3 _ _ (cSR fun K10 hK10=>sMv F rfl rfl rfl (qAs rfl rfl rfl (qNK hK10 ?_)));clear hK3 hK10;clear F a;intro a F;refine wp_ret ?_;refine bRet results55 F rfl ?_
 obtain rfl:j=p.threads.length:=by omega
 rw [← enabledP] at hl;subst hl
 exact ⟨A,c,rfl,H.pick 0 rfl⟩
end Go.Proofs.YtbgnapmaimkpkaaGreatDoor
namespace Go.Proofs.YtbgnapmaimkpkaaGreatDoor
open Go.Proofs.Tryz
open Go.RowKit
set_option maxRecDepth 100000
theorem fine {p:Prg} (h:rightErr p=0) {t:Nat} {l:List Ins} {i:Nat} {x:Ins} (hl:p.threads[t]? = some l) (hx:l[i]? = some x):stepFine x:=by
 have hv:=valid h
 have hi:=inses_at (hv.ins t l hl) hx
 have h0:=op_cases x.op (ins_cond hi 0 (by omega))
 have h2:decide (x.dst < 8)=true:=ins_cond hi 2 (by omega)
 have hd:x.dst.toNat < 8:=of_decide_eq_true h2
 have h3:(!hasB x.op 2 || decide ((x.loc.toNat:Int) < (p.locs.length:Int)))=true:=ins_cond hi 3 (by omega)
 have hl6:=hv.locs6
 have hloc:hasB x.op 2=true→x.loc.toNat < 6:=fun hb=>by
   rw [hb] at h3
   have:((x.loc.toNat:Int) < (p.locs.length:Int)):=by simpa using h3
   omega
 rcases h0 with h | h | h | h | h | h | h | h
 · exact .inr ⟨by simp [isLocal,h],by simp [isFar,h],hloc (by rw [h];decide),fun _=>hd⟩
 · exact .inr ⟨by simp [isLocal,h],by simp [isFar,h],hloc (by rw [h];decide),fun _=>hd⟩
 · exact .inl (by simp [isLocal,h])
 · exact .inr ⟨by simp [isLocal,h],by simp [isFar,h],hloc (by rw [h];decide),fun _=>hd⟩
 · exact .inr ⟨by simp [isLocal,h],by simp [isFar,h],hloc (by rw [h];decide),fun _=>hd⟩
 · exact .inr ⟨by simp [isLocal,h],by simp [isFar,h],hloc (by rw [h];decide),fun _=>hd⟩
 · exact .inl (by simp [isLocal,h])
 · exact .inl (by simp [isLocal,h])
theorem moves_any (cs:List Value) (p:Prg) (w0:World) (hP:ProgAt w0 cs p) (hN:NeedsAt w0) (s:By) :
   Calls Tryz.prog 141 #[.agg cs.toArray,.agg (bs 142 s).toArray] w0 fun e w'=>∃ A c,e = .returned (.slice A (movesP p s).length c)∧Own w0 none w' [.rws 3 1 (.slice A (movesP p s).length c) (intRows (movesP p s))]:=by
 have H:=Own.start w0 none
 obtain ⟨d1,d2,d3,d4,d5,d6,d7,d8,d9,d10,rfl⟩:=hP.len10
 refine enterF func141 rfl ntmps141 rfl (fun a F=>?_);refine cSR fun K1 hK1=>?_;refine sBx H F rfl rfl rfl ?_;clear F a H;intro b2 a w F H;refine sBxB H F rfl rfl rfl ?_;clear F a H;intro b3 a w F H;refine sAs F rfl rfl rfl (qNK hK1 ?_);clear hK1;clear F a;intro a F;refine cSeq (fun K2 hK2=>?_);refine cSR fun K3 hK3=>?_
 refine sLr underlying29 rfl ?si F rfl rfl rfl (H.whole 1 rfl) ?_
 case si=>exact info_size sizeOf29
 clear F a;intro a F;refine sLrB underlying70 rfl sizeOf70 F rfl rfl rfl (H.whole 0 rfl) ?_;clear F a;intro a F;refine sCall call103 F rfl rfl rfl (rightA_any _ p _ (hP.own H) (hN.own H) s) ?_;rintro e w ⟨rfl,hb⟩;replace H:=H.grow hb;clear hb;refine ⟨_,rfl,?_⟩;clear F a;intro a F;refine sNot F rfl rfl rfl (qNK hK3 ?_);clear hK3;clear F a;intro a F
 refine cIf F rfl (fun h8=>?_) (fun h8=>?_)
 ·
  replace h8:=notT h8;refine cSR fun K4 hK4=>sAs F rfl rfl rfl (qNK hK4 ?_);clear hK4;clear F a;intro a F;refine wp_ret ?_;simp only [Exit.then];refine bRet results141 F rfl ?_
  first
    | exact ⟨A,c,by rw [movesP,if_pos hr],by rw [movesP,if_pos hr];exact H.pick 0 rfl⟩
    | exact ⟨none,0,by rw [movesP,if_neg (by rw [h8];simp)];rfl,by rw [movesP,if_neg (by rw [h8];simp)];exact (H.nilRws _ _).pick 0 rfl⟩
 replace h8:=notF h8
 have hr:rightS p s=true:=h8
 have hv:=valid (right_of hr)
 refine wp_skip (hK2 _ _ (cSR fun K5 hK5=>?_));clear hK2
 refine sLr underlying29 rfl ?si F rfl rfl rfl (H.whole 1 rfl) ?_
 case si=>exact info_size sizeOf29
 clear F a;intro a F;refine sLrB underlying70 rfl sizeOf70 F rfl rfl rfl (H.whole 0 rfl) ?_;clear F a;intro a F;refine sCall call55 F rfl rfl rfl (enabled_any _ p _ (hP.own H) hv.thr4 s) ?_;rintro e w ⟨A,c,rfl,H2⟩;replace H:=H.join H2;clear H2;refine ⟨_,rfl,?_⟩;clear F a;intro a F;refine sAs F rfl rfl rfl (qNK hK5 ?_);clear hK5;clear F a;intro a F;refine wp_ret ?_;refine bRet results141 F rfl ?_
 first
   | exact ⟨A,c,by rw [movesP,if_pos hr],by rw [movesP,if_pos hr];exact H.pick 0 rfl⟩
   | exact ⟨none,0,by rw [movesP,if_neg (by rw [h8];simp)];rfl,by rw [movesP,if_neg (by rw [h8];simp)];exact (H.nilRws _ _).pick 0 rfl⟩
theorem final_any (s:By) (w0:World) :
   Calls Tryz.prog 29 #[.agg (bs 142 s).toArray] w0 fun e w'=>e = .returned (.agg (bs 38 (finalP s)).toArray)∧Below w0.heap.size w0 w':=by
 have H:=Own.start w0 none
 refine enterF func29 rfl ntmps29 rfl (fun a F=>?_);refine cSR fun K1 hK1=>?_;refine sBxB H F rfl rfl rfl ?_;clear F a H;intro b1 a w F H;refine sAlB H zB47 F rfl rfl ?_;clear F a H;intro b2 a w F H;refine nK hK1 (cSR fun K2 hK2=>sFa (f:=1) (k:=36) underlying70 rfl sizeOf45 rfl rfl F rfl rfl rfl (qLrB underlying45 rfl sizeOf45 rfl rfl rfl (H.rangeB 1 _ 6 rfl (by omega)) (qBdB (places:=[(0,32),(32,6)]) zB47 underlying47 (by kernel_rfl) rfl rfl rfl (FillB.row rfl rfl FillB.nil) ?_)));clear hK1;clear F a;intro a F;refine sAlB H zB47 F rfl rfl ?_;clear F a H;intro b3 a w F H;refine sSrB H 0 sizeOf47 F rfl rfl rfl rfl (by omega) ?_;clear H;intro w H;rw [lay_all] at H;refine nK hK2 ?_;clear hK2;refine cSeq (fun K3 hK3=>?_);refine cSR fun K4 hK4=>sFa (f:=0) (k:=0) underlying70 rfl sizeOf63 rfl rfl F rfl rfl rfl (qLrB underlying63 rfl sizeOf63 rfl rfl rfl (H.rangeB0 2 36 rfl (by omega)) (qMv rfl rfl rfl (qNK hK4 ?_)));clear hK4;clear F a;intro a F;refine wp_block ?_
 refine cLoopR [2,3,10] (fun m ups w=>∃ (j:Nat) (f:By),m=4 - j∧ups=[(11,.int .i64 (j:Int))]∧j≤4∧(∀ i,i < 38→f i=if 32≤i∨i < j * 8 then finalP s i else 0)∧Own w0 none w [.blk b3 (bs 38 f) 47,.blk b2 (bs 38 zb) 47,.blk b1 (bs 142 s) 70]) F (4) [(11,.int .i64 ((0:Nat):Int))] (by repeat (first | exact SubR.nil | (apply SubR.cons;· rfl))) ?_ ?_ ?_
 · exact ⟨0,_,rfl,rfl,by omega,final_init s,H⟩
 · repeat (first | exact trivial | refine Le.cons rfl ?_)
 clear F
 clear H
 intro m ups a w hI F
 obtain ⟨j,f,rfl,rfl,hj,hf,H⟩:=hI
 refine cSR fun K5 hK5=>sBin F rfl rfl rfl rfl bLss (qNK hK5 ?_);clear hK5;clear F a;intro a F;refine cSeq (fun K6 hK6=>?_)
 refine cIf F rfl (fun h12=>?_) (fun h12=>?_)
 ·
  replace h12:=of_decide_eq_true h12;refine wp_skip (hK6 _ _ ?_);clear hK6;refine cSeq (fun K7 hK7=>?_);refine wp_block ?_;refine cSR fun K8 hK8=>sMv F rfl rfl rfl ?_;clear F a;intro a F
  refine sIdA underlying63 sizeOf62 isAgg62 F rfl rfl rfl rfl ?_ ?_ ?_
  focus omega
  focus omega
  clear F a;intro a F;refine sAlB H zB62 F rfl rfl ?_;clear F a H;intro b5 a w F H;refine sAs F rfl rfl rfl ?_;clear F a;intro a F;refine sSrB H 0 sizeOf62 F rfl rfl rfl rfl (by omega) ?_;clear H;intro w H;rw [lay_all] at H;refine nK hK8 (cReg (sMv F rfl rfl rfl (qFa (f:=1) (k:=1) underlying62 rfl sizeOf43 rfl rfl rfl rfl rfl (qLrB underlying43 rfl sizeOf43 rfl rfl rfl (H.rangeB 0 _ 8 rfl (by omega)) (qFa (f:=0) (k:=0) underlying47 rfl sizeOf44 rfl rfl rfl rfl rfl ?_)))));clear hK8;clear F a;intro a F
  refine sIaZ underlying44 sizeOf43 F rfl rfl rfl rfl ?_ ?_
  focus (first | omega | decide | (simp;omega))
  clear F a;intro a F;refine sSrB H 1 sizeOf43 F rfl rfl rfl rfl (by omega) ?_;clear H;intro w H;refine nK hK7 (cReg ?_);clear hK7
  refine sBin F rfl rfl rfl rfl (bAddN (j:=1) ?_) ?_
  focus omega
  clear F a;intro a F;refine sMv F rfl rfl rfl ?_;clear F a;intro a F;refine sNil ?_
  exact ⟨4 - (j+1),by omega,_,⟨j+1,_,rfl,rfl,by omega,final_step (by omega) hf,H.tail⟩,F.to (by repeat (first | exact trivial | refine Le.cons rfl ?_))⟩
 replace h12:=of_decide_eq_false h12;refine wp_exit ?_;refine hK3 _ _ (cSR fun K9 hK9=>sLrB underlying47 rfl sizeOf47 F rfl rfl rfl (H.whole 0 rfl) ?_);clear hK3;clear F a;intro a F;refine sSrB H 1 sizeOf47 F rfl rfl rfl rfl (by omega) ?_;clear H;intro w H;rw [lay_all] at H;refine nK hK9 ?_;clear hK9;refine wp_ret ?_;refine bRetB results29 F rfl underlying47 rfl sizeOf47 H 1 rfl ?_
 obtain rfl:j=4:=by omega
 exact ⟨retB1 fun i hi=>by rw [hf i hi,if_pos (by omega)],H.below⟩
end Go.Proofs.YtbgnapmaimkpkaaGreatDoor
namespace Go.Proofs.YtbgnapmaimkpkaaGreatDoor
open Go.Proofs.Tryz
def thrP (x:Ins) (th:By) (had:UInt8):By:=if isLocal x then localP x th else farP x th had
def newPc (x:Ins) (th:By):UInt8:=if x.op=8∧skipsP x.fn (valA x th) (valB x th)=true then th 0+x.skip+1 else th 0+1
theorem thrP_pc (x:Ins) (th:By) (had:UInt8):thrP x th had 0=newPc x th:=by
 unfold thrP newPc
 cases hL:isLocal x with
 | true=>
   simp only [if_true]
   unfold localP
   by_cases h3:x.op=3
   · rw [if_pos h3,if_neg (by rw [h3];intro h;exact absurd h.1 (by decide))];rfl
   · rw [if_neg h3]
     by_cases h8:x.op=8
     · rw [if_pos h8]
       cases hs:skipsP x.fn (valA x th) (valB x th)
       · simp [put]
       · simp [put,h8]
     · rw [if_neg h8]
       have h7:x.op=7:=by simpa [isLocal,h3,h8] using hL
       rw [if_pos h7,if_neg (fun h=>h8 h.1)];rfl
 | false=>
   have h8:x.op ≠ 8:=fun h=>by simp [isLocal,h] at hL
   rw [if_neg (by simp),if_neg (fun h=>h8 h.1)]
   rfl
theorem moveP_at (x:Ins) (s:By) (t i:Nat):moveP x s t i=if t * 9≤i∧i < t * 9+9 then thrP x (cut s (t * 9)) (s (36+x.loc.toNat)) (i - t * 9)
   else if isLocal x=false∧i=36+x.loc.toNat then hasP x (cut s (t * 9)) (s (36+x.loc.toNat)) else s i:=by
 unfold moveP thrP
 cases hL:isLocal x with
 | true=>simp only [if_true];unfold lay;split <;> simp
 | false=>
   simp only [Bool.false_eq_true,if_false,true_and]
   unfold lay
   split
   · rfl
   · unfold put;rfl
theorem skip_in {x:Ins} {locs after:Int} (h:insOk x locs after=true) (h8:x.op=8):(x.skip.toNat:Int)≤after:=by
 have h7:(!hasB x.op 64 || (decide (1≤x.skip) && decide ((x.skip.toNat:Int)≤after)))=true:=ins_cond h 7 (by omega)
 have:hasB x.op 64=true:=by rw [h8];decide
 rw [this] at h7
 simp only [Bool.not_true,Bool.false_or,Bool.and_eq_true,decide_eq_true_eq] at h7
 exact h7.2
theorem newPc_in {x:Ins} {th:By} {locs:Int} {n:Nat} (hn:n≤12) (hp:(th 0).toNat < n) (h:insOk x locs ((n:Int) - 1 - (th 0).toNat)=true):(th 0).toNat < (newPc x th).toNat∧(newPc x th).toNat≤n:=by
 unfold newPc
 have h1:(1:UInt8).toNat=1:=rfl
 split
 · rename_i hc
   have:=skip_in h hc.1
   have e:(th 0+x.skip+1).toNat=(th 0).toNat+x.skip.toNat+1:=by
     rw [UInt8.toNat_add,UInt8.toNat_add,h1];omega
   rw [e];omega
 · have e:(th 0+1).toNat=(th 0).toNat+1:=by
     rw [UInt8.toNat_add,h1];omega
   rw [e];omega
def lenP (p:Prg) (t:Nat):Nat:=(p.threads[t]?.map List.length).getD 0
def pcP (s:By) (t:Nat):Nat:=(s (t * 9)).toNat
theorem lenP_at {p:Prg} {t:Nat} {l:List Ins} (h:p.threads[t]? = some l):lenP p t=l.length:=by simp [lenP,h]
def mu (p:Prg) (s:By):Nat:=(lenP p 0 - pcP s 0)+(lenP p 1 - pcP s 1)+(lenP p 2 - pcP s 2)+(lenP p 3 - pcP s 3)
structure StepOf (p:Prg) (s z:By) (t:Nat) (l:List Ins) (x:Ins):Prop where
 hl:p.threads[t]? = some l
 hx:l[pcP s t]? = some x
 fine:isLocal x=true∨(isLocal x=false∧isFar x.op∧x.loc.toNat < p.locs.length∧(x.op ≠ 2→x.dst.toNat < 8))
 at':∀ i,z i=if t * 9≤i∧i < t * 9+9 then thrP x (cut s (t * 9)) (s (36+x.loc.toNat)) (i - t * 9)
   else if isLocal x=false∧i=36+x.loc.toNat then hasP x (cut s (t * 9)) (s (36+x.loc.toNat)) else s i
 t4:t < 4
 lt:pcP s t < l.length
 up:pcP s t < pcP z t
 le:pcP z t≤l.length
theorem fineL {p:Prg} (h:rightErr p=0) {t:Nat} {l:List Ins} {i:Nat} {x:Ins} (hl:p.threads[t]? = some l) (hx:l[i]? = some x) :
   isLocal x=true∨(isLocal x=false∧isFar x.op∧x.loc.toNat < p.locs.length∧(x.op ≠ 2→x.dst.toNat < 8)):=by
 have hv:=valid h
 have hi:=inses_at (hv.ins t l hl) hx
 have h0:=op_cases x.op (ins_cond hi 0 (by omega))
 have h2:decide (x.dst < 8)=true:=ins_cond hi 2 (by omega)
 have hd:x.dst.toNat < 8:=of_decide_eq_true h2
 have h3:(!hasB x.op 2 || decide ((x.loc.toNat:Int) < (p.locs.length:Int)))=true:=ins_cond hi 3 (by omega)
 have hloc:hasB x.op 2=true→x.loc.toNat < p.locs.length:=fun hb=>by
   rw [hb] at h3
   have:((x.loc.toNat:Int) < (p.locs.length:Int)):=by simpa using h3
   omega
 rcases h0 with h | h | h | h | h | h | h | h
 · exact .inr ⟨by simp [isLocal,h],by simp [isFar,h],hloc (by rw [h];decide),fun _=>hd⟩
 · exact .inr ⟨by simp [isLocal,h],by simp [isFar,h],hloc (by rw [h];decide),fun _=>hd⟩
 · exact .inl (by simp [isLocal,h])
 · exact .inr ⟨by simp [isLocal,h],by simp [isFar,h],hloc (by rw [h];decide),fun _=>hd⟩
 · exact .inr ⟨by simp [isLocal,h],by simp [isFar,h],hloc (by rw [h];decide),fun _=>hd⟩
 · exact .inr ⟨by simp [isLocal,h],by simp [isFar,h],hloc (by rw [h];decide),fun _=>hd⟩
 · exact .inl (by simp [isLocal,h])
 · exact .inl (by simp [isLocal,h])
theorem stepOf {p:Prg} (h:rightErr p=0) {s:By} {t:Nat} (ht:t ∈ enabledP p s):∃ l x,StepOf p s (stepP p s t) t l x:=by
 obtain ⟨l,x,hl,hx⟩:=mem_enabled ht
 have hv:=valid h
 have htl:t < p.threads.length:=(List.getElem?_eq_some_iff.1 hl).1
 have hlt:pcP s t < l.length:=(List.getElem?_eq_some_iff.1 hx).1
 have hi:=inses_at (hv.ins t l hl) hx
 rw [Nat.zero_add] at hi
 have hpc:=newPc_in (th:=cut s (t * 9)) (hv.long t l hl) (by simpa [cut,pcP] using hlt) (by simpa [cut] using hi)
 have e:stepP p s t=moveP x s t:=stepP_at hl hx
 have hz:stepP p s t (t * 9)=newPc x (cut s (t * 9)):=by
   rw [e,moveP_at,if_pos (by omega),Nat.sub_self,thrP_pc]
 refine ⟨l,x,hl,hx,fineL h hl hx,fun i=>by rw [e];exact moveP_at x s t i,by have:=hv.thr4;omega,hlt,?_,?_⟩
 · unfold pcP;rw [hz];simpa [cut] using hpc.1
 · unfold pcP;rw [hz];exact hpc.2
section
variable {p:Prg} {s z:By} {t:Nat} {l:List Ins} {x:Ins}
theorem StepOf.far (h:StepOf p s z t l x) {u k:Nat} (hu:u ≠ t) (hk:k < 9) (hu4:u < 4):z (u * 9+k)=s (u * 9+k):=by
 have:=h.t4
 rw [h.at',if_neg (by rcases Nat.lt_or_gt_of_ne hu with h | h <;> omega),if_neg (by omega)]
theorem StepOf.pc (h:StepOf p s z t l x) {u:Nat} (hu:u ≠ t) (hu4:u < 4):pcP z u=pcP s u:=by
 have:=h.far hu (k:=0) (by omega) hu4
 simp only [Nat.add_zero] at this
 unfold pcP;rw [this]
theorem StepOf.rest (h:StepOf p s z t l x) (hp:rightErr p=0) {i:Nat} (hi:42≤i):z i=s i:=by
 have:=h.t4
 have h6:=(valid hp).locs6
 rw [h.at',if_neg (by omega),if_neg];rintro ⟨h1,h2⟩
 rcases h.fine with h3 | h3
 · rw [h3] at h1;cases h1
 · have:=h3.2.2.1;omega
theorem StepOf.mem (h:StepOf p s z t l x) {k:Nat} (hk:isLocal x=true∨k ≠ x.loc.toNat):z (36+k)=s (36+k):=by
 have:=h.t4
 rw [h.at',if_neg (by omega),if_neg];rintro ⟨h1,h2⟩
 rcases hk with hk | hk
 · rw [hk] at h1;cases h1
 · omega
theorem StepOf.mu (h:StepOf p s z t l x):mu p z < mu p s:=by
 have h1:=h.up
 have h2:=h.lt
 have h3:=lenP_at h.hl
 have h4:=h.t4
 have q:∀ u,u < 4→u ≠ t→pcP z u=pcP s u:=fun u hu hne=>h.pc hne hu
 unfold Go.Proofs.YtbgnapmaimkpkaaGreatDoor.mu
 rcases (by omega:t=0∨t=1∨t=2∨t=3) with rfl | rfl | rfl | rfl
 · rw [q 1 (by omega) (by omega),q 2 (by omega) (by omega),q 3 (by omega) (by omega)];omega
 · rw [q 0 (by omega) (by omega),q 2 (by omega) (by omega),q 3 (by omega) (by omega)];omega
 · rw [q 0 (by omega) (by omega),q 1 (by omega) (by omega),q 3 (by omega) (by omega)];omega
 · rw [q 0 (by omega) (by omega),q 1 (by omega) (by omega),q 2 (by omega) (by omega)];omega
theorem StepOf.right (h:StepOf p s z t l x) (hr:rightS p s=true):rightS p z=true:=by
 have hp:=right_of hr
 have hr2:=hr
 unfold rightS stateOk at hr2
 simp only [Bool.and_eq_true,beq_iff_eq] at hr2
 obtain ⟨_,⟨ht,hm⟩,hb,hy⟩:=hr2
 rw [allB_iff] at ht hm;rw [same_iff] at hb hy;rw [rightS_end hp (fun u hu=>?_) (fun k hk=>?_)]
 · rw [Bool.and_eq_true,same_iff,same_iff]
   exact ⟨fun i hi=>(by unfold cut;rw [h.rest hp (by omega)];exact hb i hi),fun i hi=>(by unfold cut;rw [h.rest hp (by omega)];exact hy i hi)⟩
 · by_cases hut:u=t
   · subst hut
     rw [threadSt_some h.hl];exact decide_eq_true h.le
   · have h1:=ht u hu
     have h2:∀ k,k < 9→z (u * 9+k)=s (u * 9+k):=fun k hk=>h.far hut hk hu
     unfold threadSt at h1 ⊢
     split at h1
     · rename_i l' hl'
       have h3:=h2 0 (by omega)
       simp only [Nat.add_zero] at h3
       rw [h3];exact h1
     · rename_i hl'
       rw [same_iff] at h1 ⊢
       intro k hk
       exact (h2 k hk).trans (h1 k hk)
 · have h1:=hm k hk
   unfold memSt at h1 ⊢
   by_cases hkl:k < p.locs.length
   · rw [decide_eq_true hkl,Bool.true_or]
   · rw [decide_eq_false hkl,Bool.false_or] at h1 ⊢
     rw [h.mem]
     · exact h1
     · rcases h.fine with h3 | h3
       · exact .inl h3
       · exact .inr (by have:=h3.2.2.1;omega)
end
theorem start_at {p:Prg} (h:rightErr p=0) (i:Nat):startP p i=if 36≤i∧i < 36+p.locs.length then p.init.getD (i - 36) 0 else 0:=by
 have hv:=valid h
 have h6:=hv.locs6
 unfold startP lay ofL zb
 rw [hv.init,Nat.min_eq_left h6]
theorem start_right {p:Prg} (h:rightErr p=0):rightS p (startP p)=true:=by
 have hs:=start_at h
 have h6:=(valid h).locs6
 have z9:∀ i,i < 36→startP p i=0:=fun i hi=>by rw [hs,if_neg (by omega)]
 have z42:∀ i,42≤i→startP p i=0:=fun i hi=>by rw [hs,if_neg (by omega)]
 rw [rightS_end h (fun u hu=>?_) (fun k hk=>?_)]
 · rw [Bool.and_eq_true,same_iff,same_iff]
   exact ⟨fun i hi=>z42 _ (by omega),fun i hi=>z42 _ (by omega)⟩
 · unfold threadSt
   split
   · rw [z9 _ (by omega)];exact decide_eq_true (Nat.zero_le _)
   · rw [same_iff];exact fun i hi=>z9 _ (by omega)
 · unfold memSt
   by_cases hkl:k < p.locs.length
   · rw [decide_eq_true hkl,Bool.true_or]
   · rw [decide_eq_false hkl,Bool.false_or,hs,if_neg (by omega)];rfl
end Go.Proofs.YtbgnapmaimkpkaaGreatDoor
namespace Go.Proofs.YtbgnapmaimkpkaaGreatDoor
open Go.Proofs.Tryz
open Go.RowKit
set_option maxRecDepth 100000
theorem Own.intAt {w0 w:World} {row:Option Nat} {rs:List Res} (H:Own w0 row w rs) (i:Nat) {e:TypeId} {n c:Nat} {A:Option Addr} {l:List Nat} (hi:rs[i]? = some (.rws e 1 (.slice A n c) (intRows l))) {j t:Nat} (hj:l[j]? = some t) :
   ∃ b off,A=some ⟨b,off,.none⟩∧w.cell? ⟨b,off+j * 1,.none⟩=some (.int .i64 (t:Int)):=by
 obtain ⟨b,off,h1,h2⟩:=H.rowsAt i hi (intRows_one l) (by omega) j [.int .i64 (t:Int)] (by simp [intRows,hj])
 exact ⟨b,off,h1,by have:=h2 0 _ rfl;rwa [Nat.add_zero] at this⟩
theorem movable_at {p:Prg} {s:By} {j k:Nat} (h:(movesP p s)[j]? = some k):movable p s (k:Int)=true:=by
 unfold movable
 rw [List.any_eq_true]
 exact ⟨k,List.mem_of_getElem? h,by simp⟩
theorem movable_not {p:Prg} {s:By} {t:Int} (h:∀ i k:Nat,(movesP p s)[i]? = some k→(k:Int) ≠ t):movable p s t=false:=by
 unfold movable
 rw [← Bool.not_eq_true,List.any_eq_true];rintro ⟨k,hk,h2⟩
 obtain ⟨i,hi⟩:=List.getElem?_of_mem hk
 exact h i k hi (by simpa using h2)
theorem move_any (cs:List Value) (p:Prg) (w0:World) (hP:ProgAt w0 cs p) (hN:NeedsAt w0) (s:By) (t:Int) :
   Calls Tryz.prog 112 #[.agg cs.toArray,.agg (bs 142 s).toArray,.int .i64 t] w0 fun e w'=>e = .returned (.tuple #[.agg (bs 142 (moveS p s t)).toArray,.int .i64 (moveE p s t)])∧Below w0.heap.size w0 w':=by
 have H:=Own.start w0 none
 obtain ⟨d1,d2,d3,d4,d5,d6,d7,d8,d9,d10,rfl⟩:=hP.len10
 refine enterF func112 rfl ntmps112 rfl (fun a F=>?_);refine cSR fun K1 hK1=>?_;refine sBx H F rfl rfl rfl ?_;clear F a H;intro b3 a w F H;refine sBxB H F rfl rfl rfl ?_;clear F a H;intro b4 a w F H;refine sAlB H zB70 F rfl rfl ?_;clear F a H;intro b6 a w F H;refine sAs F rfl rfl rfl (qNK hK1 ?_);clear hK1;clear F a;intro a F;refine cSeq (fun K2 hK2=>?_);refine cSR fun K3 hK3=>?_
 refine sLr underlying29 rfl ?si F rfl rfl rfl (H.whole 2 rfl) ?_
 case si=>exact info_size sizeOf29
 clear F a;intro a F;refine sLrB underlying70 rfl sizeOf70 F rfl rfl rfl (H.whole 1 rfl) ?_;clear F a;intro a F;refine sCall call141 F rfl rfl rfl (moves_any _ p _ (hP.own H) (hN.own H) s) ?_;rintro e w ⟨A,c,rfl,H2⟩;replace H:=H.join H2;clear H2;refine ⟨_,rfl,?_⟩;clear F a;intro a F;refine sLen underlying83 F rfl rfl rfl (qMv rfl rfl rfl (qNK hK3 ?_));clear hK3;clear F a;intro a F;refine wp_block ?_
 refine cLoopR [2,3,4,6,12,13] (fun m ups w=>∃ j:Nat,m=(movesP p s).length - j∧ups=[(14,.int .i64 (j:Int))]∧j≤(movesP p s).length∧(∀ i k:Nat,i < j→(movesP p s)[i]? = some k→(k:Int) ≠ t)∧Own w0 none w [.rws 3 1 (.slice A (movesP p s).length c) (intRows (movesP p s)),.blk b6 (bs 142 zb) 70,.blk b4 (bs 142 s) 70,.blk b3 [d1,d2,d3,d4,d5,d6,d7,d8,d9,d10] 29]) F ((movesP p s).length) [(14,.int .i64 ((0:Nat):Int))] (by repeat (first | exact SubR.nil | (apply SubR.cons;· rfl))) ?_ ?_ ?_
 · exact ⟨0,rfl,rfl,by omega,fun i k hi=>by omega,H⟩
 · repeat (first | exact trivial | refine Le.cons rfl ?_)
 clear F
 clear H
 intro m ups a w hI F
 obtain ⟨j,rfl,rfl,hj,hne,H⟩:=hI
 have hb:=(H.rwsLen 0 rfl).2
 simp only [maxLen] at hb
 refine cSR fun K4 hK4=>sBin F rfl rfl rfl rfl bLss (qNK hK4 ?_);clear hK4;clear F a;intro a F;refine cSeq (fun K5 hK5=>?_)
 refine cIf F rfl (fun h15=>?_) (fun h15=>?_)
 ·
  replace h15:=of_decide_eq_true h15
  have hjl:j < (movesP p s).length:=by omega
  obtain ⟨k,hk⟩:∃ k,(movesP p s)[j]? = some k:=⟨_,List.getElem?_eq_getElem hjl⟩
  obtain ⟨bL,oL,rfl,hL⟩:=H.intAt 0 rfl hk
  refine wp_skip (hK5 _ _ ?_);clear hK5;refine cSeq (fun K6 hK6=>?_);refine wp_block ?_;refine cSR fun K7 hK7=>?_
  refine sIx underlying83 sizeOf3 F rfl rfl rfl rfl ?_ ?_
  focus (first | omega | decide | (simp;omega))
  clear F a;intro a F;refine sLd isAgg3 F rfl rfl rfl hL (qAs rfl rfl rfl (qNK hK7 (qSR fun K8 hK8=>qMv rfl rfl rfl (qMv rfl rfl rfl (qBin rfl rfl rfl rfl bEql (qNK hK8 ?_))))));clear hK7 hK8;clear F a;intro a F
  refine cIf F rfl (fun h20=>?_) (fun h20=>?_)
  ·
   replace h20:=beqT h20;subst h20
   have hm:=mem_moves (List.mem_of_getElem? hk)
   obtain ⟨l,x,hl,hx⟩:=mem_enabled hm.2
   have hf:=fine (right_of hm.1) hl hx
   have hk4:k < 4:=by
     have:=(List.getElem?_eq_some_iff.1 hl).1
     have:=(valid (right_of hm.1)).thr4
     omega
   refine cSR fun K9 hK9=>?_
   refine sLr underlying29 rfl ?si F rfl rfl rfl (H.whole 3 rfl) ?_
   case si=>exact info_size sizeOf29
   clear F a;intro a F;refine sLrB underlying70 rfl sizeOf70 F rfl rfl rfl (H.whole 2 rfl) (qMv rfl rfl rfl ?_);clear F a;intro a F;refine sCall call56 F rfl rfl rfl (step_any _ p _ (hP.own H) s k l x hk4 hl hx hf) ?_;rintro e w ⟨rfl,hb⟩;replace H:=H.grow hb;clear hb;refine ⟨_,rfl,?_⟩;clear F a;intro a F;refine sSrB H 1 sizeOf70 F rfl rfl rfl rfl (by omega) ?_;clear H;intro w H;rw [lay_all] at H;refine sAs F rfl rfl rfl (qNK hK9 ?_);clear hK9;clear F a;intro a F;refine wp_ret ?_;simp only [Exit.inBlock,Exit.then];refine bRetB1 results112 F rfl rfl underlying70 rfl sizeOf70 H 1 rfl ?_
   first
     | exact ⟨by rw [moveS,moveE,movable_at hk,if_pos rfl,if_pos rfl,Int.toNat_natCast,stepP_at hl hx],H.below⟩
     | (have hn:=movable_not (p:=p) (s:=s) (t:=t) (fun i k hk=>hne i k (by have:=(List.getElem?_eq_some_iff.1 hk).1;omega) hk)
        exact ⟨by rw [moveS,moveE,hn];rfl,H.below⟩)
  replace h20:=beqF h20;refine wp_skip (hK6 _ _ (cReg ?_));clear hK6
  refine sBin F rfl rfl rfl rfl (bAddN (j:=1) ?_) ?_
  focus omega
  clear F a;intro a F;refine sMv F rfl rfl rfl ?_;clear F a;intro a F;refine sNil ?_
  have hne2:∀ i q:Nat,i < j+1→(movesP p s)[i]? = some q→(q:Int) ≠ t:=fun i q hi hq=>by
    rcases Nat.lt_or_ge i j with h1 | h1
    · exact hne i q h1 hq
    · obtain rfl:i=j:=by omega
      rw [hk] at hq
      cases hq
      exact h20
  exact ⟨_,by omega,_,⟨j+1,rfl,rfl,by omega,hne2,H⟩,F.to (by repeat (first | exact trivial | refine Le.cons rfl ?_))⟩
 replace h15:=of_decide_eq_false h15;refine wp_exit ?_;refine hK2 _ _ (cSR fun K10 hK10=>sBdB (places:=[(0,36),(36,6),(42,96),(138,4)]) zB70 underlying70 (by kernel_rfl) F rfl rfl rfl FillB.nil ?_);clear hK2;clear F a;intro a F;refine sSrB H 1 sizeOf70 F rfl rfl rfl rfl (by omega) ?_;clear H;intro w H;rw [lay_all] at H;refine sAs F rfl rfl rfl (qNK hK10 ?_);clear hK10;clear F a;intro a F;refine wp_ret ?_;refine bRetB1 results112 F rfl rfl underlying70 rfl sizeOf70 H 1 rfl ?_
 first
   | exact ⟨by rw [moveS,moveE,movable_at hk,if_pos rfl,if_pos rfl,Int.toNat_natCast,stepP_at hl hx],H.below⟩
   | (have hn:=movable_not (p:=p) (s:=s) (t:=t) (fun i k hk=>hne i k (by have:=(List.getElem?_eq_some_iff.1 hk).1;omega) hk)
      exact ⟨by rw [moveS,moveE,hn];rfl,H.below⟩)
end Go.Proofs.YtbgnapmaimkpkaaGreatDoor
namespace Go.Proofs.YtbgnapmaimkpkaaGreatDoor
open Go.Proofs.Tryz
open Go.RowKit
set_option maxRecDepth 100000
def BytesAt (w:World) (A:Option Addr) (l:List UInt8):Prop:=RowsAt w A 1 (l.map fun x=>[b8 x])
theorem BytesAt.get {w:World} {A:Option Addr} {l:List UInt8} (h:BytesAt w A l) {j:Nat} {x:UInt8} (hj:l[j]? = some x):∃ b off,A=some ⟨b,off,none⟩∧w.cell? ⟨b,off+j * 1,none⟩=some (b8 x):=by
 obtain ⟨b,off,h1,h2⟩:=h j [b8 x] (by rw [List.getElem?_map,hj];rfl)
 exact ⟨b,off,h1,by have:=h2 0 _ rfl;rwa [Nat.add_zero] at this⟩
theorem mu_pos {p:Prg} {s:By} (hp:rightErr p=0) {k:Nat} (hk:k ∈ enabledP p s):mu p (stepP p s k) < mu p s:=by
 obtain ⟨l,x,h⟩:=stepOf hp hk
 exact h.mu
end Go.Proofs.YtbgnapmaimkpkaaGreatDoor
namespace Go.Proofs.YtbgnapmaimkpkaaGreatDoor
open Go.Proofs.Tryz
theorem worthP_congr {r:Bool} {n:UInt8} {a b:By} (h:∀ k,k < 9→a k=b k):worthP r n (cut a 1)=worthP r n (cut b 1):=by
 unfold worthP cut
 split
 · split
   · exact h _ (by omega)
   · rfl
 · rfl
theorem valA_congr {x:Ins} {a b:By} (h:∀ k,k < 9→a k=b k):valA x a=valA x b:=worthP_congr h
theorem valB_congr {x:Ins} {a b:By} (h:∀ k,k < 9→a k=b k):valB x a=valB x b:=worthP_congr h
theorem hasP_congr {x:Ins} {a b:By} {had:UInt8} (h:∀ k,k < 9→a k=b k):hasP x a had=hasP x b had:=by
 unfold hasP;rw [valA_congr h,valB_congr h]
theorem withP_congr {a b:By} {d v:UInt8} (h:∀ k,k < 9→a k=b k):∀ k,k < 9→withP a d v k=withP b d v k:=fun k hk=>by
 unfold withP
 split
 · unfold put;split
   · rfl
   · exact h k hk
 · exact h k hk
theorem put_congr {a b:By} {j:Nat} {u v:UInt8} (h:∀ k,k < 9→a k=b k) (huv:u=v):∀ k,k < 9→put a j u k=put b j v k:=fun k hk=>by
 unfold put;split
 · exact huv
 · exact h k hk
theorem thrP_congr {x:Ins} {a b:By} {had:UInt8} (h:∀ k,k < 9→a k=b k):∀ k,k < 9→thrP x a had k=thrP x b had k:=fun k hk=>by
 have h0:=h 0 (by omega)
 unfold thrP
 split
 · unfold localP
   rw [valA_congr h,valB_congr h,h0]
   split
   · exact put_congr (withP_congr h) rfl k hk
   · split
     · exact put_congr h rfl k hk
     · split
       · exact put_congr h rfl k hk
       · exact h k hk
 · unfold farP
   rw [h0]
   refine put_congr (fun q hq=>?_) rfl k hk
   split
   · exact h q hq
   · exact withP_congr h q hq
theorem thrP_local {x:Ins} (h:isLocal x=true) (a:By) (u v:UInt8):thrP x a u=thrP x a v:=by
 unfold thrP;rw [if_pos h,if_pos h]
section
variable {p:Prg} {s z1 z2 z12 z21:By} {t u:Nat} {l m:List Ins} {x y:Ins}
def farI (x y:Ins):Prop:=x.loc ≠ y.loc∨isLocal x=true∨isLocal y=true∨(x.op=1∧y.op=1)
theorem farI.symm (h:farI x y):farI y x:=by
 rcases h with h | h | h | h
 · exact .inl (Ne.symm h)
 · exact .inr (.inr (.inl h))
 · exact .inr (.inl h)
 · exact .inr (.inr (.inr ⟨h.2,h.1⟩))
theorem loc_ne (h:x.loc ≠ y.loc):y.loc.toNat ≠ x.loc.toNat:=fun e=>h (UInt8.toNat_inj.1 e.symm)
theorem hasP_load {x:Ins} (h:x.op=1) (a:By) (had:UInt8):hasP x a had=had:=by
 unfold hasP
 rw [h]
 rfl
theorem StepOf.had (h1:StepOf p s z1 t l x) (hf:farI x y) (hy:isLocal y=false):z1 (36+y.loc.toNat)=s (36+y.loc.toNat):=by
 rcases hf with h | h | h | h
 · exact h1.mem (.inr (loc_ne h))
 · exact h1.mem (.inl h)
 · rw [h] at hy;cases hy
 · have h4:=h1.t4
   rw [h1.at',if_neg (by omega)]
   split
   · rename_i q
     rw [hasP_load h.1]
     have:36+x.loc.toNat=36+y.loc.toNat:=q.2.symm
     rw [this]
   · rfl
theorem StepOf.near (h1:StepOf p s z1 t l x) (h12:StepOf p z1 z12 u m y) (h2:StepOf p s z2 u m y) (hne:t ≠ u) (hf:farI x y):∀ i,u * 9≤i∧i < u * 9+9→z12 i=z2 i:=fun i hi=>by
 have hc:∀ k,k < 9→cut z1 (u * 9) k=cut s (u * 9) k:=fun k hk=>h1.far (Ne.symm hne) hk h2.t4
 rw [h12.at',if_pos hi,h2.at',if_pos hi];rw [thrP_congr hc _ (by omega)]
 cases hL:isLocal y with
 | true=>rw [thrP_local hL]
 | false=>rw [h1.had hf hL]
theorem commute (h1:StepOf p s z1 t l x) (h2:StepOf p s z2 u m y) (h12:StepOf p z1 z12 u m y) (h21:StepOf p z2 z21 t l x) (hne:t ≠ u) (hf:farI x y):same 142 z12 z21=true:=by
 rw [same_iff]
 intro i _
 have ht:=h1.t4
 have hu:=h2.t4
 by_cases hiu:u * 9≤i∧i < u * 9+9
 · rw [h1.near h12 h2 hne hf i hiu]
   have:i=u * 9+(i - u * 9):=by omega
   rw [this]
   exact (h21.far (Ne.symm hne) (by omega) hu).symm
 · by_cases hit:t * 9≤i∧i < t * 9+9
   · rw [h2.near h21 h1 (Ne.symm hne) hf.symm i hit]
     have:i=t * 9+(i - t * 9):=by omega
     rw [this]
     exact h12.far hne (by omega) ht
   · have hcy:∀ k,k < 9→cut z1 (u * 9) k=cut s (u * 9) k:=fun k hk=>h1.far (Ne.symm hne) hk hu
     have hcx:∀ k,k < 9→cut z2 (t * 9) k=cut s (t * 9) k:=fun k hk=>h2.far hne hk ht
     rw [h12.at',if_neg hiu,h21.at',if_neg hit,h1.at' i,if_neg hit,h2.at' i,if_neg hiu];rw [hasP_congr hcy,hasP_congr hcx]
     by_cases qx:isLocal x=false∧i=36+x.loc.toNat
     · rw [if_pos qx]
       by_cases qy:isLocal y=false∧i=36+y.loc.toNat
       · rw [if_pos qy,if_pos qx,h1.had hf qy.1,h2.had hf.symm qx.1]
         rcases hf with h | h | h | h
         · exact absurd (by omega) (loc_ne h)
         · rw [h] at qx;cases qx.1
         · rw [h] at qy;cases qy.1
         · rw [hasP_load h.1,hasP_load h.2,show 36+y.loc.toNat=36+x.loc.toNat by omega]
       · rw [if_neg qy,if_pos qx,h2.had hf.symm qx.1]
     · rw [if_neg qx,if_neg qx]
       by_cases qy:isLocal y=false∧i=36+y.loc.toNat
       · rw [if_pos qy,if_pos qy,h1.had hf qy.1]
       · rw [if_neg qy,if_neg qy]
theorem StepOf.still (h1:StepOf p s z1 t l x) (hp:rightErr p=0) (hne:t ≠ u) {k:Nat} (hu:u ∈ enabledP p s) (h2:StepOf p s z2 u m y):u ∈ enabledP p z1∧StepOf p z1 (stepP p z1 u) u m y:=by
 have hpc:pcP z1 u=pcP s u:=h1.pc (Ne.symm hne) h2.t4
 have hx:m[pcP z1 u]? = some y:=by rw [hpc];exact h2.hx
 have hen:u ∈ enabledP p z1:=by
   unfold enabledP at hu ⊢
   rw [List.mem_filter] at hu ⊢
   refine ⟨hu.1,?_⟩
   rw [mayP_at h2.hl]
   exact decide_eq_true (List.getElem?_eq_some_iff.1 hx).1
 obtain ⟨l',y',hst⟩:=stepOf hp hen
 have e1:l'=m:=by have:=hst.hl;rw [h2.hl] at this;exact (Option.some.inj this).symm
 subst e1
 have e2:y'=y:=by have:=hst.hx;rw [hx] at this;exact (Option.some.inj this).symm
 subst e2
 exact ⟨hen,hst⟩
end
end Go.Proofs.YtbgnapmaimkpkaaGreatDoor
namespace Go.Proofs.YtbgnapmaimkpkaaGreatDoor
open Go.Proofs.Tryz
def Runs (p:Prg):By→List Nat→List UInt8→By→Prop
 | s,[],[],z=>z=s
 | s,t :: r,i :: ix,z=>(enabledP p s)[i.toNat]? = some t∧Runs p (stepP p s t) r ix z
 | _,_,_,_=>False
theorem Runs.len {p:Prg} {z:By}:∀ {r:List Nat} {ix:List UInt8} {s:By},Runs p s r ix z→ix.length=r.length
 | [],[],_,_=>rfl
 | _ :: r,_ :: ix,s,h=>by simp [Runs.len (r:=r) (ix:=ix) h.2]
 | [],_ :: _,_,h=>h.elim
 | _ :: _,[],_,h=>h.elim
theorem Runs.append {p:Prg} {z:By} {t:Nat} {i:UInt8} (ht:(enabledP p z)[i.toNat]? = some t):∀ {r:List Nat} {ix:List UInt8} {s:By},Runs p s r ix z→Runs p s (r++[t]) (ix++[i]) (stepP p z t)
 | [],[],s,h=>by
   have h:z=s:=h
   subst h
   exact ⟨ht,rfl⟩
 | _ :: r,_ :: ix,s,h=>⟨h.1,Runs.append ht (r:=r) (ix:=ix) h.2⟩
 | [],_ :: _,_,h=>h.elim
 | _ :: _,[],_,h=>h.elim
theorem Runs.mu {p:Prg} (hp:rightErr p=0) {z:By}:∀ {r:List Nat} {ix:List UInt8} {s:By},Runs p s r ix z→r.length+mu p z≤mu p s
 | [],[],s,h=>by
   have h:z=s:=h
   subst h;simp
 | t :: r,i :: ix,s,h=>by
   have h1:=Runs.mu hp (r:=r) (ix:=ix) h.2
   have h2:=mu_pos hp (List.mem_of_getElem? h.1)
   simp only [List.length_cons];omega
 | [],_ :: _,_,h=>h.elim
 | _ :: _,[],_,h=>h.elim
theorem Runs.right {p:Prg} {z:By}:∀ {r:List Nat} {ix:List UInt8} {s:By},rightS p s=true→Runs p s r ix z→rightS p z=true
 | [],[],s,hs,h=>by
   have h:z=s:=h
   subst h;exact hs
 | t :: r,i :: ix,s,hs,h=>by
   obtain ⟨l,x,hst⟩:=stepOf (right_of hs) (List.mem_of_getElem? h.1)
   exact Runs.right (r:=r) (ix:=ix) (hst.right hs) h.2
 | [],_ :: _,_,_,h=>h.elim
 | _ :: _,[],_,_,h=>h.elim
end Go.Proofs.YtbgnapmaimkpkaaGreatDoor
