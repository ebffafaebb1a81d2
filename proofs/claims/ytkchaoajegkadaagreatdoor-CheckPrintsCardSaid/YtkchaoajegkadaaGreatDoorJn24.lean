/-
  What lies within its capacity: conditions, threads, programs, as the laws' guards (SizeCond, SizeProg) and the copies that are lent want it. Conditions: none.
-/
import Derived.Test.YtkchaoajegkadaaGreatDoorJn23
import Derived.Test.YtkchaoajegkadaaGreatDoorKtF
import Derived.Test.YtkchaoajegkadaaGreatDoorJn15
import Derived.Test.YtkchaoajegkadaaGreatDoorJn18
set_option linter.unusedSimpArgs false
set_option linter.unusedVariables false
namespace Go.Proofs.YtkchaoajegkadaaGreatDoor
-- PgC
open Go.RowKit
def ThreadsCap (w:World) (A:Option Addr) (l:List (List Ins)):Prop:=∀ (j:Nat) (t:List Ins),l[j]? = some t→∃ b off B C,A=some ⟨b,off,none⟩∧w.cell? ⟨b,off+j * 1,none⟩=some (.slice B t.length C)∧RowsAt w B 10 (t.map Ins.cells)∧t.length≤C∧C≤9223372036854775807
theorem ThreadsCap.at {w:World} {A:Option Addr} {l:List (List Ins)} (h:ThreadsCap w A l):ThreadsAt w A l:=fun j t hj=>by
 obtain ⟨b,off,B,C,h1,h2,h3,h4,h5⟩:=h j t hj
 exact ⟨b,off,B,C,h1,h2,h3,by omega⟩
structure ProgCapIn (w:World) (cs:List Value) (p:Prg) (LA:Option Addr) (LC:Nat) (IA:Option Addr) (IC:Nat) (TA:Option Addr) (TC h:Nat) (ccs:List Value):Prop where
 prog:ProgIn w cs p LA LC IA IC TA TC h ccs
 cond:CapAt w h ccs p.cond
 threads:ThreadsCap w TA p.threads
 initC:p.init.length≤IC
 threadsC:p.threads.length≤TC
def ProgCap (w:World) (cs:List Value) (p:Prg):Prop:=∃ LA LC IA IC TA TC h ccs,ProgCapIn w cs p LA LC IA IC TA TC h ccs
theorem ThreadsCap.own {w0 w:World} {rs:List Res} {A:Option Addr} {l:List (List Ins)} (h:ThreadsCap w0 A l) (H:Own w0 none w rs):ThreadsCap w A l:=fun j t hj=>by
 obtain ⟨b,off,B,C,h1,h2,h3,h4,h5⟩:=h j t hj
 exact ⟨b,off,B,C,h1,H.arg h2,h3.own H,h4,h5⟩
theorem ProgCapIn.own {w0 w:World} {rs:List Res} {cs:List Value} {p:Prg} {LA IA TA:Option Addr} {LC IC TC h:Nat} {ccs:List Value} (hp:ProgCapIn w0 cs p LA LC IA IC TA TC h ccs) (H:Own w0 none w rs):ProgCapIn w cs p LA LC IA IC TA TC h ccs:=
 ⟨hp.prog.own H,hp.cond.own H,hp.threads.own H,hp.initC,hp.threadsC⟩
-- KtG
open Go.Proofs.Tryz
open Go.RowKit
set_option maxRecDepth 100000
section
variable {P:Program} {t:TypeId} {x y:Operand} {n m:Int}
theorem bAddW:BinR P .add t x y (.int .i64 n) (.int .i64 m) (.int .i64 (IntKind.i64.wrap (n+m))):=fun w=>by
 have:(do eqGuard .add t x y (.int .i64 n) (.int .i64 m);binOp .add t (.int .i64 n) (.int .i64 m):Sem Value).run P w = .ok (.int .i64 (IntKind.i64.wrap (n+m))) w:=by simp [eqGuard,binOp,Op.intArith,go_sem]
 exact this
end
theorem wrapI {n:Int} (h1 : -9223372036854775808≤n) (h2:n≤9223372036854775807):IntKind.i64.wrap n=n:=by
 simp [IntKind.wrap,IntKind.signed,IntKind.bits,IntKind.min,IntKind.max]
 omega
def Small (p:Prg):Prop:=p.locs.length≤1000∧p.init.length≤1000∧p.threads.length≤1000∧∀ t ∈ p.threads,t.length≤1000
set_option maxHeartbeats 4000000 in
theorem sizeProg_any (cs:List Value) (p:Prg) (LA:Option Addr) (LC:Nat) (IA:Option Addr) (IC:Nat) (TA:Option Addr) (TC h:Nat) (ccs:List Value) (most:Nat) (w0:World) (hp:ProgCapIn w0 cs p LA LC IA IC TA TC h ccs) (hm:most≤100000) :
   Calls Tryz.prog 8 #[.agg cs.toArray,.int .i64 (most:Int)] w0 fun e w'=>∃ r:Int,e = .returned (.int .i64 r)∧(Small p→r≤(most:Int)→sizeC p.cond≤most)∧Below w0.heap.size w0 w':=by
 obtain ⟨a1,a2,a3,a4,a5,a6,a7,rfl⟩:=condShape hp.cond.at
 have hcs:=hp.prog.cs
 simp only [List.cons_append,List.nil_append] at hcs
 subst hcs
 have hl1:=hp.prog.locsN
 have hl2:=hp.prog.initN
 have hl3:=hp.prog.threadsN
 have H:=Own.start w0 none
 refine enterF func8 rfl ntmps8 rfl (fun a F=>?_);refine cSR fun K1 hK1=>?_;refine sBx H F rfl rfl rfl ?_;clear F a H;intro b2 a w F H;refine sAs F rfl rfl rfl (qNK hK1 (qSR fun K2 hK2=>qFa (f:=1) (k:=1) underlying29 rfl sizeOf22 rfl rfl rfl rfl rfl (qLd isAgg22 rfl rfl rfl (H.cell 0 rfl rfl) (qLen underlying22 rfl rfl rfl (qFa (f:=2) (k:=2) underlying29 rfl sizeOf23 rfl rfl rfl rfl rfl (qLd isAgg23 rfl rfl rfl (H.cell 0 rfl rfl) (qLen underlying23 rfl rfl rfl (qBin rfl rfl rfl rfl bAddW (qFa (f:=3) (k:=3) underlying29 rfl sizeOf24 rfl rfl rfl rfl rfl (qLd isAgg24 rfl rfl rfl (H.cell 0 rfl rfl) (qLen underlying24 rfl rfl rfl (qBin rfl rfl rfl rfl bAddW (qAs rfl rfl rfl (qNK hK2 ?_))))))))))))));clear hK1 hK2;clear F a;intro a F;refine cSeq (fun K3 hK3=>?_);refine cSR fun K4 hK4=>sAs F rfl rfl rfl (qNK hK4 ?_);clear hK4;clear F a;intro a F;refine wp_block ?_
 refine cLoopR [1,2] (fun m ups w=>∃ (i:Nat) (n:Int),m=p.threads.length - i∧ups=[(5,.int .i64 n),(6,.int .i64 ((i:Nat):Int))]∧i≤p.threads.length∧(Small p→0≤n∧n≤3000+1000 * i)∧Own w0 none w [.blk b2 ([.string p.name,.slice LA p.locs.length LC,.slice IA p.init.length IC,.slice TA p.threads.length TC,b8 p.ask]++[Go.Proofs.YtkchaoajegkadaaGreatDoor.b8 a1,Go.Proofs.YtkchaoajegkadaaGreatDoor.b8 a2,Go.Proofs.YtkchaoajegkadaaGreatDoor.b8 a3,Go.Proofs.YtkchaoajegkadaaGreatDoor.b8 a4,.slice a5 a6 a7]) 29]) F (p.threads.length) [(5,.int .i64 (IntKind.i64.wrap (IntKind.i64.wrap (((p.locs.length:Nat):Int)+((p.init.length:Nat):Int))+((p.threads.length:Nat):Int)))),(6,.int .i64 ((0:Nat):Int))] (by repeat (first | exact SubR.nil | (apply SubR.cons;· rfl))) ?_ ?_ ?_
 · refine ⟨0,_,rfl,rfl,by omega,fun hs=>?_,H.sel [0] rfl rfl⟩
   obtain ⟨h1,h2,h3,_⟩:=hs
   rw [wrapI (n:=((p.locs.length:Nat):Int)+((p.init.length:Nat):Int)) (by omega) (by omega),wrapI (by omega) (by omega)]
   omega
 · repeat (first | exact trivial | refine Le.cons rfl ?_)
 clear F
 clear H
 intro m ups a w hI F
 obtain ⟨i,n,rfl,rfl,hi,hn,H⟩:=hI
 refine cSeq (fun K5 hK5=>?_);refine cSR fun K6 hK6=>sMv F rfl rfl rfl (qFa (f:=3) (k:=3) underlying29 rfl sizeOf24 rfl rfl rfl rfl rfl (qLd isAgg24 rfl rfl rfl (H.cell 0 rfl rfl) (qLen underlying24 rfl rfl rfl (qBin rfl rfl rfl rfl bLss (qMv rfl rfl rfl ?_)))));clear F a;intro a F
 refine F.split 23 rfl ?_ ?_ <;> (clear F;intro h23 F)
 ·
  replace h23:=of_decide_eq_true h23;refine sMv F rfl rfl rfl (qMv rfl rfl rfl (qBin rfl rfl rfl rfl bLeq (qPk rfl rfl rfl rfl (qNK hK6 ?_))));clear hK6;clear F a;intro a F
  refine cIf F rfl (fun h27=>?_) (fun h27=>?_)
  ·
   replace h27:=of_decide_eq_true h27
   obtain ⟨t,ht⟩:∃ t,p.threads[i]? = some t:=⟨_,List.getElem?_eq_getElem (by omega)⟩
   obtain ⟨bT,oT,XT,XC,rfl,hTx,_,htl,htc⟩:=hp.threads i t ht
   refine wp_skip (hK5 _ _ ?_);clear hK5;refine cSeq (fun K7 hK7=>?_);refine wp_block ?_;refine cReg (sMv F rfl rfl rfl (qFa (f:=3) (k:=3) underlying29 rfl sizeOf24 rfl rfl rfl rfl rfl (qLd isAgg24 rfl rfl rfl (H.cell 0 rfl rfl) (qMv rfl rfl rfl ?_))));clear F a;intro a F
   refine sIx underlying24 sizeOf52 F rfl rfl rfl rfl ?_ ?_
   focus (first | omega | decide | (simp;omega))
   clear F a;intro a F;refine sLd isAgg52 F rfl rfl rfl (H.arg hTx) (qLen underlying52 rfl rfl rfl (qBin rfl rfl rfl rfl bAddW (qAs rfl rfl rfl (qNK hK7 (qReg (qMv rfl rfl rfl ?_))))));clear hK7;clear F a;intro a F
   refine sBin F rfl rfl rfl rfl (bAddN (j:=1) ?_) ?_
   focus omega
   clear F a;intro a F;refine sAs F rfl rfl rfl ?_;clear F a;intro a F;refine sNil ?_
   (refine ⟨_,by omega,_,⟨i+1,_,rfl,rfl,by omega,fun hs=>?_,H.sel [0] rfl rfl⟩,F.to (by repeat (first | exact trivial | refine Le.cons rfl ?_))⟩
    obtain ⟨hn1,hn2⟩:=hn hs
    have ht1:=hs.2.2.2 t (List.mem_of_getElem? ht)
    rw [wrapI (by omega) (by omega)]
    omega)
  replace h27:=of_decide_eq_false h27;refine wp_exit ?_;refine hK3 _ _ (cSR fun K8 hK8=>sMv F rfl rfl rfl (qFa (f:=5) (k:=5) underlying29 rfl sizeOf27 rfl rfl rfl rfl rfl ?_));clear hK3;clear F a;intro a F
  refine sLr underlying27 rfl ?si F rfl rfl rfl (H.range 0 rfl _ 5) ?_
  case si=>exact info_size sizeOf27
  clear F a;intro a F;refine sMv F rfl rfl rfl ?_;clear F a;intro a F
  refine sBin F rfl rfl rfl rfl (bAddI ?_) ?_
  focus omega
  clear F a;intro a F;refine sCall call13 F rfl rfl rfl (sizeCond_any h (most+1) _ p.cond _ (hp.cond.own H) (by omega) (by omega)) ?_;rintro e w ⟨n43,rfl,hn1,hn2,hb⟩;replace H:=H.grow hb;clear hb;refine ⟨_,rfl,?_⟩;clear F a;intro a F;refine sBin F rfl rfl rfl rfl bAddW (qAs rfl rfl rfl (qNK hK8 ?_));clear hK8;clear F a;intro a F;refine wp_ret ?_;refine bRet results8 F rfl ?_
  refine ⟨_,rfl,fun hs hr=>?_,H.below⟩
  obtain ⟨hk1,hk2⟩:=hn hs
  have ht3:=hs.2.2.1
  rw [wrapI (by omega) (by omega)] at hr;rw [hn2 (by omega)]
  omega
 replace h23:=of_decide_eq_false h23;refine sSk F rfl rfl (qSk rfl rfl (qSk rfl rfl (qPk rfl rfl rfl rfl (qNK hK6 ?_))));clear hK6;clear F a;intro a F;refine cIfF F rfl ?_;refine wp_exit ?_;refine hK3 _ _ (cSR fun K9 hK9=>sMv F rfl rfl rfl (qFa (f:=5) (k:=5) underlying29 rfl sizeOf27 rfl rfl rfl rfl rfl ?_));clear hK3;clear F a;intro a F
 refine sLr underlying27 rfl ?si F rfl rfl rfl (H.range 0 rfl _ 5) ?_
 case si=>exact info_size sizeOf27
 clear F a;intro a F;refine sMv F rfl rfl rfl ?_;clear F a;intro a F
 refine sBin F rfl rfl rfl rfl (bAddI ?_) ?_
 focus omega
 clear F a;intro a F;refine sCall call13 F rfl rfl rfl (sizeCond_any h (most+1) _ p.cond _ (hp.cond.own H) (by omega) (by omega)) ?_;rintro e w ⟨n43,rfl,hn1,hn2,hb⟩;replace H:=H.grow hb;clear hb;refine ⟨_,rfl,?_⟩;clear F a;intro a F;refine sBin F rfl rfl rfl rfl bAddW (qAs rfl rfl rfl (qNK hK9 ?_));clear hK9;clear F a;intro a F;refine wp_ret ?_;refine bRet results8 F rfl ?_
 refine ⟨_,rfl,fun hs hr=>?_,H.below⟩
 obtain ⟨hk1,hk2⟩:=hn hs
 have ht3:=hs.2.2.1
 rw [wrapI (by omega) (by omega)] at hr;rw [hn2 (by omega)]
 omega
set_option maxHeartbeats 4000000 in
theorem great_any (cs:List Value) (p:Prg) (LA:Option Addr) (LC:Nat) (IA:Option Addr) (IC:Nat) (TA:Option Addr) (TC h:Nat) (ccs:List Value) (w0:World) (hp:ProgCapIn w0 cs p LA LC IA IC TA TC h ccs) :
   Calls Tryz.prog 18 #[.agg cs.toArray] w0 fun e w'=>∃ g:Bool,e = .returned (.bool g)∧(g=false→Small p→sizeC p.cond≤400)∧Below w0.heap.size w0 w':=by
 obtain ⟨a1,a2,a3,a4,a5,a6,a7,rfl⟩:=condShape hp.cond.at
 have hcs:=hp.prog.cs
 simp only [List.cons_append,List.nil_append] at hcs
 subst hcs
 have hl1:=hp.prog.locsN
 have H:=Own.start w0 none
 refine enterF func18 rfl ntmps18 rfl (fun a F=>?_);refine cSR fun K1 hK1=>?_;refine sBx H F rfl rfl rfl ?_;clear F a H;intro b1 a w F H;refine sAs F rfl rfl rfl (qNK hK1 ?_);clear hK1;clear F a;intro a F;refine cSeq (fun K2 hK2=>?_);refine cSR fun K3 hK3=>?_
 refine sLr underlying29 rfl ?si F rfl rfl rfl (H.whole 0 rfl) ?_
 case si=>exact info_size sizeOf29
 clear F a;intro a F;refine sCall call8 F rfl rfl rfl (sizeProg_any _ p LA LC IA IC TA TC h _ 400 _ (hp.own H) (by omega)) ?_;rintro e w ⟨r6,rfl,hr6,hb⟩;replace H:=H.grow hb;clear hb;refine ⟨_,rfl,?_⟩;clear F a;intro a F;refine sBin F rfl rfl rfl rfl bGtr (qNK hK3 ?_);clear hK3;clear F a;intro a F
 refine cIf F rfl (fun h7=>?_) (fun h7=>?_)
 ·
  replace h7:=of_decide_eq_true h7;refine cSR fun K4 hK4=>sAs F rfl rfl rfl (qNK hK4 ?_);clear hK4;clear F a;intro a F;refine wp_ret ?_;simp only [Exit.then];refine bRet results18 F rfl ?_
  first | exact ⟨true,rfl,fun h=>(by cases h),H.below⟩ | exact ⟨_,rfl,fun _ hs=>hr6 hs (by omega),H.below⟩
 replace h7:=of_decide_eq_false h7;refine wp_skip (hK2 _ _ (cSR fun K5 hK5=>sFa (f:=0) (k:=0) underlying29 rfl sizeOf9 rfl rfl F rfl rfl rfl (qLd isAgg9 rfl rfl rfl (H.cell 0 rfl rfl) (qLenS underlying9 rfl rfl rfl (qAs rfl rfl rfl (qNK hK5 ?_))))));clear hK2 hK5;clear F a;intro a F;refine cSeq (fun K6 hK6=>?_);refine cSR fun K7 hK7=>sAs F rfl rfl rfl (qNK hK7 ?_);clear hK7;clear F a;intro a F;refine wp_block ?_
 refine cLoopR [1] (fun m ups w=>∃ (i:Nat) (n:Int),m=p.locs.length - i∧ups=[(3,.int .i64 n),(4,.int .i64 ((i:Nat):Int))]∧i≤p.locs.length∧Own w0 none w [.blk b1 ([.string p.name,.slice LA p.locs.length LC,.slice IA p.init.length IC,.slice TA p.threads.length TC,b8 p.ask]++[Go.Proofs.YtkchaoajegkadaaGreatDoor.b8 a1,Go.Proofs.YtkchaoajegkadaaGreatDoor.b8 a2,Go.Proofs.YtkchaoajegkadaaGreatDoor.b8 a3,Go.Proofs.YtkchaoajegkadaaGreatDoor.b8 a4,.slice a5 a6 a7]) 29]) F (p.locs.length) [(3,.int .i64 ((p.name.size:Nat):Int)),(4,.int .i64 ((0:Nat):Int))] (by repeat (first | exact SubR.nil | (apply SubR.cons;· rfl))) ?_ ?_ ?_
 · exact ⟨0,_,rfl,rfl,by omega,H.sel [0] rfl rfl⟩
 · repeat (first | exact trivial | refine Le.cons rfl ?_)
 clear F
 clear H
 intro m ups a w hI F
 obtain ⟨i,n,rfl,rfl,hi,H⟩:=hI
 refine cSeq (fun K8 hK8=>?_);refine cSR fun K9 hK9=>sMv F rfl rfl rfl (qFa (f:=1) (k:=1) underlying29 rfl sizeOf22 rfl rfl rfl rfl rfl (qLd isAgg22 rfl rfl rfl (H.cell 0 rfl rfl) (qLen underlying22 rfl rfl rfl (qBin rfl rfl rfl rfl bLss (qMv rfl rfl rfl ?_)))));clear F a;intro a F
 refine F.split 16 rfl ?_ ?_ <;> (clear F;intro h16 F)
 ·
  replace h16:=of_decide_eq_true h16;refine sMv F rfl rfl rfl (qBin rfl rfl rfl rfl bLeq (qPk rfl rfl rfl rfl (qNK hK9 ?_)));clear hK9;clear F a;intro a F
  refine cIf F rfl (fun h19=>?_) (fun h19=>?_)
  ·
   replace h19:=of_decide_eq_true h19
   obtain ⟨s,hs⟩:∃ s,p.locs[i]? = some s:=⟨_,List.getElem?_eq_getElem (by omega)⟩
   obtain ⟨bL,oL,rfl,hLx⟩:=mapAt hp.prog.locs hs
   refine wp_skip (hK8 _ _ ?_);clear hK8;refine cSeq (fun K10 hK10=>?_);refine wp_block ?_;refine cReg (sMv F rfl rfl rfl (qFa (f:=1) (k:=1) underlying29 rfl sizeOf22 rfl rfl rfl rfl rfl (qLd isAgg22 rfl rfl rfl (H.cell 0 rfl rfl) (qMv rfl rfl rfl ?_))));clear F a;intro a F
   refine sIx underlying22 sizeOf9 F rfl rfl rfl rfl ?_ ?_
   focus (first | omega | decide | (simp;omega))
   clear F a;intro a F;refine sLd isAgg9 F rfl rfl rfl (H.arg (hLx 0 _ rfl)) (qLenS underlying9 rfl rfl rfl (qBin rfl rfl rfl rfl bAddW (qAs rfl rfl rfl (qNK hK10 (qReg (qMv rfl rfl rfl ?_))))));clear hK10;clear F a;intro a F
   refine sBin F rfl rfl rfl rfl (bAddN (j:=1) ?_) ?_
   focus omega
   clear F a;intro a F;refine sAs F rfl rfl rfl ?_;clear F a;intro a F;refine sNil ?_
   exact ⟨_,by omega,_,⟨i+1,_,rfl,rfl,by omega,H.sel [0] rfl rfl⟩,F.to (by repeat (first | exact trivial | refine Le.cons rfl ?_))⟩
  replace h19:=of_decide_eq_false h19;refine wp_exit ?_;refine hK6 _ _ (cSR fun K11 hK11=>sMv F rfl rfl rfl (qBin rfl rfl rfl rfl bGtr (qAs rfl rfl rfl (qNK hK11 ?_))));clear hK6 hK11;clear F a;intro a F;refine wp_ret ?_;refine bRet results18 F rfl ?_
  first | exact ⟨true,rfl,fun h=>(by cases h),H.below⟩ | exact ⟨_,rfl,fun _ hs=>hr6 hs (by omega),H.below⟩
 replace h16:=of_decide_eq_false h16;refine sSk F rfl rfl (qSk rfl rfl (qPk rfl rfl rfl rfl (qNK hK9 ?_)));clear hK9;clear F a;intro a F;refine cIfF F rfl ?_;refine wp_exit ?_;refine hK6 _ _ (cSR fun K12 hK12=>sMv F rfl rfl rfl (qBin rfl rfl rfl rfl bGtr (qAs rfl rfl rfl (qNK hK12 ?_))));clear hK6 hK12;clear F a;intro a F;refine wp_ret ?_;refine bRet results18 F rfl ?_
 first | exact ⟨true,rfl,fun h=>(by cases h),H.below⟩ | exact ⟨_,rfl,fun _ hs=>hr6 hs (by omega),H.below⟩
-- LcF
open Go.Proofs.Tryz
open Go.RowKit
set_option maxRecDepth 100000
theorem sameP7 {w0:World} {p q:Prg} {cs1 cs2:List Value} {LA IA TA:Option Addr} {LC IC TC h:Nat} {ccs:List Value} {LA2 IA2 TA2:Option Addr} {LC2 IC2 TC2 h2:Nat} {ccs2:List Value} (hp:ProgIn w0 cs1 p LA LC IA IC TA TC h ccs) (hq:ProgIn w0 cs2 q LA2 LC2 IA2 IC2 TA2 TC2 h2 ccs2) (e:p=q) :
   Calls Tryz.prog 12 #[.agg cs1.toArray,.agg cs2.toArray] w0 fun e w'=>e = .returned (.bool true)∧Below w0.heap.size w0 w':=by
 subst e
 exact sameProg_any cs1 cs2 p LA LC IA IC TA TC h ccs LA2 LC2 IA2 IC2 TA2 TC2 h2 ccs2 w0 hp hq
theorem ans_right {s:ByteArray} {p:Prg} {n:Int} (h:rightErr p=0) (hn:n ≠ 3) (hp:PrintAns p s n):(printT p).length≤16384∧parseT (mk (printT p)) = .inr p∧s=mk (printT p)∧n=0:=by
 obtain ⟨h1,h2,h3⟩:=right_pr h
 rcases hp with ⟨_,_,h4⟩ | ⟨hl,h4,_⟩ | h4
 · exact absurd h4 hn
 · exact absurd (print_parse h1 h2 h3 hl) h4
 · exact h4
set_option maxHeartbeats 8000000 in
theorem checkPrints_any {w0:World} {cs:List Value} {p:Prg} {LA IA TA:Option Addr} {LC IC TC h:Nat} {ccs:List Value} (hp:ProgCapIn w0 cs p LA LC IA IC TA TC h ccs) (hN:NeedsAt w0) (hT:TenAt w0) :
   Calls Tryz.prog 6 #[.agg cs.toArray] w0 fun e w'=>e = .returned (.bool true)∧Below w0.heap.size w0 w':=by
 have hp0:=hp
 obtain ⟨a1,a2,a3,a4,a5,a6,a7,rfl⟩:=condShape hp.prog.cond
 have hcs:=hp.prog.cs
 simp only [List.cons_append,List.nil_append] at hcs
 subst hcs
 have hl3:=hp.prog.threadsN
 have H:=Own.start w0 none
 refine enterF func6 rfl ntmps6 rfl (fun a F=>?_);refine cSR fun K1 hK1=>?_;refine sBx H F rfl rfl rfl ?_;clear F a H;intro b1 a w F H;refine sAs F rfl rfl rfl (qNK hK1 ?_);clear hK1;clear F a;intro a F;refine cSeq (fun K2 hK2=>?_);refine cSR fun K3 hK3=>?_;refine sCall call17 F rfl rfl rfl (awake7_any _ (hN.own H)) ?_;rintro e w ⟨rfl,hb⟩;replace H:=H.grow hb;clear hb;refine ⟨_,rfl,?_⟩;clear F a;intro a F;refine sNot F rfl rfl rfl (qNK hK3 ?_);clear hK3;clear F a;intro a F
 refine cIf F rfl (fun h10=>?_) (fun h10=>?_)
 ·
  replace h10:=notT h10
  cases h10
 replace h10:=notF h10;refine wp_skip (hK2 _ _ ?_);clear hK2;refine cSeq (fun K4 hK4=>?_);refine cSR fun K5 hK5=>?_
 refine sLr underlying29 rfl ?si F rfl rfl rfl (H.whole 0 rfl) ?_
 case si=>exact info_size sizeOf29
 clear F a;intro a F;refine sCall call18 F rfl rfl rfl (great_any _ p LA LC IA IC TA TC h _ _ (hp0.own H)) ?_;rintro e w ⟨g12,rfl,_,hb⟩;replace H:=H.grow hb;clear hb;refine ⟨_,rfl,?_⟩;clear F a;intro a F;refine sMv F rfl rfl rfl ?_;clear F a;intro a F
 refine F.split 13 rfl ?_ ?_ <;> (clear F;intro h13 F)
 ·
  refine sSk F rfl rfl (qSk rfl rfl (qSk rfl rfl (qPk rfl rfl rfl rfl (qNK hK5 ?_))));clear hK5;clear F a;intro a F;refine cIfT F rfl ?_;refine cSR fun K6 hK6=>sAs F rfl rfl rfl (qNK hK6 ?_);clear hK6;clear F a;intro a F;refine wp_ret ?_;simp only [Exit.then];refine bRet results6 F rfl ?_
  first | exact ⟨rfl,H.below⟩ | exact ⟨by rw [show condOk p.threads.length p.locs.length 20 p.cond=true from right_demand hr 5 (by omega)],H.below⟩
 refine sLr underlying29 rfl ?si F rfl rfl rfl (H.whole 0 rfl) ?_
 case si=>exact info_size sizeOf29
 clear F a;intro a F;refine sCall call19 F rfl rfl rfl (right_any' _ p _ ⟨LA,LC,IA,IC,TA,TC,h,_,hp0.prog.own H⟩ (hN.own H)) ?_;rintro e w ⟨rfl,hb⟩;replace H:=H.grow hb;clear hb;refine ⟨_,rfl,?_⟩;clear F a;intro a F;refine sBin F rfl rfl rfl rfl bNeq (qPk rfl rfl rfl rfl (qNK hK5 ?_));clear hK5;clear F a;intro a F
 refine cIf F rfl (fun h17=>?_) (fun h17=>?_)
 ·
  replace h17:=bneT h17;refine cSR fun K7 hK7=>sAs F rfl rfl rfl (qNK hK7 ?_);clear hK7;clear F a;intro a F;refine wp_ret ?_;simp only [Exit.then];refine bRet results6 F rfl ?_
  first | exact ⟨rfl,H.below⟩ | exact ⟨by rw [show condOk p.threads.length p.locs.length 20 p.cond=true from right_demand hr 5 (by omega)],H.below⟩
 replace h17:=bneF h17
 have hr:rightErr p=0:=by first | exact h17 | simpa using h17
 have V:=valid hr
 obtain ⟨hpr,_,hz16⟩:=right_pr hr
 have zs:∀ s ∈ p.locs,s.size≤140737488351232:=fun s hs=>by have:=name_size (hpr.nm.ok s hs);omega
 have zn:p.name.size≤140737488351232:=by
   rw [toList_data] at hz16
   have:p.name.data.toList.length=p.name.size:=Array.length_toList
   omega
 refine wp_skip (hK4 _ _ ?_);clear hK4;refine cSeq (fun K8 hK8=>?_);refine cSR fun K9 hK9=>sAs F rfl rfl rfl (qNK hK9 ?_);clear hK9;clear F a;intro a F;refine wp_block ?_
 refine cLoopR [1] (fun m ups w=>∃ i:Nat,m=p.threads.length - i∧ups=[(3,.int .i64 ((i:Nat):Int))]∧i≤p.threads.length∧Own w0 none w [.blk b1 [.string p.name,.slice LA p.locs.length LC,.slice IA p.init.length IC,.slice TA p.threads.length TC,b8 p.ask,b8 a1,b8 a2,b8 a3,b8 a4,.slice a5 a6 a7] 29]) F (p.threads.length) [(3,.int .i64 ((0:Nat):Int))] (by repeat (first | exact SubR.nil | (apply SubR.cons;· rfl))) ?_ ?_ ?_
 · exact ⟨0,rfl,rfl,Nat.zero_le _,H⟩
 · repeat (first | exact trivial | refine Le.cons rfl ?_)
 clear F
 clear H
 intro m ups a w hI F
 obtain ⟨i,rfl,rfl,hi,H⟩:=hI
 refine cSeq (fun K10 hK10=>?_);refine cSR fun K11 hK11=>sMv F rfl rfl rfl (qFa (f:=3) (k:=3) underlying29 rfl sizeOf24 rfl rfl rfl rfl rfl (qLd isAgg24 rfl rfl rfl (H.cell 0 rfl rfl) (qLen underlying24 rfl rfl rfl (qBin rfl rfl rfl rfl bLss (qNK hK11 ?_)))));clear hK11;clear F a;intro a F
 refine cIf F rfl (fun h22=>?_) (fun h22=>?_)
 ·
  replace h22:=of_decide_eq_true h22
  obtain ⟨t,ht⟩:∃ t,p.threads[i]? = some t:=⟨_,List.getElem?_eq_getElem (by omega)⟩
  obtain ⟨bT,oT,XT,XC,rfl,hTx,hrx,htl⟩:=hp.prog.threads i t ht
  have ht12:=V.long i t ht
  have hok:threadOk p.locs.length t=true:=by unfold threadOk;rw [decide_eq_true ht12,V.ins i t ht];rfl
  refine wp_skip (hK10 _ _ ?_);clear hK10;refine cSeq (fun K12 hK12=>?_);refine wp_block ?_;refine cSeq (fun K13 hK13=>?_);refine cRegRO (by kernel_rfl) H ?_;replace H:=H.drew;refine eTF 0 rfl (by kernel_rfl) F rfl rfl rfl (fun w=>rFa (f:=3) (k:=3) underlying29 rfl sizeOf24 rfl rfl F rfl) H qq0 (qT 1 rfl (by kernel_rfl) rfl rfl rfl rfl (fun a F w H=>rLd isAgg24 F rfl (H.cell 0 rfl rfl)) H qq0 (qTF 2 rfl (by kernel_rfl) rfl rfl rfl (fun a F w=>rMv F rfl) H qq0 ?_));clear F a;intro a F
  refine eTakeF (k:=3) (i:=3) rfl (by kernel_rfl) F rfl rfl rfl (fun w=>rIx underlying24 sizeOf52 F rfl rfl ?_) H (fun _ _ _ h=>h) ?_
  focus (first | omega | decide | (simp;omega))
  clear F a;intro a F;refine eT 4 rfl (by kernel_rfl) F rfl rfl rfl rfl (fun w H=>rLd isAgg52 F rfl (H.arg hTx)) H qq0 (qTF 5 rfl (by kernel_rfl) rfl rfl rfl (fun a F w=>rFa (f:=1) (k:=1) underlying29 rfl sizeOf22 rfl rfl F rfl) H qq0 (qT 6 rfl (by kernel_rfl) rfl rfl rfl rfl (fun a F w H=>rLd isAgg22 F rfl (H.cell 0 rfl rfl)) H qq0 (qT 7 rfl (by kernel_rfl) rfl rfl rfl rfl (fun a F w H=>rLen underlying22 F rfl) H qq0 ?_)));clear F a;intro a F;refine eOne (k:=8) (i:=8) rfl (by kernel_rfl) F rfl (oCall call20 F rfl rfl (thread_any XT XC t (p.locs.length:Int) _ (hrx.own H) (hN.own H) htl) ?_);rintro e w ⟨rfl,hb⟩;replace H:=H.grow hb;clear hb;refine ⟨_,rfl,?_⟩;clear F a;intro a F;refine ePartO (by kernel_rfl) H ?_;refine eTF 9 rfl (by kernel_rfl) F rfl rfl rfl (fun w=>rNot F rfl) H qq0 (qTF 10 rfl (by kernel_rfl) rfl rfl rfl (fun a F w=>rMv F rfl) H qq0 ?_);clear F a;intro a F
  refine F.split 35 rfl ?_ ?_ <;> (clear F;intro h35 F)
  ·
   replace h35:=notT h35
   rw [hok] at h35;cases h35
  replace h35:=notF h35;refine eTF 11 rfl (by kernel_rfl) F rfl rfl rfl (fun w=>rFa (f:=3) (k:=3) underlying29 rfl sizeOf24 rfl rfl F rfl) H qq0 (qT 12 rfl (by kernel_rfl) rfl rfl rfl rfl (fun a F w H=>rLd isAgg24 F rfl (H.cell 0 rfl rfl)) H qq0 (qTF 13 rfl (by kernel_rfl) rfl rfl rfl (fun a F w=>rMv F rfl) H qq0 ?_));clear F a;intro a F
  refine eTakeF (k:=14) (i:=14) rfl (by kernel_rfl) F rfl rfl rfl (fun w=>rIx underlying24 sizeOf52 F rfl rfl ?_) H (fun _ _ _ h=>h) ?_
  focus (first | omega | decide | (simp;omega))
  clear F a;intro a F;refine eT 15 rfl (by kernel_rfl) F rfl rfl rfl rfl (fun w H=>rLd isAgg52 F rfl (H.arg hTx)) H qq0 (qT 16 rfl (by kernel_rfl) rfl rfl rfl rfl (fun a F w H=>rLen underlying52 F rfl) H qq0 (qTF 17 rfl (by kernel_rfl) rfl rfl rfl (fun a F w=>rBin F rfl rfl bGtr) H qq0 (qTF 18 rfl (by kernel_rfl) rfl rfl rfl (fun a F w=>rPk F rfl rfl) H qq0 ?_)));clear F a;intro a F;refine eNil (k:=19) (by kernel_rfl) ?_;refine hK13 _ _ ?_;clear hK13
  refine cIf F rfl (fun h43=>?_) (fun h43=>?_)
  ·
   replace h43:=of_decide_eq_true h43
   omega
  replace h43:=of_decide_eq_false h43;refine wp_skip (hK12 _ _ (cReg (sMv F rfl rfl rfl ?_)));clear hK12;clear F a;intro a F
  refine sBin F rfl rfl rfl rfl (bAddN (j:=1) ?_) ?_
  focus omega
  clear F a;intro a F;refine sAs F rfl rfl rfl ?_;clear F a;intro a F;refine sNil ?_
  exact ⟨_,by omega,_,⟨i+1,rfl,rfl,by omega,H⟩,F.to (by repeat (first | exact trivial | refine Le.cons rfl ?_))⟩
 replace h22:=of_decide_eq_false h22;refine wp_exit ?_;refine hK8 _ _ (cSR fun K14 hK14=>?_);clear hK8
 refine sLr underlying29 rfl ?si F rfl rfl rfl (H.whole 0 rfl) ?_
 case si=>exact info_size sizeOf29
 clear F a;intro a F;refine sCall call10 F rfl rfl rfl (print_any (hp0.prog.own H) zs zn (hT.below H.below)) ?_;rintro e w ⟨⟨s46,n46,rfl,h46⟩,hb⟩;replace H:=H.grow hb;clear hb;refine ⟨_,rfl,?_⟩;clear F a;intro a F;refine sMv F rfl rfl rfl (qExt rfl rfl rfl rfl (qExt rfl rfl rfl rfl (qAs rfl rfl rfl (qAs rfl rfl rfl (qNK hK14 ?_)))));clear hK14;clear F a;intro a F;refine cSeq (fun K15 hK15=>?_);refine cSR fun K16 hK16=>sMv F rfl rfl rfl (qBin rfl rfl rfl rfl bEql (qNK hK16 ?_));clear hK16;clear F a;intro a F
 refine cIf F rfl (fun h50=>?_) (fun h50=>?_)
 ·
  replace h50:=beqT h50;refine cSR fun K17 hK17=>sAs F rfl rfl rfl (qNK hK17 ?_);clear hK17;clear F a;intro a F;refine wp_ret ?_;simp only [Exit.then];refine bRet results6 F rfl ?_
  first | exact ⟨rfl,H.below⟩ | exact ⟨by rw [show condOk p.threads.length p.locs.length 20 p.cond=true from right_demand hr 5 (by omega)],H.below⟩
 replace h50:=beqF h50
 obtain ⟨hlen,hback,rfl,rfl⟩:=ans_right hr (by first | exact h50 | simpa using h50) h46
 have hsz:(mk (printT p)).size=(printT p).length:=mk_size _
 refine wp_skip (hK15 _ _ (cSR fun K18 hK18=>sMv F rfl rfl rfl ?_));clear hK15;clear F a;intro a F;refine sCall call11 F rfl rfl rfl (pparse2_any (mk (printT p)) (by simp only [maxLen];omega) H) ?_;rintro e w ⟨q,pl,er,mm,rfl,hh,H,hpp⟩
 obtain ⟨hq,rfl,rfl⟩:=pparse_in hpp hback
 have hq:=hq.symm
 subst hq;refine ⟨_,rfl,?_⟩;clear F a;intro a F;refine sMv F rfl rfl rfl (qExt rfl rfl rfl rfl (qExt rfl rfl rfl rfl (qExt rfl rfl rfl rfl ?_)));clear F a;intro a F;refine sAl H zeroValue29 F rfl rfl ?_;clear F a H;intro b6 a w F H
 refine sSr H 0 ?si F rfl rfl rfl ?s1 rfl rfl ?_
 case si=>exact info_size sizeOf29
 case s1=>first | rfl | (repeat (first | exact one_nil | (apply one_cons;· first | rfl | assumption | exact one_bif rfl rfl)))
 clear H;intro w H;refine sAs F rfl rfl rfl (qAs rfl rfl rfl (qNK hK18 (qSR fun K19 hK19=>qMv rfl rfl rfl (qBin rfl rfl rfl rfl bEql (qMv rfl rfl rfl ?_)))));clear hK18;clear F a;intro a F
 refine F.split 59 rfl ?_ ?_ <;> (clear F;intro h59 F)
 ·
  replace h59:=beqT h59;refine sMv F rfl rfl rfl (qBin rfl rfl rfl rfl bEql (qPk rfl rfl rfl rfl (qMv rfl rfl rfl ?_)));clear F a;intro a F
  refine F.split 63 rfl ?_ ?_ <;> (clear F;intro h63 F)
  ·
   replace h63:=beqT h63
   refine sLr underlying29 rfl ?si F rfl rfl rfl (H.whole 2 rfl) ?_
   case si=>exact info_size sizeOf29
   clear F a;intro a F
   refine sLr underlying29 rfl ?si F rfl rfl rfl (H.whole 0 rfl) ?_
   case si=>exact info_size sizeOf29
   clear F a;intro a F;refine sCall call12 F rfl rfl rfl (sameP7 (hp0.prog.own H) (progIn_of (H.prw 1 rfl) (psz_of hback)) rfl) ?_;rintro e w ⟨rfl,hb⟩;replace H:=H.grow hb;clear hb;refine ⟨_,rfl,?_⟩;clear F a;intro a F;refine sPk F rfl rfl rfl rfl (qMv rfl rfl rfl ?_);clear F a;intro a F
   refine F.split 68 rfl ?_ ?_ <;> (clear F;intro h68 F)
   ·
    refine sLr underlying29 rfl ?si F rfl rfl rfl (H.whole 0 rfl) ?_
    case si=>exact info_size sizeOf29
    clear F a;intro a F;refine sCall call19 F rfl rfl rfl (right_any' _ p _ ⟨_,_,_,_,_,_,_,_,progIn_of (H.prw 1 rfl) (psz_of hback)⟩ (hN.own H)) ?_;rintro e w ⟨rfl,hb⟩;replace H:=H.grow hb;clear hb;refine ⟨_,rfl,?_⟩;clear F a;intro a F;refine sBin F rfl rfl rfl rfl bEql (qPk rfl rfl rfl rfl (qMv rfl rfl rfl ?_));clear F a;intro a F
    refine F.split 73 rfl ?_ ?_ <;> (clear F;intro h73 F)
    ·
     replace h73:=beqT h73;refine sFa (f:=5) (k:=5) underlying29 rfl sizeOf27 rfl rfl F rfl rfl rfl ?_;clear F a;intro a F
     refine sLr underlying27 rfl ?si F rfl rfl rfl (H.range 2 rfl _ 5) ?_
     case si=>exact info_size sizeOf27
     clear F a;intro a F;refine sFa (f:=3) (k:=3) underlying29 rfl sizeOf24 rfl rfl F rfl rfl rfl (qLd isAgg24 rfl rfl rfl (H.cell 2 rfl rfl) (qLen underlying24 rfl rfl rfl (qFa (f:=1) (k:=1) underlying29 rfl sizeOf22 rfl rfl rfl rfl rfl (qLd isAgg22 rfl rfl rfl (H.cell 2 rfl rfl) (qLen underlying22 rfl rfl rfl ?_)))));clear F a;intro a F;refine sCall call21 F rfl rfl rfl (cond_any (p.threads.length:Int) (p.locs.length:Int) h _ p.cond _ (CondAt.grown H.grown rfl _ _ _ hp0.prog.cond)) ?_;rintro e w ⟨rfl,hb⟩;replace H:=H.grow hb;clear hb;refine ⟨_,rfl,?_⟩;clear F a;intro a F;refine sPk F rfl rfl rfl rfl (qAs rfl rfl rfl (qNK hK19 ?_));clear hK19;clear F a;intro a F;refine wp_ret ?_;refine bRet results6 F rfl ?_
     first | exact ⟨rfl,H.below⟩ | exact ⟨by rw [show condOk p.threads.length p.locs.length 20 p.cond=true from right_demand hr 5 (by omega)],H.below⟩
    replace h73:=beqF h73
    first | exact absurd hr h73 | (rw [hr] at h73;exact absurd rfl h73)
   first | exact absurd rfl h68 | cases h68 | exact absurd h68 (by decide)
  replace h63:=beqF h63
  first | exact absurd rfl h63 | cases h63 | exact absurd h63 (by decide)
 replace h59:=beqF h59
 first | exact absurd rfl h59 | cases h59 | exact absurd h59 (by decide)
theorem checkPrints_any' {w0:World} {cs:List Value} {p:Prg} (hP:ProgCap w0 cs p) (hN:NeedsAt w0) (hT:TenAt w0) :
   Calls Tryz.prog 6 #[.agg cs.toArray] w0 fun e w'=>e = .returned (.bool true)∧Below w0.heap.size w0 w':=by
 obtain ⟨LA,LC,IA,IC,TA,TC,h,ccs,hp⟩:=hP
 exact checkPrints_any hp hN hT
end Go.Proofs.YtkchaoajegkadaaGreatDoor
