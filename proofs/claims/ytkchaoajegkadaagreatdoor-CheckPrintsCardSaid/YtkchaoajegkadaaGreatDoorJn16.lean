/-
  WALK2. Package check: sweep. Conditions: the thread lies in memory, apart from the block of what is alive; skips stay within the thread.
-/
import Derived.Test.YtkchaoajegkadaaGreatDoorJn15
set_option linter.unusedSimpArgs false
set_option linter.unusedVariables false
namespace Go.Proofs.YtkchaoajegkadaaGreatDoor
-- FoC
open Go.Proofs.Tryz
open Go.RowKit
set_option maxRecDepth 100000
theorem Own.startRow {w:World} {b:Nat} {cs:List Value} {t:TypeId} (h:Blk w b cs t):Own w (some b) w [.blk b cs t] where
 grown:=only_refl w _
 pred:=fun i r hi=>by
   cases i with
   | zero=>cases hi;exact h
   | succ i=>simp at hi
 foot:=fun i r hi c hc=>by
   cases i with
   | zero=>
     cases hi
     have hc:c=b:=hc
     subst hc
     exact ⟨.inr rfl,(Array.getElem?_eq_some_iff.1 h).1⟩
   | succ i=>simp at hi
 apart:=fun i j r s hi hj hij=>by
   cases i with
   | zero=>cases j with
     | zero=>exact absurd rfl hij
     | succ j=>simp at hj
   | succ i=>simp at hi
theorem bl_at {l:List Bool} {i:Nat} {v:Bool} (h:l[i]? = some v):(bl l)[0+i * 1]? = some (.bool v):=by rw [Nat.zero_add,Nat.mul_one];exact bl_get h
theorem bl_put {l:List Bool} {i:Nat} {v:Bool}:(bl l).set (0+i * 1) (.bool v)=bl (l.set i v):=by rw [Nat.zero_add,Nat.mul_one,bl_set]
theorem RowsAt.oldRow {w0 w:World} {b:Nat} {rs:List Res} {A:Option Addr} {sz:Nat} {rows:List (List Value)} (h:RowsAt w0 A sz rows) (H:Own w0 (some b) w rs) (hne:∀ b' o,A=some ⟨b',o,none⟩→b' ≠ b):RowsAt w A sz rows:=fun j cs hj=>by
 obtain ⟨b',o,h1,h2⟩:=h j cs hj
 exact ⟨b',o,h1,fun k v hv=>H.old (h2 k v hv) (fun e=>hne b' o h1 (Option.some.inj e))⟩
theorem getD_of {l:List Bool} {i:Nat} {v:Bool} (h:l[i]? = some v):l.getD i false=v:=by rw [List.getD_eq_getElem?_getD,h];rfl
theorem reach_start (n:Nat):(List.replicate (n+1) (Value.bool false)).set (0+0 * 1) (.bool true)=bl (true :: List.replicate n false):=by
 rw [bl_rep,bl_put];rfl
set_option maxHeartbeats 4000000 in
theorem sweep_any (A:Option Addr) (C:Nat) (l:List Ins) (b:Nat) (alive:List Bool) (w0:World) (hR:RowsAt w0 A 10 (l.map Ins.cells)) (hB:Blk w0 b (bl alive) 4) (hl:alive.length=l.length) (h12:l.length≤12)
   (hv:∀ i x,l[i]? = some x→x.op=8→1≤x.skip.toNat∧i+1+x.skip.toNat≤l.length) (hne:0 < l.length→∀ b' o,A=some ⟨b',o,none⟩→b' ≠ b) :
   Calls Tryz.prog 148 #[.slice A l.length C,.slice (some ⟨b,0,none⟩) alive.length alive.length] w0 fun e w'=>e = .returned (.bool (sweepP l alive).2)∧Own w0 (some b) w' [.blk b (bl (sweepP l alive).1) 4]:=by
 have H:=Own.startRow hB
 refine enterF func148 rfl ntmps148 rfl (fun a F=>?_);refine cSR fun K1 hK1=>sAs F rfl rfl rfl (qNK hK1 (qSR fun K2 hK2=>qMv rfl rfl rfl (qLen underlying52 rfl rfl rfl ?_)));clear hK1;clear F a;intro a F
 refine sBin F rfl rfl rfl rfl (bAddN (j:=1) ?_) ?_
 focus omega
 clear F a;intro a F;refine sMk (z:=.bool false) (bytes:=1) H underlying172 (by kernel_rfl) rfl F rfl rfl rfl rfl (by omega) (by omega) ?_;clear F a H;intro b16 a w F H;refine sAs F rfl rfl rfl (qNK hK2 (qSR fun K3 hK3=>qMv rfl rfl rfl ?_));clear hK2;clear F a;intro a F
 refine sIx (j:=0) underlying172 sizeOf4 F rfl rfl rfl rfl ?_ ?_
 focus (first | omega | decide | (simp;omega))
 clear F a;intro a F
 refine sSt H 0 sizeOf4 F rfl rfl rfl rfl rfl (List.getElem?_eq_getElem (by simp)) ?_
 clear H;intro w H;refine nK hK3 ?_;clear hK3;refine cSeq (fun K4 hK4=>?_);refine cSR fun K5 hK5=>sMv F rfl rfl rfl (qLen underlying52 rfl rfl rfl (qMv rfl rfl rfl (qNK hK5 ?_)));clear hK5;clear F a;intro a F;refine wp_block ?_
 refine cLoopR [0,1,5,19,20] (fun m ups w=>∃ k:Nat,m=l.length - k∧ups=[(21,.int .i64 ((k:Nat):Int))]∧k≤l.length∧Own w0 (some b) w [.blk b16 (bl (reachP l alive k)) 4,.blk b (bl alive) 4]) F (l.length) [(21,.int .i64 ((0:Nat):Int))] (by repeat (first | exact SubR.nil | (apply SubR.cons;· rfl))) ?_ ?_ ?_
 · exact ⟨0,rfl,rfl,by omega,by rw [reach_start] at H;exact H⟩
 · repeat (first | exact trivial | refine Le.cons rfl ?_)
 clear F
 clear H
 intro m ups a w hI F
 obtain ⟨k,rfl,rfl,hk,H⟩:=hI
 have hrl:=reachP_length l alive k
 refine cSR fun K6 hK6=>sBin F rfl rfl rfl rfl bLss (qNK hK6 ?_);clear hK6;clear F a;intro a F;refine cSeq (fun K7 hK7=>?_)
 refine cIf F rfl (fun h22=>?_) (fun h22=>?_)
 ·
  replace h22:=of_decide_eq_true h22
  have hkl:k < l.length:=by omega
  obtain ⟨x,hx⟩:∃ x,l[k]? = some x:=⟨_,List.getElem?_eq_getElem hkl⟩
  obtain ⟨bI,oI,rfl,hIx⟩:=hR k x.cells (by rw [List.getElem?_map,hx];rfl)
  have hneI:=hne (by omega) bI oI rfl
  obtain ⟨rv,hrv⟩:∃ v,(reachP l alive k)[k]? = some v:=⟨_,List.getElem?_eq_getElem (by omega)⟩
  obtain ⟨av,hav⟩:∃ v,alive[k]? = some v:=⟨_,List.getElem?_eq_getElem (by omega)⟩
  obtain ⟨r1,hr1⟩:∃ v,(reachP l alive k)[k+1]? = some v:=⟨_,List.getElem?_eq_getElem (by omega)⟩
  have hrk:=reachP_at (alive:=alive) hx
  rw [getD_of hav,reach1,getD_of hrv] at hrk;refine wp_skip (hK7 _ _ ?_);clear hK7;refine cSeq (fun K8 hK8=>?_);refine wp_block ?_;refine cSR fun K9 hK9=>sMv F rfl rfl rfl ?_;clear F a;intro a F
  refine sIx underlying52 sizeOf44 F rfl rfl rfl rfl ?_ ?_
  focus (first | omega | decide | (simp;omega))
  clear F a;intro a F
  refine sLr underlying44 rfl ?si F rfl rfl rfl (fun j v hj=>H.old (hIx j v hj) (fun e=>hneI (Option.some.inj e))) ?_
  case si=>exact info_size sizeOf44
  clear F a;intro a F;refine sAl H zeroValue44 F rfl rfl ?_;clear F a H;intro b7 a w F H;refine sAs F rfl rfl rfl ?_;clear F a;intro a F
  refine sSr H 0 ?si F rfl rfl rfl ?s1 rfl rfl ?_
  case si=>exact info_size sizeOf44
  case s1=>first | rfl | (repeat (first | exact one_nil | (apply one_cons;· first | rfl | assumption | exact one_bif rfl rfl)))
  clear H;intro w H;refine nK hK9 ?_;clear hK9;refine cSeq (fun K10 hK10=>?_);refine cSR fun K11 hK11=>sMv F rfl rfl rfl (qMv rfl rfl rfl ?_);clear F a;intro a F
  refine sIx underlying172 sizeOf4 F rfl rfl rfl rfl ?_ ?_
  focus (first | omega | decide | (simp;omega))
  clear F a;intro a F;refine sLd isAgg4 F rfl rfl rfl (H.cell 1 rfl (bl_at hrv)) (qNot rfl rfl rfl (qNK hK11 ?_));clear hK11;clear F a;intro a F
  refine cIf F rfl (fun h30=>?_) (fun h30=>?_)
  ·
   replace h30:=notT h30;refine wp_exit ?_;refine hK8 _ _ (cReg ?_);clear hK8
   refine sBin F rfl rfl rfl rfl (bAddN (j:=1) ?_) ?_
   focus omega
   clear F a;intro a F;refine sMv F rfl rfl rfl ?_;clear F a;intro a F;refine sNil ?_
   refine ⟨_,by omega,_,⟨k+1,rfl,rfl,by omega,?_⟩,F.to (by repeat (first | exact trivial | refine Le.cons rfl ?_))⟩
   have hq:∀ q,q=reachP l alive (k+1)→Own w0 (some b) w [.blk b16 (bl q) 4,.blk b (bl alive) 4]→Own w0 (some b) w [.blk b16 (bl (reachP l alive (k+1))) 4,.blk b (bl alive) 4]:=fun q e H=>e ▸ H
   try simp only [List.getElem_toArray,List.getElem_cons_zero,List.getElem_cons_succ,bl_put] at H
   refine hq _ ?_ (H.sel [1,2] rfl rfl)
   rw [hrk,getD_of hr1]
   clear H F hq hrk hv hne
   simp [*]
  replace h30:=notF h30;refine wp_skip (hK10 _ _ (cSR fun K12 hK12=>sAs F rfl rfl rfl (qAs rfl rfl rfl (qNK hK12 ?_))));clear hK10 hK12;clear F a;intro a F;refine cSeq (fun K13 hK13=>?_);refine cSR fun K14 hK14=>sMv F rfl rfl rfl (qMv rfl rfl rfl ?_);clear F a;intro a F
  refine sIx underlying172 sizeOf4 F rfl rfl rfl rfl ?_ ?_
  focus (first | omega | decide | (simp;omega))
  clear F a;intro a F;refine sLd isAgg4 F rfl rfl rfl (H.cell 2 rfl (bl_at hav)) (qMv rfl rfl rfl ?_);clear F a;intro a F
  refine F.split 35 rfl ?_ ?_ <;> (clear F;intro h35 F)
  ·
   refine sFa (f:=0) (k:=0) underlying44 rfl sizeOf5 rfl rfl F rfl rfl rfl (qLd isAgg5 rfl rfl rfl (H.cell 0 rfl rfl) (qBin rfl rfl rfl rfl (bEqlB (y:=8)) (qPk rfl rfl rfl rfl (qNK hK14 ?_))));clear hK14;clear F a;intro a F
   refine cIf F rfl (fun h39=>?_) (fun h39=>?_)
   ·
    replace h39:=beqT h39
    obtain ⟨hs1,hs2⟩:=hv k x hx h39
    refine cReg ?_
    refine sLr underlying44 rfl ?si F rfl rfl rfl (H.whole 0 rfl) ?_
    case si=>exact info_size sizeOf44
    clear F a;intro a F;refine sCall call158 F rfl rfl rfl (ways_any x _) ?_;rintro e w ⟨rfl,hb⟩;replace H:=H.grow hb;clear hb;refine ⟨_,rfl,?_⟩;clear F a;intro a F;refine sMv F rfl rfl rfl (qExt rfl rfl rfl rfl (qExt rfl rfl rfl rfl (qAs rfl rfl rfl (qAs rfl rfl rfl (qNK hK13 (qSR fun K15 hK15=>qMv rfl rfl rfl (qMv rfl rfl rfl ?_)))))));clear hK13;clear F a;intro a F
    refine sBin F rfl rfl rfl rfl (bAddN (j:=1) ?_) ?_
    focus omega
    clear F a;intro a F;refine sMv F rfl rfl rfl (qMv rfl rfl rfl ?_);clear F a;intro a F
    refine sBin F rfl rfl rfl rfl (bAddN (j:=1) ?_) ?_
    focus omega
    clear F a;intro a F
    refine sIx underlying172 sizeOf4 F rfl rfl rfl rfl ?_ ?_
    focus (first | omega | decide | (simp;omega))
    clear F a;intro a F;refine sLd isAgg4 F rfl rfl rfl (H.cell 1 rfl (bl_at hr1)) (qMv rfl rfl rfl ?_);clear F a;intro a F
    refine F.split 53 rfl ?_ ?_ <;> (clear F;intro h53 F)
    ·
     refine sSk F rfl rfl (qPk rfl rfl rfl rfl ?_);clear F a;intro a F
     refine sIx underlying172 sizeOf4 F rfl rfl rfl rfl ?_ ?_
     focus (first | omega | decide | (simp;omega))
     clear F a;intro a F
     refine sSt H 1 sizeOf4 F rfl rfl rfl rfl rfl (List.getElem?_eq_getElem (by simp;omega)) ?_
     clear H;intro w H;refine nK hK15 (cSR fun K16 hK16=>sMv F rfl rfl rfl (qNK hK16 ?_));clear hK15 hK16;clear F a;intro a F
     refine cIf F rfl (fun h57=>?_) (fun h57=>?_)
     ·
      refine cReg (sMv F rfl rfl rfl (qMv rfl rfl rfl ?_));clear F a;intro a F
      refine sBin F rfl rfl rfl rfl (bAddN (j:=1) ?_) ?_
      focus omega
      clear F a;intro a F;refine sFa (f:=7) (k:=9) underlying44 rfl sizeOf5 rfl rfl F rfl rfl rfl (qLd isAgg5 rfl rfl rfl (H.cell 0 rfl rfl) (qCv underlying5 underlying3 rfl rfl rfl (wrapB _) ?_));clear F a;intro a F
      refine sBin F rfl rfl rfl rfl (bAddN ?_) ?_
      focus omega
      clear F a;intro a F
      refine sIx underlying172 sizeOf4 F rfl rfl rfl rfl ?_ ?_
      focus (first | omega | decide | (simp;omega))
      clear F a;intro a F
      refine sSt H 1 sizeOf4 F rfl rfl rfl rfl rfl (List.getElem?_eq_getElem (by simp;omega)) ?_
      clear H;intro w H;refine nK hK8 (cReg ?_);clear hK8
      refine sBin F rfl rfl rfl rfl (bAddN (j:=1) ?_) ?_
      focus omega
      clear F a;intro a F;refine sMv F rfl rfl rfl ?_;clear F a;intro a F;refine sNil ?_
      refine ⟨_,by omega,_,⟨k+1,rfl,rfl,by omega,?_⟩,F.to (by repeat (first | exact trivial | refine Le.cons rfl ?_))⟩
      have hq:∀ q,q=reachP l alive (k+1)→Own w0 (some b) w [.blk b16 (bl q) 4,.blk b (bl alive) 4]→Own w0 (some b) w [.blk b16 (bl (reachP l alive (k+1))) 4,.blk b (bl alive) 4]:=fun q e H=>e ▸ H
      try simp only [List.getElem_toArray,List.getElem_cons_zero,List.getElem_cons_succ,bl_put] at H
      refine hq _ ?_ (H.sel [1,2] rfl rfl)
      rw [hrk,getD_of hr1]
      clear H F hq hrk hv hne
      simp [*]
     refine wp_skip (hK8 _ _ (cReg ?_));clear hK8
     refine sBin F rfl rfl rfl rfl (bAddN (j:=1) ?_) ?_
     focus omega
     clear F a;intro a F;refine sMv F rfl rfl rfl ?_;clear F a;intro a F;refine sNil ?_
     refine ⟨_,by omega,_,⟨k+1,rfl,rfl,by omega,?_⟩,F.to (by repeat (first | exact trivial | refine Le.cons rfl ?_))⟩
     have hq:∀ q,q=reachP l alive (k+1)→Own w0 (some b) w [.blk b16 (bl q) 4,.blk b (bl alive) 4]→Own w0 (some b) w [.blk b16 (bl (reachP l alive (k+1))) 4,.blk b (bl alive) 4]:=fun q e H=>e ▸ H
     try simp only [List.getElem_toArray,List.getElem_cons_zero,List.getElem_cons_succ,bl_put] at H
     refine hq _ ?_ (H.sel [1,2] rfl rfl)
     rw [hrk,getD_of hr1]
     clear H F hq hrk hv hne
     simp [*]
    refine sMv F rfl rfl rfl (qPk rfl rfl rfl rfl ?_);clear F a;intro a F
    refine sIx underlying172 sizeOf4 F rfl rfl rfl rfl ?_ ?_
    focus (first | omega | decide | (simp;omega))
    clear F a;intro a F
    refine sSt H 1 sizeOf4 F rfl rfl rfl rfl rfl (List.getElem?_eq_getElem (by simp;omega)) ?_
    clear H;intro w H;refine nK hK15 (cSR fun K17 hK17=>sMv F rfl rfl rfl (qNK hK17 ?_));clear hK15 hK17;clear F a;intro a F
    refine cIf F rfl (fun h57=>?_) (fun h57=>?_)
    ·
     refine cReg (sMv F rfl rfl rfl (qMv rfl rfl rfl ?_));clear F a;intro a F
     refine sBin F rfl rfl rfl rfl (bAddN (j:=1) ?_) ?_
     focus omega
     clear F a;intro a F;refine sFa (f:=7) (k:=9) underlying44 rfl sizeOf5 rfl rfl F rfl rfl rfl (qLd isAgg5 rfl rfl rfl (H.cell 0 rfl rfl) (qCv underlying5 underlying3 rfl rfl rfl (wrapB _) ?_));clear F a;intro a F
     refine sBin F rfl rfl rfl rfl (bAddN ?_) ?_
     focus omega
     clear F a;intro a F
     refine sIx underlying172 sizeOf4 F rfl rfl rfl rfl ?_ ?_
     focus (first | omega | decide | (simp;omega))
     clear F a;intro a F
     refine sSt H 1 sizeOf4 F rfl rfl rfl rfl rfl (List.getElem?_eq_getElem (by simp;omega)) ?_
     clear H;intro w H;refine nK hK8 (cReg ?_);clear hK8
     refine sBin F rfl rfl rfl rfl (bAddN (j:=1) ?_) ?_
     focus omega
     clear F a;intro a F;refine sMv F rfl rfl rfl ?_;clear F a;intro a F;refine sNil ?_
     refine ⟨_,by omega,_,⟨k+1,rfl,rfl,by omega,?_⟩,F.to (by repeat (first | exact trivial | refine Le.cons rfl ?_))⟩
     have hq:∀ q,q=reachP l alive (k+1)→Own w0 (some b) w [.blk b16 (bl q) 4,.blk b (bl alive) 4]→Own w0 (some b) w [.blk b16 (bl (reachP l alive (k+1))) 4,.blk b (bl alive) 4]:=fun q e H=>e ▸ H
     try simp only [List.getElem_toArray,List.getElem_cons_zero,List.getElem_cons_succ,bl_put] at H
     refine hq _ ?_ (H.sel [1,2] rfl rfl)
     rw [hrk,getD_of hr1]
     clear H F hq hrk hv hne
     simp [*]
    refine wp_skip (hK8 _ _ (cReg ?_));clear hK8
    refine sBin F rfl rfl rfl rfl (bAddN (j:=1) ?_) ?_
    focus omega
    clear F a;intro a F;refine sMv F rfl rfl rfl ?_;clear F a;intro a F;refine sNil ?_
    refine ⟨_,by omega,_,⟨k+1,rfl,rfl,by omega,?_⟩,F.to (by repeat (first | exact trivial | refine Le.cons rfl ?_))⟩
    have hq:∀ q,q=reachP l alive (k+1)→Own w0 (some b) w [.blk b16 (bl q) 4,.blk b (bl alive) 4]→Own w0 (some b) w [.blk b16 (bl (reachP l alive (k+1))) 4,.blk b (bl alive) 4]:=fun q e H=>e ▸ H
    try simp only [List.getElem_toArray,List.getElem_cons_zero,List.getElem_cons_succ,bl_put] at H
    refine hq _ ?_ (H.sel [1,2] rfl rfl)
    rw [hrk,getD_of hr1]
    clear H F hq hrk hv hne
    simp [*]
   replace h39:=beqF h39;refine wp_skip (hK13 _ _ (cSR fun K18 hK18=>sMv F rfl rfl rfl (qMv rfl rfl rfl ?_)));clear hK13;clear F a;intro a F
   refine sBin F rfl rfl rfl rfl (bAddN (j:=1) ?_) ?_
   focus omega
   clear F a;intro a F;refine sMv F rfl rfl rfl (qMv rfl rfl rfl ?_);clear F a;intro a F
   refine sBin F rfl rfl rfl rfl (bAddN (j:=1) ?_) ?_
   focus omega
   clear F a;intro a F
   refine sIx underlying172 sizeOf4 F rfl rfl rfl rfl ?_ ?_
   focus (first | omega | decide | (simp;omega))
   clear F a;intro a F;refine sLd isAgg4 F rfl rfl rfl (H.cell 1 rfl (bl_at hr1)) (qMv rfl rfl rfl ?_);clear F a;intro a F
   refine F.split 53 rfl ?_ ?_ <;> (clear F;intro h53 F)
   ·
    refine sSk F rfl rfl (qPk rfl rfl rfl rfl ?_);clear F a;intro a F
    refine sIx underlying172 sizeOf4 F rfl rfl rfl rfl ?_ ?_
    focus (first | omega | decide | (simp;omega))
    clear F a;intro a F
    refine sSt H 1 sizeOf4 F rfl rfl rfl rfl rfl (List.getElem?_eq_getElem (by simp;omega)) ?_
    clear H;intro w H;refine nK hK18 (cSR fun K19 hK19=>sMv F rfl rfl rfl (qNK hK19 ?_));clear hK18 hK19;clear F a;intro a F;refine cIfF F rfl ?_;refine wp_skip (hK8 _ _ (cReg ?_));clear hK8
    refine sBin F rfl rfl rfl rfl (bAddN (j:=1) ?_) ?_
    focus omega
    clear F a;intro a F;refine sMv F rfl rfl rfl ?_;clear F a;intro a F;refine sNil ?_
    refine ⟨_,by omega,_,⟨k+1,rfl,rfl,by omega,?_⟩,F.to (by repeat (first | exact trivial | refine Le.cons rfl ?_))⟩
    have hq:∀ q,q=reachP l alive (k+1)→Own w0 (some b) w [.blk b16 (bl q) 4,.blk b (bl alive) 4]→Own w0 (some b) w [.blk b16 (bl (reachP l alive (k+1))) 4,.blk b (bl alive) 4]:=fun q e H=>e ▸ H
    try simp only [List.getElem_toArray,List.getElem_cons_zero,List.getElem_cons_succ,bl_put] at H
    refine hq _ ?_ (H.sel [1,2] rfl rfl)
    rw [hrk,getD_of hr1]
    clear H F hq hrk hv hne
    simp [*]
   refine sMv F rfl rfl rfl (qPk rfl rfl rfl rfl ?_);clear F a;intro a F
   refine sIx underlying172 sizeOf4 F rfl rfl rfl rfl ?_ ?_
   focus (first | omega | decide | (simp;omega))
   clear F a;intro a F
   refine sSt H 1 sizeOf4 F rfl rfl rfl rfl rfl (List.getElem?_eq_getElem (by simp;omega)) ?_
   clear H;intro w H;refine nK hK18 (cSR fun K20 hK20=>sMv F rfl rfl rfl (qNK hK20 ?_));clear hK18 hK20;clear F a;intro a F;refine cIfF F rfl ?_;refine wp_skip (hK8 _ _ (cReg ?_));clear hK8
   refine sBin F rfl rfl rfl rfl (bAddN (j:=1) ?_) ?_
   focus omega
   clear F a;intro a F;refine sMv F rfl rfl rfl ?_;clear F a;intro a F;refine sNil ?_
   refine ⟨_,by omega,_,⟨k+1,rfl,rfl,by omega,?_⟩,F.to (by repeat (first | exact trivial | refine Le.cons rfl ?_))⟩
   have hq:∀ q,q=reachP l alive (k+1)→Own w0 (some b) w [.blk b16 (bl q) 4,.blk b (bl alive) 4]→Own w0 (some b) w [.blk b16 (bl (reachP l alive (k+1))) 4,.blk b (bl alive) 4]:=fun q e H=>e ▸ H
   try simp only [List.getElem_toArray,List.getElem_cons_zero,List.getElem_cons_succ,bl_put] at H
   refine hq _ ?_ (H.sel [1,2] rfl rfl)
   rw [hrk,getD_of hr1]
   clear H F hq hrk hv hne
   simp [*]
  refine sSk F rfl rfl (qSk rfl rfl (qSk rfl rfl (qPk rfl rfl rfl rfl (qNK hK14 ?_))));clear hK14;clear F a;intro a F;refine cIfF F rfl ?_;refine wp_skip (hK13 _ _ (cSR fun K21 hK21=>sMv F rfl rfl rfl (qMv rfl rfl rfl ?_)));clear hK13;clear F a;intro a F
  refine sBin F rfl rfl rfl rfl (bAddN (j:=1) ?_) ?_
  focus omega
  clear F a;intro a F;refine sMv F rfl rfl rfl (qMv rfl rfl rfl ?_);clear F a;intro a F
  refine sBin F rfl rfl rfl rfl (bAddN (j:=1) ?_) ?_
  focus omega
  clear F a;intro a F
  refine sIx underlying172 sizeOf4 F rfl rfl rfl rfl ?_ ?_
  focus (first | omega | decide | (simp;omega))
  clear F a;intro a F;refine sLd isAgg4 F rfl rfl rfl (H.cell 1 rfl (bl_at hr1)) (qMv rfl rfl rfl ?_);clear F a;intro a F
  refine F.split 53 rfl ?_ ?_ <;> (clear F;intro h53 F)
  ·
   refine sSk F rfl rfl (qPk rfl rfl rfl rfl ?_);clear F a;intro a F
   refine sIx underlying172 sizeOf4 F rfl rfl rfl rfl ?_ ?_
   focus (first | omega | decide | (simp;omega))
   clear F a;intro a F
   refine sSt H 1 sizeOf4 F rfl rfl rfl rfl rfl (List.getElem?_eq_getElem (by simp;omega)) ?_
   clear H;intro w H;refine nK hK21 (cSR fun K22 hK22=>sMv F rfl rfl rfl (qNK hK22 ?_));clear hK21 hK22;clear F a;intro a F;refine cIfF F rfl ?_;refine wp_skip (hK8 _ _ (cReg ?_));clear hK8
   refine sBin F rfl rfl rfl rfl (bAddN (j:=1) ?_) ?_
   focus omega
   clear F a;intro a F;refine sMv F rfl rfl rfl ?_;clear F a;intro a F;refine sNil ?_
   refine ⟨_,by omega,_,⟨k+1,rfl,rfl,by omega,?_⟩,F.to (by repeat (first | exact trivial | refine Le.cons rfl ?_))⟩
   have hq:∀ q,q=reachP l alive (k+1)→Own w0 (some b) w [.blk b16 (bl q) 4,.blk b (bl alive) 4]→Own w0 (some b) w [.blk b16 (bl (reachP l alive (k+1))) 4,.blk b (bl alive) 4]:=fun q e H=>e ▸ H
   try simp only [List.getElem_toArray,List.getElem_cons_zero,List.getElem_cons_succ,bl_put] at H
   refine hq _ ?_ (H.sel [1,2] rfl rfl)
   rw [hrk,getD_of hr1]
   clear H F hq hrk hv hne
   simp [*]
  refine sMv F rfl rfl rfl (qPk rfl rfl rfl rfl ?_);clear F a;intro a F
  refine sIx underlying172 sizeOf4 F rfl rfl rfl rfl ?_ ?_
  focus (first | omega | decide | (simp;omega))
  clear F a;intro a F
  refine sSt H 1 sizeOf4 F rfl rfl rfl rfl rfl (List.getElem?_eq_getElem (by simp;omega)) ?_
  clear H;intro w H;refine nK hK21 (cSR fun K23 hK23=>sMv F rfl rfl rfl (qNK hK23 ?_));clear hK21 hK23;clear F a;intro a F;refine cIfF F rfl ?_;refine wp_skip (hK8 _ _ (cReg ?_));clear hK8
  refine sBin F rfl rfl rfl rfl (bAddN (j:=1) ?_) ?_
  focus omega
  clear F a;intro a F;refine sMv F rfl rfl rfl ?_;clear F a;intro a F;refine sNil ?_
  refine ⟨_,by omega,_,⟨k+1,rfl,rfl,by omega,?_⟩,F.to (by repeat (first | exact trivial | refine Le.cons rfl ?_))⟩
  have hq:∀ q,q=reachP l alive (k+1)→Own w0 (some b) w [.blk b16 (bl q) 4,.blk b (bl alive) 4]→Own w0 (some b) w [.blk b16 (bl (reachP l alive (k+1))) 4,.blk b (bl alive) 4]:=fun q e H=>e ▸ H
  try simp only [List.getElem_toArray,List.getElem_cons_zero,List.getElem_cons_succ,bl_put] at H
  refine hq _ ?_ (H.sel [1,2] rfl rfl)
  rw [hrk,getD_of hr1]
  clear H F hq hrk hv hne
  simp [*]
 replace h22:=of_decide_eq_false h22
 obtain rfl:k=l.length:=by omega
 refine wp_exit ?_;refine hK4 _ _ (cSR fun K24 hK24=>sAs F rfl rfl rfl (qNK hK24 ?_));clear hK4 hK24;clear F a;intro a F;refine cSeq (fun K25 hK25=>?_);refine cSR fun K26 hK26=>sMv F rfl rfl rfl (qLen underlying52 rfl rfl rfl (qMv rfl rfl rfl (qNK hK26 ?_)));clear hK26;clear F a;intro a F;refine wp_block ?_
 refine cLoopR [0,1,5,67,68] (fun m ups w=>∃ k:Nat,m=l.length - k∧ups=[(10,.bool (sweepK l (reachP l alive l.length) alive k).2),(69,.int .i64 ((k:Nat):Int))]∧k≤l.length∧Own w0 (some b) w [.blk b16 (bl (reachP l alive l.length)) 4,.blk b (bl (sweepK l (reachP l alive l.length) alive k).1) 4]) F (l.length) [(10,.bool false),(69,.int .i64 ((0:Nat):Int))] (by repeat (first | exact SubR.nil | (apply SubR.cons;· rfl))) ?_ ?_ ?_
 · exact ⟨0,rfl,rfl,by omega,H⟩
 · repeat (first | exact trivial | refine Le.cons rfl ?_)
 clear F
 clear H
 intro m ups a w hI F
 obtain ⟨k,rfl,rfl,hk,H⟩:=hI
 have hsl:=sweepK_length l (reachP l alive l.length) alive k
 generalize hSK:sweepK l (reachP l alive l.length) alive k=SK at H F hsl
 refine cSR fun K27 hK27=>sBin F rfl rfl rfl rfl bLss (qNK hK27 ?_);clear hK27;clear F a;intro a F;refine cSeq (fun K28 hK28=>?_)
 refine cIf F rfl (fun h70=>?_) (fun h70=>?_)
 ·
  replace h70:=of_decide_eq_true h70
  have hkl:k < l.length:=by omega
  obtain ⟨x,hx⟩:∃ x,l[k]? = some x:=⟨_,List.getElem?_eq_getElem hkl⟩
  have hR2:=hR
  obtain ⟨bI,oI,rfl,hIx⟩:=hR k x.cells (by rw [List.getElem?_map,hx];rfl)
  have hneI:=hne (by omega) bI oI rfl
  obtain ⟨rv,hrv⟩:∃ v,(reachP l alive l.length)[k]? = some v:=⟨_,List.getElem?_eq_getElem (by omega)⟩
  obtain ⟨av,hav⟩:∃ v,SK.1[k]? = some v:=⟨_,List.getElem?_eq_getElem (by omega)⟩
  have hsk:=sweepK_at (r:=reachP l alive l.length) (alive:=alive) hx
  rw [hSK,getD_of hav,getD_of hrv] at hsk;refine wp_skip (hK28 _ _ ?_);clear hK28;refine cSeq (fun K29 hK29=>?_);refine wp_block ?_;refine cSR fun K30 hK30=>sMv F rfl rfl rfl ?_;clear F a;intro a F
  refine sIx underlying52 sizeOf44 F rfl rfl rfl rfl ?_ ?_
  focus (first | omega | decide | (simp;omega))
  clear F a;intro a F
  refine sLr underlying44 rfl ?si F rfl rfl rfl (fun j v hj=>H.old (hIx j v hj) (fun e=>hneI (Option.some.inj e))) ?_
  case si=>exact info_size sizeOf44
  clear F a;intro a F;refine sAl H zeroValue44 F rfl rfl ?_;clear F a H;intro b12 a w F H;refine sAs F rfl rfl rfl ?_;clear F a;intro a F
  refine sSr H 0 ?si F rfl rfl rfl ?s1 rfl rfl ?_
  case si=>exact info_size sizeOf44
  case s1=>first | rfl | (repeat (first | exact one_nil | (apply one_cons;· first | rfl | assumption | exact one_bif rfl rfl)))
  clear H;intro w H;refine nK hK30 (cSR fun K31 hK31=>sMv F rfl rfl rfl (qMv rfl rfl rfl ?_));clear hK30;clear F a;intro a F
  refine sIx underlying172 sizeOf4 F rfl rfl rfl rfl ?_ ?_
  focus (first | omega | decide | (simp;omega))
  clear F a;intro a F;refine sLd isAgg4 F rfl rfl rfl (H.cell 2 rfl (bl_at hav)) (qMv rfl rfl rfl ?_);clear F a;intro a F
  refine F.split 78 rfl ?_ ?_ <;> (clear F;intro h78 F)
  ·
   refine sMv F rfl rfl rfl (qMv rfl rfl rfl ?_);clear F a;intro a F
   refine sIx underlying172 sizeOf4 F rfl rfl rfl rfl ?_ ?_
   focus (first | omega | decide | (simp;omega))
   clear F a;intro a F;refine sLd isAgg4 F rfl rfl rfl (H.cell 1 rfl (bl_at hrv)) (qNot rfl rfl rfl (qMv rfl rfl rfl ?_));clear F a;intro a F
   refine F.split 84 rfl ?_ ?_ <;> (clear F;intro h84 F)
   ·
    replace h84:=notT h84;refine sSk F rfl rfl (qSk rfl rfl (qSk rfl rfl (qSk rfl rfl (qSk rfl rfl (qSk rfl rfl (qSk rfl rfl (qSk rfl rfl (qSk rfl rfl (qPk rfl rfl rfl rfl (qPk rfl rfl rfl rfl (qNK hK31 ?_)))))))))));clear hK31;clear F a;intro a F;refine cIfT F rfl ?_;refine cSR fun K32 hK32=>sMv F rfl rfl rfl (qMv rfl rfl rfl ?_);clear F a;intro a F
    refine sIx underlying172 sizeOf4 F rfl rfl rfl rfl ?_ ?_
    focus (first | omega | decide | (simp;omega))
    clear F a;intro a F
    refine sSt H 2 sizeOf4 F rfl rfl rfl rfl rfl (List.getElem?_eq_getElem (by simp;omega)) ?_
    clear H;intro w H;refine nK hK32 (cReg (sAs F rfl rfl rfl (qNK hK29 (qReg ?_))));clear hK32 hK29;clear F a;intro a F
    refine sBin F rfl rfl rfl rfl (bAddN (j:=1) ?_) ?_
    focus omega
    clear F a;intro a F;refine sMv F rfl rfl rfl ?_;clear F a;intro a F;refine sNil ?_
    first
      | (rw [if_pos (by simp [*])] at hsk
         rw [bl_put] at H
         exact ⟨_,by omega,_,⟨k+1,rfl,by rw [hsk],by omega,by rw [hsk];exact H.sel [1,2] rfl rfl⟩,F.to (by repeat (first | exact trivial | refine Le.cons rfl ?_))⟩)
      | (rw [if_neg (by simp [*])] at hsk
         exact ⟨_,by omega,_,⟨k+1,rfl,by rw [hsk],by omega,by rw [hsk];exact H.sel [1,2] rfl rfl⟩,F.to (by repeat (first | exact trivial | refine Le.cons rfl ?_))⟩)
   replace h84:=notF h84;refine sFa (f:=0) (k:=0) underlying44 rfl sizeOf5 rfl rfl F rfl rfl rfl (qLd isAgg5 rfl rfl rfl (H.cell 0 rfl rfl) (qBin rfl rfl rfl rfl (bEqlB (y:=8)) (qMv rfl rfl rfl ?_)));clear F a;intro a F
   refine F.split 88 rfl ?_ ?_ <;> (clear F;intro h88 F)
   ·
    replace h88:=beqT h88
    obtain ⟨hs1,hs2⟩:=hv k x hx h88
    refine sMv F rfl rfl rfl (qMv rfl rfl rfl (qMv rfl rfl rfl ?_));clear F a;intro a F;refine sCall call159 F rfl rfl rfl ((by have:=idle_any _ C l b SK.1 k x _ ⟨hR2.oldRow H (hne (by omega)),H.whole 2 rfl,hx,by omega,h12,hs1,hs2⟩;rw [hsl] at this;exact this)) ?_;rintro e w ⟨rfl,hb⟩;replace H:=H.grow hb;clear hb;refine ⟨_,rfl,?_⟩;clear F a;intro a F;refine sPk F rfl rfl rfl rfl (qPk rfl rfl rfl rfl (qPk rfl rfl rfl rfl (qNK hK31 ?_)));clear hK31;clear F a;intro a F
    refine cIf F rfl (fun h95=>?_) (fun h95=>?_)
    ·
     refine cSR fun K33 hK33=>sMv F rfl rfl rfl (qMv rfl rfl rfl ?_);clear F a;intro a F
     refine sIx underlying172 sizeOf4 F rfl rfl rfl rfl ?_ ?_
     focus (first | omega | decide | (simp;omega))
     clear F a;intro a F
     refine sSt H 2 sizeOf4 F rfl rfl rfl rfl rfl (List.getElem?_eq_getElem (by simp;omega)) ?_
     clear H;intro w H;refine nK hK33 (cReg (sAs F rfl rfl rfl (qNK hK29 (qReg ?_))));clear hK33 hK29;clear F a;intro a F
     refine sBin F rfl rfl rfl rfl (bAddN (j:=1) ?_) ?_
     focus omega
     clear F a;intro a F;refine sMv F rfl rfl rfl ?_;clear F a;intro a F;refine sNil ?_
     first
       | (rw [if_pos (by simp [*])] at hsk
          rw [bl_put] at H
          exact ⟨_,by omega,_,⟨k+1,rfl,by rw [hsk],by omega,by rw [hsk];exact H.sel [1,2] rfl rfl⟩,F.to (by repeat (first | exact trivial | refine Le.cons rfl ?_))⟩)
       | (rw [if_neg (by simp [*])] at hsk
          exact ⟨_,by omega,_,⟨k+1,rfl,by rw [hsk],by omega,by rw [hsk];exact H.sel [1,2] rfl rfl⟩,F.to (by repeat (first | exact trivial | refine Le.cons rfl ?_))⟩)
    refine wp_skip (hK29 _ _ (cReg ?_));clear hK29
    refine sBin F rfl rfl rfl rfl (bAddN (j:=1) ?_) ?_
    focus omega
    clear F a;intro a F;refine sMv F rfl rfl rfl ?_;clear F a;intro a F;refine sNil ?_
    first
      | (rw [if_pos (by simp [*])] at hsk
         rw [bl_put] at H
         exact ⟨_,by omega,_,⟨k+1,rfl,by rw [hsk],by omega,by rw [hsk];exact H.sel [1,2] rfl rfl⟩,F.to (by repeat (first | exact trivial | refine Le.cons rfl ?_))⟩)
      | (rw [if_neg (by simp [*])] at hsk
         exact ⟨_,by omega,_,⟨k+1,rfl,by rw [hsk],by omega,by rw [hsk];exact H.sel [1,2] rfl rfl⟩,F.to (by repeat (first | exact trivial | refine Le.cons rfl ?_))⟩)
   replace h88:=beqF h88;refine sSk F rfl rfl (qSk rfl rfl (qSk rfl rfl (qSk rfl rfl (qPk rfl rfl rfl rfl (qPk rfl rfl rfl rfl (qPk rfl rfl rfl rfl (qNK hK31 ?_)))))));clear hK31;clear F a;intro a F;refine cIfF F rfl ?_;refine wp_skip (hK29 _ _ (cReg ?_));clear hK29
   refine sBin F rfl rfl rfl rfl (bAddN (j:=1) ?_) ?_
   focus omega
   clear F a;intro a F;refine sMv F rfl rfl rfl ?_;clear F a;intro a F;refine sNil ?_
   first
     | (rw [if_pos (by simp [*])] at hsk
        rw [bl_put] at H
        exact ⟨_,by omega,_,⟨k+1,rfl,by rw [hsk],by omega,by rw [hsk];exact H.sel [1,2] rfl rfl⟩,F.to (by repeat (first | exact trivial | refine Le.cons rfl ?_))⟩)
     | (rw [if_neg (by simp [*])] at hsk
        exact ⟨_,by omega,_,⟨k+1,rfl,by rw [hsk],by omega,by rw [hsk];exact H.sel [1,2] rfl rfl⟩,F.to (by repeat (first | exact trivial | refine Le.cons rfl ?_))⟩)
  refine sSk F rfl rfl (qSk rfl rfl (qSk rfl rfl (qSk rfl rfl (qSk rfl rfl (qSk rfl rfl (qSk rfl rfl (qSk rfl rfl (qSk rfl rfl (qSk rfl rfl (qSk rfl rfl (qSk rfl rfl (qSk rfl rfl (qSk rfl rfl (qSk rfl rfl (qSk rfl rfl (qPk rfl rfl rfl rfl (qNK hK31 ?_)))))))))))))))));clear hK31;clear F a;intro a F;refine cIfF F rfl ?_;refine wp_skip (hK29 _ _ (cReg ?_));clear hK29
  refine sBin F rfl rfl rfl rfl (bAddN (j:=1) ?_) ?_
  focus omega
  clear F a;intro a F;refine sMv F rfl rfl rfl ?_;clear F a;intro a F;refine sNil ?_
  first
    | (rw [if_pos (by simp [*])] at hsk
       rw [bl_put] at H
       exact ⟨_,by omega,_,⟨k+1,rfl,by rw [hsk],by omega,by rw [hsk];exact H.sel [1,2] rfl rfl⟩,F.to (by repeat (first | exact trivial | refine Le.cons rfl ?_))⟩)
    | (rw [if_neg (by simp [*])] at hsk
       exact ⟨_,by omega,_,⟨k+1,rfl,by rw [hsk],by omega,by rw [hsk];exact H.sel [1,2] rfl rfl⟩,F.to (by repeat (first | exact trivial | refine Le.cons rfl ?_))⟩)
 replace h70:=of_decide_eq_false h70
 obtain rfl:k=l.length:=by omega
 refine wp_exit ?_;refine hK25 _ _ (cSR fun K34 hK34=>sMv F rfl rfl rfl (qAs rfl rfl rfl (qNK hK34 ?_)));clear hK25 hK34;clear F a;intro a F;refine wp_ret ?_;refine bRet results148 F rfl ?_
 exact ⟨by rw [sweepP,hSK],by rw [sweepP,hSK];exact H.pick 1 rfl⟩
-- FoD
open Go.Proofs.Tryz
open Go.RowKit
set_option maxRecDepth 100000
set_option maxHeartbeats 4000000 in
theorem fold_any (A:Option Addr) (C:Nat) (l:List Ins) (w0:World) (hR:RowsAt w0 A 10 (l.map Ins.cells)) (h12:l.length≤12) (hv:∀ i x,l[i]? = some x→x.op=8→1≤x.skip.toNat∧i+1+x.skip.toNat≤l.length) :
   Calls Tryz.prog 125 #[.slice A l.length C] w0 fun e w'=>∃ A2 c,e = .returned (.slice A2 (foldP l).length c)∧Own w0 none w' [.rws 44 10 (.slice A2 (foldP l).length c) ((foldP l).map Ins.cells)]:=by
 have H:=Own.start w0 none
 have hA:0 < l.length→∀ b' o,A=some ⟨b',o,none⟩→b' < w0.heap.size:=fun hpos b' o hAe=>by
   obtain ⟨x,hx⟩:∃ x,l[0]? = some x:=⟨_,List.getElem?_eq_getElem hpos⟩
   obtain ⟨b2,o2,h1,h2⟩:=hR 0 x.cells (by rw [List.getElem?_map,hx];rfl)
   rw [hAe] at h1
   cases h1
   exact World.block_lt_of_cell? w0 _ (h2 0 _ rfl)
 refine enterF func125 rfl ntmps125 rfl (fun a F=>?_);refine cSR fun K1 hK1=>sAs F rfl rfl rfl (qNK hK1 (qSR fun K2 hK2=>?_));clear hK1;clear F a;intro a F;refine sBs1 H underlying172 sizeOf4 zeroValue4 rfl F rfl rfl rfl rfl ?_;clear F a H;intro b7 a w F H;refine sMv F rfl rfl rfl (qLen underlying52 rfl rfl rfl ?_);clear F a;intro a F;refine sCall call147 F rfl rfl rfl (repeat_any b7 l.length _ (by omega) (H.whole 0 rfl)) ?_;rintro e w ⟨B,rfl,H2⟩;replace H:=H.join H2;clear H2;refine ⟨_,rfl,?_⟩;clear F a;intro a F;refine sAs F rfl rfl rfl (qNK hK2 ?_);clear hK2;clear F a;intro a F;refine cSeq (fun K3 hK3=>?_);refine wp_block ?_
 refine cLoopR [0,3] (fun m ups w=>∃ (al:List Bool) (n:Nat),m=al.count true∧ups=[]∧al.length=l.length∧al.count true+1≤n∧foldAl l=foldA l n al∧Own w0 none w [.blk B (bl al) 4]) F (l.length) [] (by repeat (first | exact SubR.nil | (apply SubR.cons;· rfl))) ?_ ?_ ?_
 · exact ⟨List.replicate l.length true,l.length+1,by simp,rfl,by simp,by simp,rfl,H.sel [0] rfl rfl⟩
 · repeat (first | exact trivial | refine Le.cons rfl ?_)
 clear F
 clear H
 intro m ups a w hI F
 obtain ⟨al,n,rfl,rfl,hal,hn,hfo,H⟩:=hI
 have hne:0 < l.length→∀ b' o,A=some ⟨b',o,none⟩→b' ≠ B:=fun hpos b' o hAe e=>by
   have h1:=hA hpos b' o hAe
   have h2:=H.foot 0 _ rfl B rfl
   rcases h2.1 with h3 | h3
   · omega
   · cases h3
 refine cSeq (fun K4 hK4=>?_);refine cSR fun K5 hK5=>sMv F rfl rfl rfl (qMv rfl rfl rfl ?_);clear F a;intro a F;refine sCall call148 F rfl rfl rfl ((by have:=sweep_any A C l B al _ (hR.own H) (H.blk 0 rfl) hal h12 hv hne;rw [hal] at this;exact this)) ?_;rintro e w ⟨rfl,H2⟩
 replace H:=H.turned 0 rfl H2;clear H2
 refine ⟨_,rfl,?_⟩;clear F a;intro a F;refine nK hK5 ?_;clear hK5
 refine cIf F rfl (fun h13=>?_) (fun h13=>?_)
 ·
  refine wp_skip (hK4 _ _ ?_);clear hK4;refine wp_block ?_;refine wp_skip ?_
  (obtain ⟨n',rfl⟩:∃ n',n=n'+1:=⟨n - 1,by omega⟩
   have hc:=(sweepK_count l (reachP l al l.length) al l.length).2 h13
   exact ⟨_,hc,_,⟨(sweepP l al).1,n',rfl,rfl,by rw [sweepP_length,hal],(by have:(sweepP l al).1.count true < al.count true:=hc;omega),by rw [hfo,foldA,if_pos h13],H.sel [0] rfl rfl⟩,F.to (by repeat (first | exact trivial | refine Le.cons rfl ?_))⟩)
 obtain ⟨n',rfl⟩:∃ n',n=n'+1:=⟨n - 1,by omega⟩
 have hfin:foldAl l=(sweepP l al).1:=by rw [hfo,foldA,if_neg (by rw [h13];simp)]
 have hAl:(foldAl l).length=l.length:=by rw [hfin,sweepP_length,hal]
 rw [← hfin] at H;refine wp_exit ?_;refine hK3 _ _ (cSR fun K6 hK6=>sAs F rfl rfl rfl ?_);clear hK3;clear F a;intro a F
 replace H:=H.nilRws 44 10
 refine nK hK6 ?_;clear hK6;refine cSeq (fun K7 hK7=>?_);refine cSR fun K8 hK8=>sMv F rfl rfl rfl (qLen underlying52 rfl rfl rfl (qMv rfl rfl rfl (qNK hK8 ?_)));clear hK8;clear F a;intro a F;refine wp_block ?_
 refine cLoopR [0,3,14,15] (fun m ups w=>∃ (k:Nat) (A4:Option Addr) (k4:Nat),m=l.length - k∧ups=[(4,.slice A4 (outP l (foldAl l) k).length k4),(16,.int .i64 ((k:Nat):Int))]∧k≤l.length∧Own w0 none w [.rws 44 10 (.slice A4 (outP l (foldAl l) k).length k4) ((outP l (foldAl l) k).map Ins.cells),.blk B (bl (foldAl l)) 4]) F (l.length) [(4,.slice none 0 0),(16,.int .i64 ((0:Nat):Int))] (by repeat (first | exact SubR.nil | (apply SubR.cons;· rfl))) ?_ ?_ ?_
 · exact ⟨0,none,0,rfl,rfl,by omega,H.sel [0,1] rfl rfl⟩
 · repeat (first | exact trivial | refine Le.cons rfl ?_)
 clear F
 clear H
 intro m ups a w hI F
 obtain ⟨k,A4,k4,rfl,rfl,hk,H⟩:=hI
 have hol:=outP_length l (foldAl l) k
 refine cSR fun K9 hK9=>sBin F rfl rfl rfl rfl bLss (qNK hK9 ?_);clear hK9;clear F a;intro a F;refine cSeq (fun K10 hK10=>?_)
 refine cIf F rfl (fun h17=>?_) (fun h17=>?_)
 ·
  replace h17:=of_decide_eq_true h17
  have hkl:k < l.length:=by omega
  obtain ⟨x,hx⟩:∃ x,l[k]? = some x:=⟨_,List.getElem?_eq_getElem hkl⟩
  have hR2:=hR
  obtain ⟨bI,oI,rfl,hIx⟩:=hR k x.cells (by rw [List.getElem?_map,hx];rfl)
  obtain ⟨av,hav⟩:∃ v,(foldAl l)[k]? = some v:=⟨_,List.getElem?_eq_getElem (by omega)⟩
  have e:=outP_at (al:=foldAl l) hx
  rw [getD_of hav] at e;refine wp_skip (hK10 _ _ ?_);clear hK10;refine cSeq (fun K11 hK11=>?_);refine wp_block ?_;refine cSR fun K12 hK12=>sMv F rfl rfl rfl ?_;clear F a;intro a F
  refine sIx underlying52 sizeOf44 F rfl rfl rfl rfl ?_ ?_
  focus (first | omega | decide | (simp;omega))
  clear F a;intro a F
  refine sLr underlying44 rfl ?si F rfl rfl rfl (H.argR hIx) ?_
  case si=>exact info_size sizeOf44
  clear F a;intro a F;refine sAl H zeroValue44 F rfl rfl ?_;clear F a H;intro b6 a w F H;refine sAs F rfl rfl rfl ?_;clear F a;intro a F
  refine sSr H 0 ?si F rfl rfl rfl ?s1 rfl rfl ?_
  case si=>exact info_size sizeOf44
  case s1=>first | rfl | (repeat (first | exact one_nil | (apply one_cons;· first | rfl | assumption | exact one_bif rfl rfl)))
  clear H;intro w H;refine nK hK12 ?_;clear hK12;refine cSeq (fun K13 hK13=>?_);refine cSR fun K14 hK14=>sMv F rfl rfl rfl (qMv rfl rfl rfl ?_);clear F a;intro a F
  refine sIx underlying172 sizeOf4 F rfl rfl rfl rfl ?_ ?_
  focus (first | omega | decide | (simp;omega))
  clear F a;intro a F;refine sLd isAgg4 F rfl rfl rfl (H.cell 2 rfl (bl_at hav)) (qNot rfl rfl rfl (qNK hK14 ?_));clear hK14;clear F a;intro a F
  refine cIf F rfl (fun h25=>?_) (fun h25=>?_)
  ·
   replace h25:=notT h25;refine wp_exit ?_;refine hK11 _ _ (cReg ?_);clear hK11
   refine sBin F rfl rfl rfl rfl (bAddN (j:=1) ?_) ?_
   focus omega
   clear F a;intro a F;refine sMv F rfl rfl rfl ?_;clear F a;intro a F;refine sNil ?_
   first
     | (rw [if_neg (by rw [h25];simp)] at e
        exact ⟨_,by omega,_,⟨k+1,A4,k4,rfl,by rw [e],by omega,by rw [e];exact H.sel [1,2] rfl rfl⟩,F.to (by repeat (first | exact trivial | refine Le.cons rfl ?_))⟩)
     | (rw [if_pos h25] at e
        have eL:(outP l (foldAl l) (k+1)).length=(outP l (foldAl l) k).length+1:=by rw [e];simp
        simp only [List.length_append,List.length_map,List.length_cons,List.length_nil,Nat.zero_add] at H F
        refine ⟨_,by omega,_,⟨k+1,A37,c37,rfl,rfl,by omega,?_⟩,?_⟩
        · rw [eL,e,List.map_append,keepI]
          first
            | (rw [if_pos h28];exact H.sel [1,2] rfl rfl)
            | (rw [if_neg h28];exact H.sel [1,2] rfl rfl)
        · rw [eL];exact F.to (by repeat (first | exact trivial | refine Le.cons rfl ?_)))
  replace h25:=notF h25;refine wp_skip (hK13 _ _ ?_);clear hK13;refine cSeq (fun K15 hK15=>?_);refine cSR fun K16 hK16=>sFa (f:=0) (k:=0) underlying44 rfl sizeOf5 rfl rfl F rfl rfl rfl (qLd isAgg5 rfl rfl rfl (H.cell 0 rfl rfl) (qBin rfl rfl rfl rfl (bEqlB (y:=8)) (qNK hK16 ?_)));clear hK16;clear F a;intro a F
  refine cIf F rfl (fun h28=>?_) (fun h28=>?_)
  ·
   replace h28:=beqT h28
   obtain ⟨hs1,hs2⟩:=hv k x hx h28
   refine cReg (sMv F rfl rfl rfl (qMv rfl rfl rfl (qMv rfl rfl rfl ?_)));clear F a;intro a F;refine sCall call149 F rfl rfl rfl ((by have:=skipped_any _ C l B (foldAl l) k x _ ⟨hR2.own H,H.whole 2 rfl,hx,hAl,h12,hs1,hs2⟩;rw [hAl] at this;exact this)) ?_;rintro e w ⟨rfl,hb⟩;replace H:=H.grow hb;clear hb;refine ⟨_,rfl,?_⟩;clear F a;intro a F;refine sFa (f:=7) (k:=9) underlying44 rfl sizeOf5 rfl rfl F rfl rfl rfl ?_;clear F a;intro a F;refine sSt H 0 sizeOf5 F rfl rfl rfl rfl rfl rfl ?_;clear H;intro w H;refine nK hK15 (cReg (sMv F rfl rfl rfl ?_));clear hK15;clear F a;intro a F
   refine sLr underlying44 rfl ?si F rfl rfl rfl (H.whole 0 rfl) ?_
   case si=>exact info_size sizeOf44
   clear F a;intro a F;refine sBsA H underlying52 sizeOf44 zeroValue44 rfl F rfl rfl rfl rfl rfl ?_;clear F a H;intro b36 a w F H
   refine sApp1 (bytes:=10) H 2 underlying52 typeInfo44 rfl rfl rfl rfl rfl rfl F rfl rfl rfl rfl rfl (H.whole 0 rfl) rfl ?s1 ?s2 ?_
   case s1=>first | rfl | (repeat (first | exact one_nil | (apply one_cons;· first | rfl | assumption | exact one_bif rfl rfl)))
   case s2=>(rw [List.length_map];omega)
   clear F a H;intro A37 c37 a w F H;refine sAs F rfl rfl rfl (qNK hK11 (qReg ?_));clear hK11;clear F a;intro a F
   refine sBin F rfl rfl rfl rfl (bAddN (j:=1) ?_) ?_
   focus omega
   clear F a;intro a F;refine sMv F rfl rfl rfl ?_;clear F a;intro a F;refine sNil ?_
   first
     | (rw [if_neg (by rw [h25];simp)] at e
        exact ⟨_,by omega,_,⟨k+1,A4,k4,rfl,by rw [e],by omega,by rw [e];exact H.sel [2,3] rfl rfl⟩,F.to (by repeat (first | exact trivial | refine Le.cons rfl ?_))⟩)
     | (rw [if_pos h25] at e
        have eL:(outP l (foldAl l) (k+1)).length=(outP l (foldAl l) k).length+1:=by rw [e];simp
        simp only [List.length_append,List.length_map,List.length_cons,List.length_nil,Nat.zero_add] at H F
        refine ⟨_,by omega,_,⟨k+1,A37,c37,rfl,rfl,by omega,?_⟩,?_⟩
        · rw [eL,e,List.map_append,keepI]
          first
            | (rw [if_pos h28];exact H.sel [2,3] rfl rfl)
            | (rw [if_neg h28];exact H.sel [2,3] rfl rfl)
        · rw [eL];exact F.to (by repeat (first | exact trivial | refine Le.cons rfl ?_)))
  replace h28:=beqF h28;refine wp_skip (hK15 _ _ (cReg (sMv F rfl rfl rfl ?_)));clear hK15;clear F a;intro a F
  refine sLr underlying44 rfl ?si F rfl rfl rfl (H.whole 0 rfl) ?_
  case si=>exact info_size sizeOf44
  clear F a;intro a F;refine sBsA H underlying52 sizeOf44 zeroValue44 rfl F rfl rfl rfl rfl rfl ?_;clear F a H;intro b36 a w F H
  refine sApp1 (bytes:=10) H 2 underlying52 typeInfo44 rfl rfl rfl rfl rfl rfl F rfl rfl rfl rfl rfl (H.whole 0 rfl) rfl ?s1 ?s2 ?_
  case s1=>first | rfl | (repeat (first | exact one_nil | (apply one_cons;· first | rfl | assumption | exact one_bif rfl rfl)))
  case s2=>(rw [List.length_map];omega)
  clear F a H;intro A37 c37 a w F H;refine sAs F rfl rfl rfl (qNK hK11 (qReg ?_));clear hK11;clear F a;intro a F
  refine sBin F rfl rfl rfl rfl (bAddN (j:=1) ?_) ?_
  focus omega
  clear F a;intro a F;refine sMv F rfl rfl rfl ?_;clear F a;intro a F;refine sNil ?_
  first
    | (rw [if_neg (by rw [h25];simp)] at e
       exact ⟨_,by omega,_,⟨k+1,A4,k4,rfl,by rw [e],by omega,by rw [e];exact H.sel [2,3] rfl rfl⟩,F.to (by repeat (first | exact trivial | refine Le.cons rfl ?_))⟩)
    | (rw [if_pos h25] at e
       have eL:(outP l (foldAl l) (k+1)).length=(outP l (foldAl l) k).length+1:=by rw [e];simp
       simp only [List.length_append,List.length_map,List.length_cons,List.length_nil,Nat.zero_add] at H F
       refine ⟨_,by omega,_,⟨k+1,A37,c37,rfl,rfl,by omega,?_⟩,?_⟩
       · rw [eL,e,List.map_append,keepI]
         first
           | (rw [if_pos h28];exact H.sel [2,3] rfl rfl)
           | (rw [if_neg h28];exact H.sel [2,3] rfl rfl)
       · rw [eL];exact F.to (by repeat (first | exact trivial | refine Le.cons rfl ?_)))
 replace h17:=of_decide_eq_false h17
 obtain rfl:k=l.length:=by omega
 refine wp_exit ?_;refine hK7 _ _ (cSR fun K17 hK17=>sMv F rfl rfl rfl (qAs rfl rfl rfl (qNK hK17 ?_)));clear hK7 hK17;clear F a;intro a F;refine wp_ret ?_;refine bRet results125 F rfl ?_
 exact ⟨_,_,rfl,H.pick 0 rfl⟩
end Go.Proofs.YtkchaoajegkadaaGreatDoor
