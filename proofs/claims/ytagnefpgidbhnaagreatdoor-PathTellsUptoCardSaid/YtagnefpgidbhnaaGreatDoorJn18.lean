/-
  WALK2. Few; facts for PathAll. Conditions: the thread lies in memory.
-/
import Derived.Test.YtagnefpgidbhnaaGreatDoorJn17
set_option linter.unusedSimpArgs false
set_option linter.unusedVariables false
namespace Go.Proofs.YtagnefpgidbhnaaGreatDoor
-- SqR
open Go.RowKit
set_option maxRecDepth 100000
/-! ### Few -/
theorem Ci {op:UInt8} (h4:4≤op) (h6:op≤6):XU op=true:=by
 have h4:4≤op.toNat:=h4
 have h6:op.toNat≤6:=h6
 have h:op=4∨op=5∨op=6:=by
   have h:op.toNat=4∨op.toNat=5∨op.toNat=6:=by omega
   rcases h with h | h | h
   · exact .inl (UInt8.toNat_inj.1 h)
   · exact .inr (.inl (UInt8.toNat_inj.1 h))
   · exact .inr (.inr (UInt8.toNat_inj.1 h))
 rcases h with rfl | rfl | rfl <;> rfl
theorem QK {op:UInt8} (h1:op ≠ 1) (h:¬ (4≤op∧op≤6)):XU op=false:=by
 cases hr:XU op with
 | false=>rfl
 | true=>
   rcases MS hr with rfl | rfl | rfl | rfl
   · exact absurd rfl h1
   · exact absurd (by decide) h
   · exact absurd (by decide) h
   · exact absurd (by decide) h
def BJ (l:List Ins) (j:Nat):Nat:=((l.take j).filter fun x=>XU x.op).length
theorem XcM {l:List Ins} {j:Nat} {x:Ins} (hx:l[j]? = some x) (hr:XU x.op=true):BJ l (j+1)=BJ l j+1:=by
 unfold BJ;rw [List.take_add_one,hx,List.filter_append];simp [hr]
theorem XcN {l:List Ins} {j:Nat} {x:Ins} (hx:l[j]? = some x) (hr:XU x.op=false):BJ l (j+1)=BJ l j:=by
 unfold BJ;rw [List.take_add_one,hx,List.filter_append];simp [hr]
theorem XcL (l:List Ins) (j:Nat):BJ l j≤j:=Nat.le_trans (List.length_filter_le _ _) (by rw [List.length_take];omega)
theorem XbG (l:List Ins):BJ l l.length=rcL l 0:=by unfold BJ rcL;rw [List.take_length,List.drop_zero]
theorem MA (A:Option Addr) (C:Nat) (l:List Ins) (w0:World) (hA:RowsAt w0 A 10 (l.map Ins.cells)) (hn:l.length≤9223372036854775807) :
   Calls Tryz.prog 4 #[.slice A l.length C] w0 fun e w'=>e = .returned (.bool (fewP l))∧Below w0.heap.size w0 w':=by
 have H:=Own.start w0 none
 refine XE Tryz.func4 rfl Tryz.ntmps4 rfl (fun a F=>?_);refine cSR fun K1 hK1=>Xa F rfl (qNK hK1 (qSR fun K2 hK2=>Xh rfl (qNK hK2 ?_)));clear hK1 hK2;clear F a;intro a F;refine cSeq (fun K3 hK3=>?_);refine cSR fun K4 hK4=>Xl F rfl (Xs Tryz.underlying22 rfl (Xd rfl (qNK hK4 ?_)));clear hK4;clear F a;intro a F;refine wp_block ?_
 refine cLoopS [0,6,7] (fun m ups w=>∃ j:Nat,m=l.length - j∧ups=[(3,.int .i64 ((BJ l j:Nat):Int)),(8,.int .i64 ((j:Nat):Int))]∧j≤l.length∧Own w0 none w []) F (l.length) [(3,.int .i64 ((0:Nat):Int)),(8,.int .i64 ((0:Nat):Int))] ?_ ?_
 · exact ⟨0,rfl,rfl,Nat.zero_le _,H⟩
 clear F
 clear H
 intro m ups a w hI F
 obtain ⟨j,rfl,rfl,hj,H⟩:=hI
 refine cSR fun K5 hK5=>Xm F rfl rfl YW (qNK hK5 ?_);clear hK5;clear F a;intro a F;refine cSeq (fun K6 hK6=>?_)
 refine cIf F rfl (fun h9=>?_) (fun h9=>?_)
 ·
  replace h9:=of_decide_eq_true h9
  have hjl:j < l.length:=by omega
  obtain ⟨x,hx⟩:∃ x,l[j]? = some x:=⟨_,List.getElem?_eq_getElem hjl⟩
  obtain ⟨bA,oA,rfl,hR1⟩:=hA j x.cells (by rw [List.getElem?_map,hx];rfl)
  have hc:=XcL l j
  refine wp_skip (hK6 _ _ ?_);clear hK6;refine cSeq (fun K7 hK7=>?_);refine wp_block ?_;refine cSR fun K8 hK8=>?_
  refine sIx Tryz.underlying22 Tryz.sizeOf61 F rfl rfl rfl rfl ?_ ?_
  focus exact hjl
  clear F a;intro a F
  refine Xo Tryz.underlying61 rfl ?si F rfl (H.argR hR1) ?_
  case si=>exact XC Tryz.sizeOf61
  clear F a;intro a F;refine sAl H Tryz.zeroValue61 F rfl rfl ?_;clear F a H;intro b5 a w F H
  refine sSr H 0 ?si F rfl rfl rfl ?s1 rfl rfl ?_
  case si=>exact XC Tryz.sizeOf61
  case s1=>rfl
  clear H;intro w H;refine nK hK8 (cSR fun K9 hK9=>Xi (f:=0) (k:=0) Tryz.underlying61 rfl Tryz.sizeOf5 rfl rfl F rfl (Xc Tryz.isAgg5 rfl (H.cell 0 rfl rfl) (Xj rfl rfl (XZ (y:=1)) (Xd rfl ?_))));clear hK8;clear F a;intro a F
  refine F.split 15 rfl ?_ ?_ <;> (clear F;intro h15 F)
  ·
   replace h15:=Yh h15
   have hr:XU x.op=true:=by rw [h15];rfl
   refine Xe F (Xf (Xf (Xf (Xf (Xf (Xf (Xf (Xg rfl rfl (qNK hK9 ?_)))))))));clear hK9;clear F a;intro a F;refine cIfT F rfl ?_;refine cReg (Xl F rfl ?_);clear F a;intro a F
   refine Xm F rfl rfl (XJ (j:=1) ?_) ?_
   focus omega
   clear F a;intro a F;refine Xa F rfl (qNK hK7 (WN ?_));clear hK7;clear F a;intro a F
   refine Xm F rfl rfl (XJ (j:=1) ?_) ?_
   focus omega
   clear F a;intro a F;refine Xl F rfl ?_;clear F a;intro a F;refine sNil ?_
   (rw [← XcM hx hr] at F
    exact ⟨_,by omega,_,⟨j+1,rfl,rfl,by omega,H.sel [] rfl rfl⟩,F.tt⟩)
  replace h15:=Yi h15;refine Xi (f:=0) (k:=0) Tryz.underlying61 rfl Tryz.sizeOf5 rfl rfl F rfl (Xc Tryz.isAgg5 rfl (H.cell 0 rfl rfl) (Xj rfl rfl (Mw (y:=4)) (Xd rfl ?_)));clear F a;intro a F
  refine F.split 19 rfl ?_ ?_ <;> (clear F;intro h19 F)
  ·
   replace h19:=of_decide_eq_true h19;refine Xi (f:=0) (k:=0) Tryz.underlying61 rfl Tryz.sizeOf5 rfl rfl F rfl (Xc Tryz.isAgg5 rfl (H.cell 0 rfl rfl) (Xj rfl rfl (BB (y:=6)) (Xg rfl rfl (Xg rfl rfl (qNK hK9 ?_)))));clear hK9;clear F a;intro a F
   refine cIf F rfl (fun h24=>?_) (fun h24=>?_)
   ·
    replace h24:=of_decide_eq_true h24
    have hr:XU x.op=true:=Ci h19 h24
    refine cReg (Xl F rfl ?_);clear F a;intro a F
    refine Xm F rfl rfl (XJ (j:=1) ?_) ?_
    focus omega
    clear F a;intro a F;refine Xa F rfl (qNK hK7 (WN ?_));clear hK7;clear F a;intro a F
    refine Xm F rfl rfl (XJ (j:=1) ?_) ?_
    focus omega
    clear F a;intro a F;refine Xl F rfl ?_;clear F a;intro a F;refine sNil ?_
    (rw [← XcM hx hr] at F
     exact ⟨_,by omega,_,⟨j+1,rfl,rfl,by omega,H.sel [] rfl rfl⟩,F.tt⟩)
   replace h24:=of_decide_eq_false h24
   have hr:XU x.op=false:=QK h15 (fun q=>h24 q.2)
   refine wp_skip (hK7 _ _ (cReg ?_));clear hK7
   refine Xm F rfl rfl (XJ (j:=1) ?_) ?_
   focus omega
   clear F a;intro a F;refine Xl F rfl ?_;clear F a;intro a F;refine sNil ?_
   (rw [← XcN hx hr] at F
    exact ⟨_,by omega,_,⟨j+1,rfl,rfl,by omega,H.sel [] rfl rfl⟩,F.tt⟩)
  replace h19:=of_decide_eq_false h19
  have hr:XU x.op=false:=QK h15 (fun q=>h19 q.1)
  refine Xe F (Xf (Xf (Xg rfl rfl (Xg rfl rfl (qNK hK9 ?_)))));clear hK9;clear F a;intro a F;refine cIfF F rfl ?_;refine wp_skip (hK7 _ _ (cReg ?_));clear hK7
  refine Xm F rfl rfl (XJ (j:=1) ?_) ?_
  focus omega
  clear F a;intro a F;refine Xl F rfl ?_;clear F a;intro a F;refine sNil ?_
  (rw [← XcN hx hr] at F
   exact ⟨_,by omega,_,⟨j+1,rfl,rfl,by omega,H.sel [] rfl rfl⟩,F.tt⟩)
 replace h9:=of_decide_eq_false h9
 obtain rfl:j=l.length:=by omega
 rw [XbG] at F;refine wp_exit ?_;refine hK3 _ _ (cSR fun K10 hK10=>Xl F rfl (Xs Tryz.underlying22 rfl (Xj rfl rfl GZ (Xd rfl ?_))));clear hK3;clear F a;intro a F
 refine F.split 31 rfl ?_ ?_ <;> (clear F;intro h31 F)
 ·
  replace h31:=of_decide_eq_true h31;refine Xl F rfl (Xj rfl rfl GZ (Xg rfl rfl (Xh rfl (qNK hK10 ?_))));clear hK10;clear F a;intro a F;refine wp_ret ?_;refine bRet Tryz.results4 F rfl ?_
  refine ⟨X1 ?_,H.below⟩
  clear F H
  have h32:(decide ((rcL l 0:Int)≤4))=decide (rcL l 0≤4):=by
    by_cases h:rcL l 0≤4
    · rw [decide_eq_true h,decide_eq_true (by omega)]
    · rw [decide_eq_false h,decide_eq_false (by omega)]
  (rw [h32];unfold fewP;rw [decide_eq_true (show l.length≤12 by omega)];rfl)
 replace h31:=of_decide_eq_false h31;refine Xe F (Xf (Xg rfl rfl (Xh rfl (qNK hK10 ?_))));clear hK10;clear F a;intro a F;refine wp_ret ?_;refine bRet Tryz.results4 F rfl ?_
 refine ⟨X1 ?_,H.below⟩
 clear F H
 have h32:(decide ((rcL l 0:Int)≤4))=decide (rcL l 0≤4):=by
   by_cases h:rcL l 0≤4
   · rw [decide_eq_true h,decide_eq_true (by omega)]
   · rw [decide_eq_false h,decide_eq_false (by omega)]
 (unfold fewP;rw [decide_eq_false (show ¬ l.length≤12 by omega)];rfl)
-- ReR
open Go.Proofs.Tryz
open Go.RowKit
set_option maxRecDepth 100000
section
variable {P:Program} {l:List Oper} {Q:Exit→Act→World→Prop} {N:Nat} {a:Act} {env:List (Nat × Value)} {rest:List Oper} {d:Tmp} {ty:TypeId} {pos:String} {af:Array Edge} {g:Option (Nat × Bool)} {w:World}
theorem rMinI {x y:Operand} {ts:Array TypeId} {i j:Int} {k k':IntKind} (F:Has N a env) (hx:ev env x=some (.int k i)) (hy:ev env y=some (.int k' j)) :
   (execOp a.eval ⟨some d,.call ⟨.builtin .min,#[x,y],ts⟩,ty,pos,af,g⟩).run P w = .ok (.value (.int k (min i j))) w:=by
 simp only [execOp,resolve,invoke,builtin,Sem.run_bind,Sem.run_pure,Result.andThen_ok,List.map_toArray,List.map_cons,List.map_nil,F.eval hx,F.eval hy,Builtin.min_,List.foldlM,Builtin.min2]
 congr 3
 split <;> omega
theorem sMinI {x y:Operand} {ts:Array TypeId} {i j:Int} {k k':IntKind} (F:Has N a env) (hg:wants l env g=true) (hN:Nat.blt d N=true) (hx:ev env x=some (.int k i)) (hy:ev env y=some (.int k' j))
   (K:∀ a,Has N a ((d,.int k (min i j)) :: env)→wpList P l.toArray Q rest a w):wpList P l.toArray Q (⟨some d,.call ⟨.builtin .min,#[x,y],ts⟩,ty,pos,af,g⟩ :: rest) a w:=
 YM F hg rfl hN (rMinI F hx hy) K
theorem Xbb {x y:Operand} {ts:Array TypeId} {i j:Int} {k k':IntKind} (hg:wants l env g=true) (hN:Nat.blt d N=true) (hx:ev env x=some (.int k i)) (hy:ev env y=some (.int k' j)) (K:∀ a,Has N a ((d,.int k (min i j)) :: env)→wpList P l.toArray Q rest a w):∀ a,Has N a env→wpList P l.toArray Q (⟨some d,.call ⟨.builtin .min,#[x,y],ts⟩,ty,pos,af,g⟩ :: rest) a w:=fun a F=>sMinI F hg hN hx hy K
end
theorem PlIn.at {w:World} {L:List Sl} {q:PlP} (h:PlIn L q) (hm:MemL w L) (hs:Za q.path=true):PathAt w q:=by
 simp only [Za,Bool.and_eq_true,decide_eq_true_eq] at hs
 exact ⟨hm.at h.e,hm.at h.d,hm.at h.c,hm.at h.m,hs.1.1.1,hs.1.1.2,hs.1.2,hs.2⟩
theorem Own.memEat {w0 w:World} {row:Option Nat} {S:Nat→Prop} {L:List Sl} {e:TypeId} {n c sz:Nat} {A:Option Addr} {rows:List (List Value)} {rs:List Res} (H:Own w0 row w (.mem S L :: .rws e sz (.slice A n c) rows :: rs)) (hr:∀ r ∈ rows,r.length=sz) (hsz:0 < sz):∃ S',Own w0 row w (.mem S' ((A,sz,rows) :: L) :: rs):=
 ⟨_,((H.perm (List.Perm.swap _ _ _)).toMem hr hsz).memFuse⟩
theorem Mi {w0 w:World} {row:Option Nat}:∀ (ps:List PlP) (rs:List Res),Own w0 row w (ps.flatMap PlP.res++rs)→∃ S L,(∀ q ∈ ps,PlIn L q)∧Own w0 row w (.mem S L :: rs)
 | [],rs,H=>⟨_,[],(fun _ h=>by cases h),H.memNil⟩
 | q :: ps,rs,H=>by
   have H1:Own w0 row w (ps.flatMap PlP.res++(q.res++rs)):=H.perm (by
     rw [List.flatMap_cons,List.append_assoc,← List.append_assoc,← List.append_assoc]
     exact List.Perm.append_right _ List.perm_append_comm)
   obtain ⟨S,L,h1,H2⟩:=Mi ps _ H1
   obtain ⟨_,H3⟩:=Own.memEat H2 GL (by decide)
   obtain ⟨_,H4⟩:=Own.memEat H3 We (by decide)
   obtain ⟨_,H5⟩:=Own.memEat H4 We (by decide)
   obtain ⟨S',H6⟩:=Own.memEat H5 We (by decide)
   refine ⟨S',_,fun p hp=>?_,H6⟩
   rcases List.mem_cons.1 hp with e | e
   · subst e;exact ⟨InL.head.tail.tail.tail,InL.head.tail.tail,InL.head.tail,InL.head⟩
   · exact (h1 p e).up fun x hx=>by simp [hx]
theorem Gg {l:List Ins} {dom:List UInt8} {most:Int}:∀ x ∈ (YV l dom most).1,Za x=true:=by
 unfold YV
 intro x hx
 split at hx
 · cases hx
 · rename_i h
   split at hx
   · cases hx
   · obtain ⟨r,hr,rfl⟩:=List.mem_map.1 hx
     have hl:XH 6 l=true:=by
       cases h6:XH 6 l with
       | true=>rfl
       | false=>exact absurd (.inr (.inr h6)) h
     obtain ⟨vs,_,h8⟩:=mem_ends.1 hr
     exact QG hl (h8.inv hl (WD l))
theorem Gr {l:List Ins} {dom:List UInt8} {most:Int}:(YV l dom most).1.length≤4096:=by
 unfold YV
 split
 · exact Nat.zero_le _
 · rename_i h
   split
   · exact Nat.zero_le _
   · rw [List.length_map];omega
theorem LO (A:Option Addr) (C n:Nat) (l:List Ins) (RA:Option Addr) (RC k:Nat) (reads:List UInt8) (w0:World) (hA:RowsAt w0 A 10 (l.map Ins.cells)) (hl:n=l.length) (hn:l.length≤9223372036854775807) (hR:RowsAt w0 RA 1 (XN reads)) (hk:k=reads.length) (hc:reads.length≤RC) :
   Calls Tryz.prog 7 #[.slice A n C,.slice RA k RC] w0 fun e w'=>∃ (q:PlP) (S:Nat→Prop) (L:List Sl),q.path=(X0 l reads).path∧e = .returned (.tuple #[.agg q.cells.toArray,.bool (X0 l reads).more,.int .i64 ((X0 l reads).err:Int)])∧PlIn L q∧Own w0 none w' [.mem S L]:=by
 subst hl hk
 refine (NZ A C l RA RC reads w0 hA hn hR hc).mono ?_;rintro e w' ⟨A1,c1,A2,c2,A3,c3,A4,c4,S,L,rfl,hp,H⟩
 exact ⟨⟨(X0 l reads).path,A1,c1,A2,c2,A3,c3,A4,c4⟩,S,L,rfl,rfl,hp,H⟩
theorem LM {l:List Ev} {e:Ev} (h:e.kind=1):Ye (l++[e])=Ye l++[e.val]:=by
 unfold Ye;simp [h]
theorem LN {l:List Ev} {e:Ev} (h:e.kind ≠ 1):Ye (l++[e])=Ye l:=by
 unfold Ye;simp [h]
set_option maxHeartbeats 8000000 in
theorem JV (A:Option Addr) (C:Nat) (l:List Ins) (RA:Option Addr) (RC:Nat) (reads:List UInt8) (DA:Option Addr) (DC:Nat) (dom:List UInt8) (most:Int) (cs:List Value) (p:Prg) (w0:World) (hA:RowsAt w0 A 10 (l.map Ins.cells)) (hn:l.length≤9223372036854775807) (hR:RowsAt w0 RA 1 (XN reads)) (hrc:reads.length≤RC) (hrn:reads.length≤9223372036854775807) (hD:RowsAt w0 DA 1 (XN dom)) (hdc:dom.length≤DC) (hdn:dom.length≤9223372036854775807) (hP:ProgAt w0 cs p) (hcd:Z8 p.cond≤9223372036854775807) (hN:NeedsAt w0) (hT:TabAt w0) :
   Calls Tryz.prog 3 #[.slice A l.length C,.slice RA reads.length RC,.slice DA dom.length DC,.int .i64 most,.agg cs.toArray] w0 fun e w'=>e = .returned (.bool true)∧Below w0.heap.size w0 w':=by
 have H:=Own.start w0 none
 have hP0:=hP
 obtain ⟨LA,LC,IA,IC,TA,TC,h,ccs,hp⟩:=hP
 obtain ⟨d1,d2,d3,d4,d5,rfl⟩:=Xat (Zc hp.cond)
 have hcs:=hp.cs
 subst hcs
 have htn:=hp.threadsN
 refine XE func3 rfl ntmps3 rfl (fun a F=>?_);refine cSR fun K1 hK1=>?_;refine sBx H F rfl rfl rfl ?_;clear F a H;intro b9 a w F H;refine Xa F rfl (qNK hK1 ?_);clear hK1;clear F a;intro a F;refine cSeq (fun K2 hK2=>?_);refine cSR fun K3 hK3=>Xl F rfl ?_;clear F a;intro a F;refine Xn call4 F rfl (MA A C l _ (hA.own H) hn) (gG H ?_);clear F a H;intro a w F H;refine UV F rfl rfl rfl (Xd rfl ?_);clear F a;intro a F
 refine F.split 34 rfl ?_ ?_ <;> (clear F;intro h34 F)
 ·
  replace h34:=ZA h34;refine Xe F (Xf (Xf (Xg rfl rfl (qNK hK3 ?_))));clear hK3;clear F a;intro a F;refine cIfT F rfl ?_;refine cSR fun K4 hK4=>?_;refine Xn call5 F rfl (YS _ (hN.own H) (hT.own H)) (gG H ?_);clear F a H;intro a w F H;refine Xa F rfl (qNK hK4 ?_);clear hK4;clear F a;intro a F;refine wp_ret ?_;simp only [Exit.then];refine bRet results3 F rfl ?_
  exact ⟨rfl,H.below⟩
 replace h34:=ZB h34;refine Xl F rfl (Xs underlying23 rfl (Xj rfl rfl UO (Xg rfl rfl (qNK hK3 ?_))));clear hK3;clear F a;intro a F
 refine cIf F rfl (fun h38=>?_) (fun h38=>?_)
 ·
  replace h38:=of_decide_eq_true h38;refine cSR fun K5 hK5=>?_;refine Xn call5 F rfl (YS _ (hN.own H) (hT.own H)) (gG H ?_);clear F a H;intro a w F H;refine Xa F rfl (qNK hK5 ?_);clear hK5;clear F a;intro a F;refine wp_ret ?_;simp only [Exit.then];refine bRet results3 F rfl ?_
  exact ⟨rfl,H.below⟩
 replace h38:=of_decide_eq_false h38;refine wp_skip (hK2 _ _ (cSR fun K6 hK6=>Xl F rfl (Xd rfl ?_)));clear hK2;clear F a;intro a F;refine Xn call6 F rfl (Nz A C l.length l RA RC reads.length reads _ (hA.own H) rfl hn (hR.own H) rfl (by omega) (hN.own H) (hT.own H)) ?_;rintro e w ⟨qp,hqp,rfl,H2⟩;replace H:=H.join H2
 clear H2
 have hqs:Za qp.path=true:=by rw [hqp];exact QH _ _
 refine ⟨_,rfl,?_⟩;clear F a;intro a F;refine Xl F rfl (XB rfl rfl (XB rfl rfl (XB rfl rfl ?_)));clear F a;intro a F;refine sAl H zeroValue37 F rfl rfl ?_;clear F a H;intro b11 a w F H
 refine sSr H 0 ?si F rfl rfl rfl ?s1 rfl rfl ?_
 case si=>exact XC sizeOf37
 case s1=>rfl
 clear H;intro w H;refine Xa F rfl (Xh rfl ?_);clear F a;intro a F;refine sNil ?_;rw [XG (by rfl)] at H;refine hK6 _ _ (cSR fun K7 hK7=>Xl F rfl (Xd rfl ?_));clear hK6;clear F a;intro a F;refine Xn call7 F rfl (LO A C l.length l RA RC reads.length reads _ (hA.own H) rfl hn (hR.own H) rfl hrc) ?_;rintro e w ⟨qr,S1,L1,hqr,rfl,hpr,H2⟩;replace H:=H.join H2
 clear H2
 have hrs:Za qr.path=true:=by rw [hqr];exact QH _ _
 refine ⟨_,rfl,?_⟩;clear F a;intro a F;refine Xl F rfl (XB rfl rfl (XB rfl rfl (XB rfl rfl ?_)));clear F a;intro a F;refine sAl H zeroValue37 F rfl rfl ?_;clear F a H;intro b14 a w F H
 refine sSr H 0 ?si F rfl rfl rfl ?s1 rfl rfl ?_
 case si=>exact XC sizeOf37
 case s1=>rfl
 clear H;intro w H;refine Xa F rfl (Xh rfl ?_);clear F a;intro a F;refine sNil ?_;rw [XG (by rfl)] at H;refine hK7 _ _ ?_;clear hK7;refine cSeq (fun K8 hK8=>?_);refine cSR fun K9 hK9=>?_
 refine Xo underlying37 rfl ?si F rfl (H.whole 2 rfl) ?_
 case si=>exact XC sizeOf37
 clear F a;intro a F
 refine Xo underlying37 rfl ?si F rfl (H.whole 0 rfl) ?_
 case si=>exact XC sizeOf37
 clear F a;intro a F;refine Xn call8 F rfl (Uj qp qr _ (VS (H.sel [3,4,5,6] rfl rfl) hqs) (hpr.at (H.memAt 1 rfl) hrs)) (gG H ?_);clear F a H;intro a w F H;refine UV F rfl rfl rfl (Xd rfl ?_);clear F a;intro a F
 refine F.split 58 rfl ?_ ?_ <;> (clear F;intro h58 F)
 ·
  replace h58:=ZA h58
  exact ZU (by rw [hqp,hqr];exact Gh _) h58
 replace h58:=ZB h58;refine Xl F rfl (Xd rfl (Xj rfl rfl (XbQ underlying4) (Xg rfl rfl (Xd rfl ?_))));clear F a;intro a F
 refine F.split 63 rfl ?_ ?_ <;> (clear F;intro h63 F)
 ·
  replace h63:=Xcy h63
  exact absurd rfl h63
 replace h63:=Xcz h63;refine Xl F rfl (Xd rfl (Xj rfl rfl U7 (Xg rfl rfl (qNK hK9 ?_))));clear hK9;clear F a;intro a F
 refine cIf F rfl (fun h67=>?_) (fun h67=>?_)
 ·
  replace h67:=UL h67
  exact absurd rfl h67
 replace h67:=UM h67;refine wp_skip (hK8 _ _ (cSR fun K10 hK10=>Xa F rfl ?_));clear hK8;clear F a;intro a F
 replace H:=H.nilRws 5 1
 refine nK hK10 ?_;clear hK10;refine cSeq (fun K11 hK11=>?_);refine cSR fun K12 hK12=>Xi (f:=0) (k:=0) underlying37 rfl sizeOf33 rfl rfl F rfl (Xc isAgg33 rfl (H.cell 1 rfl rfl) (Xs underlying33 rfl (Xd rfl (qNK hK12 ?_))));clear hK12;clear F a;intro a F;refine wp_block ?_
 refine cLoopS [0,2,3,9,11,69,70] (fun m ups w=>∃ (j:Nat) (A17:Option Addr) (c17:Nat),m=qr.path.evs.length - j∧ups=[(17,.slice A17 (Ye (qr.path.evs.take j)).length c17),(71,.int .i64 ((j:Nat):Int))]∧j≤qr.path.evs.length∧Own w0 none w [.rws 5 1 (.slice A17 (Ye (qr.path.evs.take j)).length c17) (XN (Ye (qr.path.evs.take j))),.rws 45 7 (.slice qp.A1 qp.path.evs.length qp.c1) (qp.path.evs.map Ev.cells),.mem S1 L1,.blk b11 qp.cells 37,.blk b9 ([.string p.name,.slice LA p.locs.length LC,.slice IA p.init.length IC,.slice TA p.threads.length TC,Go.Proofs.YtagnefpgidbhnaaGreatDoor.b8 p.ask]++[d1,d2,d3,d4,d5]) 30]) F (qr.path.evs.length) [(17,.slice none 0 0),(71,.int .i64 ((0:Nat):Int))] ?_ ?_
 · exact ⟨0,none,0,rfl,rfl,Nat.zero_le _,H.sel [0,4,2,3,8] rfl rfl⟩
 clear F
 clear H
 intro m ups a w hI F
 obtain ⟨j,A17,c17,rfl,rfl,hj,H⟩:=hI
 refine cSR fun K13 hK13=>Xm F rfl rfl YW (qNK hK13 ?_);clear hK13;clear F a;intro a F;refine cSeq (fun K14 hK14=>?_)
 refine cIf F rfl (fun h72=>?_) (fun h72=>?_)
 ·
  replace h72:=of_decide_eq_true h72
  have hje:j < qr.path.evs.length:=by omega
  obtain ⟨e,he⟩:∃ e,qr.path.evs[j]? = some e:=⟨_,List.getElem?_eq_getElem hje⟩
  have hte:qr.path.evs.take (j+1)=qr.path.evs.take j++[e]:=by rw [List.take_add_one,he];rfl
  obtain ⟨bE,oE,hE1,hE2⟩:=(H.memAt 2 rfl).at hpr.e j e.cells (by rw [List.getElem?_map,he];rfl)
  have hE1:qr.A1=some ⟨bE,oE,none⟩:=hE1
  have hev:qr.path.evs.length≤1000000:=by simp only [Za,Bool.and_eq_true,decide_eq_true_eq] at hrs;exact hrs.1.1.1
  have hrl:(Ye (qr.path.evs.take j)).length≤1000000:=by
   unfold Ye
   rw [List.length_map]
   have:=List.length_filter_le (fun e:Ev=>e.kind == 1) (qr.path.evs.take j)
   rw [List.length_take] at this
   omega
  rw [hE1] at F;refine wp_skip (hK14 _ _ ?_);clear hK14;refine cSeq (fun K15 hK15=>?_);refine wp_block ?_;refine cSR fun K16 hK16=>?_
  refine sIx underlying33 sizeOf45 F rfl rfl rfl rfl ?_ ?_
  focus exact hje
  clear F a;intro a F
  refine Xo underlying45 rfl ?si F rfl hE2 ?_
  case si=>exact XC sizeOf45
  clear F a;intro a F;refine sAl H zeroValue45 F rfl rfl ?_;clear F a H;intro b19 a w F H
  refine sSr H 0 ?si F rfl rfl rfl ?s1 rfl rfl ?_
  case si=>exact XC sizeOf45
  case s1=>rfl
  clear H;intro w H;refine nK hK16 (cSR fun K17 hK17=>Xi (f:=1) (k:=1) underlying45 rfl sizeOf5 rfl rfl F rfl (Xc isAgg5 rfl (H.cell 0 rfl rfl) (Xj rfl rfl (XZ (y:=1)) (qNK hK17 ?_))));clear hK16 hK17;clear F a;intro a F
  refine cIf F rfl (fun h77=>?_) (fun h77=>?_)
  ·
   replace h77:=Yh h77;refine cReg (Xl F rfl (Xb (f:=3) (k:=3) underlying45 rfl sizeOf5 rfl rfl rfl (Xc isAgg5 rfl (H.cell 0 rfl rfl) ?_)));clear F a;intro a F;refine MP H underlying23 sizeOf5 zeroValue5 rfl F rfl rfl rfl rfl ?_;clear F a H;intro b81 a w F H
   refine G7 (bytes:=1) H 2 underlying23 typeInfo5 rfl rfl rfl rfl rfl rfl F rfl rfl rfl rfl rfl (H.whole 0 rfl) rfl ?s1 ?s2 ?_
   case s1=>rfl
   case s2=>(simp only [XN,List.length_map];omega)
   clear F a H;intro A82 c82 a w F H;refine Xa F rfl (qNK hK15 (WN ?_));clear hK15;clear F a;intro a F
   refine Xm F rfl rfl (XJ (j:=1) ?_) ?_
   focus omega
   clear F a;intro a F;refine Xl F rfl ?_;clear F a;intro a F;refine sNil ?_
   (have hk:e.kind=1:=h77
    have e1:XN (Ye (qr.path.evs.take j))++[[Go.Proofs.YtagnefpgidbhnaaGreatDoor.b8 e.val]]=XN (Ye (qr.path.evs.take (j+1))):=by rw [hte,LM hk];simp [XN]
    have e2:(XN (Ye (qr.path.evs.take (j+1)))).length=(Ye (qr.path.evs.take (j+1))).length:=List.length_map _
    have H9:=H.sel [2,3,4,5,6] rfl rfl
    rw [e1,e2] at H9 F;rw [← hE1] at F
    exact ⟨_,by omega,_,⟨j+1,A82,c82,rfl,rfl,by omega,H9⟩,F.tt⟩)
  replace h77:=Yi h77;refine wp_skip (hK15 _ _ (cReg ?_));clear hK15
  refine Xm F rfl rfl (XJ (j:=1) ?_) ?_
  focus omega
  clear F a;intro a F;refine Xl F rfl ?_;clear F a;intro a F;refine sNil ?_
  (have hk:e.kind ≠ 1:=h77
   have e1:Ye (qr.path.evs.take (j+1))=Ye (qr.path.evs.take j):=by rw [hte,LN hk]
   rw [← hE1] at F
   exact ⟨_,by omega,_,⟨j+1,A17,c17,rfl,by rw [e1],by omega,by rw [e1];exact H.sel [1,2,3,4,5] rfl rfl⟩,F.tt⟩)
 replace h72:=of_decide_eq_false h72
 have hjl:qr.path.evs.take j=qr.path.evs:=List.take_of_length_le (by omega)
 rw [hjl] at H F;refine wp_exit ?_;refine hK11 _ _ ?_;clear hK11;refine cSeq (fun K18 hK18=>?_);refine cSR fun K19 hK19=>?_
 refine Xo underlying37 rfl ?si F rfl (H.whole 3 rfl) ?_
 case si=>exact XC sizeOf37
 clear F a;intro a F;refine Xn call10 F rfl (BH qp _ (H.rowsAt 1 rfl ev7 (by omega)) (by simp only [Za,Bool.and_eq_true,decide_eq_true_eq] at hqs;exact hqs.1.1.1)) ?_;rintro e w ⟨A7,c7,rfl,H2⟩;replace H:=H.join H2;clear H2;refine ⟨_,rfl,?_⟩;clear F a;intro a F;refine Xl F rfl ?_;clear F a;intro a F;refine Xn call9 F rfl (Wn A7 A17 c7 c17 (Ye qp.path.evs) (Ye qr.path.evs) _ (H.rowsAt 0 rfl XL (by omega)) (H.rowsAt 1 rfl XL (by omega))) (gG H ?_);clear F a H;intro a w F H;refine UV F rfl rfl rfl (qNK hK19 ?_);clear hK19;clear F a;intro a F
 refine cIf F rfl (fun h88=>?_) (fun h88=>?_)
 ·
  replace h88:=ZA h88
  exact ZU (by rw [hqp,hqr];exact beq_self_eq_true _) h88
 replace h88:=ZB h88;refine wp_skip (hK18 _ _ (cSR fun K20 hK20=>Xl F rfl (Xd rfl (Xs underlying23 rfl (qMinN (j:=5) rfl rfl rfl rfl ?_)))));clear hK18;clear F a;intro a F
 refine sSlH underlying23 (fun w=>⟨_,sizeOf5 w⟩) F rfl rfl rfl rfl ?_ ?_
 focus omega
 clear F a;intro a F;refine Xa F rfl ?_;clear F a;intro a F;refine sNil ?_
 have hd5:min dom.length 5=(dom.take 5).length:=by rw [List.length_take,Nat.min_comm]
 have hD5:RowsAt w0 DA 1 (XN (dom.take 5)):=LF hD 5
 have hd5l:(dom.take 5).length≤5:=by rw [List.length_take];omega
 rw [hd5] at F;refine hK20 _ _ ?_;clear hK20;refine cSeq (fun K21 hK21=>?_);refine cSR fun K22 hK22=>Xl F rfl (Xj rfl rfl GZ (qNK hK22 ?_));clear hK22;clear F a;intro a F
 refine cIf F rfl (fun h95=>?_) (fun h95=>?_)
 ·
  replace h95:=of_decide_eq_true h95;refine cReg (Xl F rfl (Xbb rfl rfl rfl rfl (Xh rfl (qNK hK21 (qSR fun K23 hK23=>Xd rfl (Xd rfl (Xd rfl ?_)))))));clear hK21;clear F a;intro a F;refine Xn call11 F rfl (Md.Paths_any A C l DA DC (dom.take 5) _ _ (hA.own H) hn (hD5.own H) (by omega) (hN.own H) (hT.own H)) ?_;rintro e w ⟨ps,LA2,LC2,hps,rfl,H2⟩;replace H:=H.join H2
  clear H2
  obtain ⟨SP,LP,hpl,H3⟩:=Mi ps _ (H.perm List.perm_middle.symm)
  clear H
  have H:=H3
  clear H3
  refine ⟨_,rfl,?_⟩;clear F a;intro a F;refine Xl F rfl (XB rfl rfl (XB rfl rfl (Xh rfl (Xh rfl (qNK hK23 (qSR fun K24 hK24=>Xd rfl (Xd rfl (Xd rfl ?_))))))));clear hK23;clear F a;intro a F;refine Xn call12 F rfl (Ux A C l DA DC (dom.take 5) _ _ (hA.own H) hn (hD5.own H) (by omega)) ?_;rintro e w ⟨qs,QA,QC,SQ,LQ,hqs2,rfl,hql,H2⟩;replace H:=H.join H2
  clear H2
  have hpq:ps.length=qs.length:=by have h1:=congrArg List.length hps;have h2:=congrArg List.length hqs2;rw [List.length_map] at h1 h2;omega
  have hps4:ps.length≤4096:=by have h1:=congrArg List.length hps;rw [List.length_map] at h1;rw [h1];exact Gr
  refine ⟨_,rfl,?_⟩;clear F a;intro a F;refine Xl F rfl (XB rfl rfl (XB rfl rfl (Xh rfl (Xh rfl (qNK hK24 ?_)))));clear hK24;clear F a;intro a F;refine cSeq (fun K25 hK25=>?_);refine cSR fun K26 hK26=>Xl F rfl (Xs underlying48 rfl (Xd rfl (Xs underlying48 rfl (Xj rfl rfl U7 (Xd rfl ?_)))));clear F a;intro a F
  refine F.split 117 rfl ?_ ?_ <;> (clear F;intro h117 F)
  ·
   replace h117:=UL h117
   omega
  replace h117:=UM h117;refine Xl F rfl (Xd rfl (Xj rfl rfl U7 (Xg rfl rfl (qNK hK26 ?_))));clear hK26;clear F a;intro a F
  refine cIf F rfl (fun h121=>?_) (fun h121=>?_)
  ·
   replace h121:=UL h121
   exact absurd rfl h121
  replace h121:=UM h121;refine wp_skip (hK25 _ _ ?_);clear hK25;refine cSeq (fun K27 hK27=>?_);refine cSR fun K28 hK28=>Xl F rfl (Xs underlying48 rfl (Xd rfl (qNK hK28 ?_)));clear hK28;clear F a;intro a F;refine wp_block ?_
  refine cLoopS [3,9,20,22,123] (fun m ups w=>∃ i:Nat,m=ps.length - i∧ups=[(124,.int .i64 ((i:Nat):Int))]∧i≤ps.length∧Own w0 none w [.rws 37 12 (.slice LA2 ps.length LC2) (ps.map PlP.cells),.mem SP LP,.rws 37 12 (.slice QA qs.length QC) (qs.map PlP.cells),.mem SQ LQ,.blk b9 ([.string p.name,.slice LA p.locs.length LC,.slice IA p.init.length IC,.slice TA p.threads.length TC,Go.Proofs.YtagnefpgidbhnaaGreatDoor.b8 p.ask]++[d1,d2,d3,d4,d5]) 30]) F (ps.length) [(124,.int .i64 ((0:Nat):Int))] ?_ ?_
  · exact ⟨0,rfl,rfl,Nat.zero_le _,H.sel [3,2,0,1,9] rfl rfl⟩
  clear F
  clear H
  intro m ups a w hI F
  obtain ⟨i,rfl,rfl,hi,H⟩:=hI
  refine cSR fun K29 hK29=>Xm F rfl rfl YW (qNK hK29 ?_);clear hK29;clear F a;intro a F;refine cSeq (fun K30 hK30=>?_)
  refine cIf F rfl (fun h125=>?_) (fun h125=>?_)
  ·
   replace h125:=of_decide_eq_true h125
   have hip:i < ps.length:=by omega
   obtain ⟨q1,hq1⟩:∃ q,ps[i]? = some q:=⟨_,List.getElem?_eq_getElem hip⟩
   obtain ⟨q2,hq2⟩:∃ q,qs[i]? = some q:=⟨_,List.getElem?_eq_getElem (by omega)⟩
   have h12:q1.path=q2.path:=by
    have e1:=congrArg (·[i]?) (hps.trans hqs2.symm)
    simp only [List.getElem?_map,hq1,hq2,Option.map_some] at e1
    exact Option.some.inj e1
   have hs1:Za q1.path=true:=Gg _ (by rw [← hps];exact List.mem_map.2 ⟨q1,List.mem_of_getElem? hq1,rfl⟩)
   have hs2:Za q2.path=true:=by rw [← h12];exact hs1
   obtain ⟨bP,oP,rfl,_⟩:=H.rowsAt 0 rfl WS (by decide) i q1.cells (by rw [List.getElem?_map,hq1];rfl)
   obtain ⟨bQ,oQ,rfl,_⟩:=H.rowsAt 2 rfl WS (by decide) i q2.cells (by rw [List.getElem?_map,hq2];rfl)
   refine wp_skip (hK30 _ _ ?_);clear hK30;refine cSeq (fun K31 hK31=>?_);refine wp_block ?_;refine cSR fun K32 hK32=>Xl F rfl (Xh rfl (qNK hK32 ?_));clear hK32;clear F a;intro a F;refine cSeq (fun K33 hK33=>?_);refine cRegRO (by kernel_rfl) H ?_;replace H:=H.drew;refine Xt 0 rfl F rfl (fun w=>rMv F rfl) H qq0 (Xu 1 rfl rfl (fun a F w=>rMv F rfl) H qq0 ?_);clear F a;intro a F
   refine Xv (k:=2) (i:=2) rfl F rfl (fun w=>rIx underlying48 sizeOf37 F rfl rfl ?_) H (fun _ _ _ h=>h) ?_
   focus exact hip
   clear F a;intro a F
   refine XA (k:=3) (i:=3) rfl F rfl rfl (fun w H=>rLr underlying37 rfl ?si F rfl (by obtain ⟨b8,o8,g1,g2⟩:=H.rowsAt 0 rfl WS (by decide) i q1.cells (by rw [List.getElem?_map,hq1];rfl);cases g1;exact g2)) H (fun _ _ _ h=>h) ?_
   case si=>exact XC sizeOf37
   clear F a;intro a F;refine Xt 4 rfl F rfl (fun w=>rMv F rfl) H qq0 (Xu 5 rfl rfl (fun a F w=>rMv F rfl) H qq0 ?_);clear F a;intro a F
   refine Xv (k:=6) (i:=6) rfl F rfl (fun w=>rIx underlying48 sizeOf37 F rfl rfl ?_) H (fun _ _ _ h=>h) ?_
   focus omega
   clear F a;intro a F
   refine XA (k:=7) (i:=7) rfl F rfl rfl (fun w H=>rLr underlying37 rfl ?si F rfl (by obtain ⟨b8,o8,g1,g2⟩:=H.rowsAt 2 rfl WS (by decide) i q2.cells (by rw [List.getElem?_map,hq2];rfl);cases g1;exact g2)) H (fun _ _ _ h=>h) ?_
   case si=>exact XC sizeOf37
   clear F a;intro a F;refine Xx (k:=8) (i:=8) rfl (by kernel_rfl) F (XS call8 F rfl rfl (Uj q1 q2 _ ((hpl q1 (List.mem_of_getElem? hq1)).at (H.memAt 1 rfl) hs1) ((hql q2 (List.mem_of_getElem? hq2)).at (H.memAt 3 rfl) hs2)) ?_);rintro e w ⟨rfl,hb⟩;replace H:=H.grow hb;clear hb;refine ⟨_,rfl,?_⟩;clear F a;intro a F;refine XF (by kernel_rfl) H ?_;refine Xt 9 rfl F rfl (fun w=>NA F rfl) H qq0 ?_;clear F a;intro a F;refine eNil (k:=10) (by kernel_rfl) ?_;refine hK33 _ _ ?_;clear hK33
   refine cIf F rfl (fun h136=>?_) (fun h136=>?_)
   ·
    replace h136:=ZA h136
    exact ZU (by rw [h12];exact Gh _) h136
   replace h136:=ZB h136;refine wp_skip (hK31 _ _ (cReg ?_));clear hK31
   refine Xm F rfl rfl (XJ (j:=1) ?_) ?_
   focus omega
   clear F a;intro a F;refine Xl F rfl ?_;clear F a;intro a F;refine sNil ?_
   exact ⟨_,by omega,_,⟨i+1,rfl,rfl,by omega,H.sel [0,1,2,3,4] rfl rfl⟩,F.tt⟩
  replace h125:=of_decide_eq_false h125;refine wp_exit ?_;refine hK27 _ _ ?_;clear hK27;refine cSeq (fun K34 hK34=>?_);refine cSR fun K35 hK35=>Xi (f:=3) (k:=3) underlying30 rfl sizeOf25 rfl rfl F rfl (Xc isAgg25 rfl (H.cell 4 rfl rfl) (Xs underlying25 rfl (Xd rfl (qNK hK35 ?_))));clear hK35;clear F a;intro a F;refine wp_block ?_
  refine cLoopS [3,9,139,140] (fun m ups w=>∃ i:Nat,m=p.threads.length - i∧ups=[(141,.int .i64 ((i:Nat):Int))]∧i≤p.threads.length∧Own w0 none w [.blk b9 ([.string p.name,.slice LA p.locs.length LC,.slice IA p.init.length IC,.slice TA p.threads.length TC,Go.Proofs.YtagnefpgidbhnaaGreatDoor.b8 p.ask]++[d1,d2,d3,d4,d5]) 30]) F (p.threads.length) [(141,.int .i64 ((0:Nat):Int))] ?_ ?_
  · exact ⟨0,rfl,rfl,Nat.zero_le _,H.sel [4] rfl rfl⟩
  clear F
  clear H
  intro m ups a w hI F
  obtain ⟨i,rfl,rfl,hi,H⟩:=hI
  refine cSR fun K36 hK36=>Xm F rfl rfl YW (qNK hK36 ?_);clear hK36;clear F a;intro a F;refine cSeq (fun K37 hK37=>?_)
  refine cIf F rfl (fun h142=>?_) (fun h142=>?_)
  ·
   replace h142:=of_decide_eq_true h142
   have hjl:i < p.threads.length:=by omega
   obtain ⟨l3,hl3⟩:∃ l,p.threads[i]? = some l:=⟨_,List.getElem?_eq_getElem hjl⟩
   obtain ⟨bT,oT,BT,CT,rfl,hT1,hT2,hT3⟩:=hp.threads i l3 hl3
   refine wp_skip (hK37 _ _ ?_);clear hK37;refine cSeq (fun K38 hK38=>?_);refine wp_block ?_;refine cSR fun K39 hK39=>?_
   refine sIx underlying25 sizeOf22 F rfl rfl rfl rfl ?_ ?_
   focus exact hjl
   clear F a;intro a F;refine sLd isAgg22 F rfl rfl rfl (H.arg hT1) (Xh rfl (qNK hK39 (qSR fun K40 hK40=>Xd rfl ?_)));clear hK39;clear F a;intro a F;refine Xn call4 F rfl (MA BT CT l3 _ (hT2.own H) hT3) (gG H ?_);clear F a H;intro a w F H;refine UV F rfl rfl rfl (Xd rfl ?_);clear F a;intro a F
   refine F.split 148 rfl ?_ ?_ <;> (clear F;intro h148 F)
   ·
    replace h148:=ZA h148;refine Xe F (Xf (Xf (Xf (Xg rfl rfl (qNK hK40 ?_)))));clear hK40;clear F a;intro a F;refine cIfT F rfl ?_;refine cSR fun K41 hK41=>?_;refine Xn call5 F rfl (YS _ (hN.own H) (hT.own H)) (gG H ?_);clear F a H;intro a w F H;refine Xa F rfl (qNK hK41 ?_);clear hK41;clear F a;intro a F;refine wp_ret ?_;refine xI ?_;refine bRet results3 F rfl ?_
    exact ⟨rfl,H.below⟩
   replace h148:=ZB h148;refine Xi (f:=3) (k:=3) underlying30 rfl sizeOf25 rfl rfl F rfl (Xc isAgg25 rfl (H.cell 0 rfl rfl) (Xs underlying25 rfl (Xj rfl rfl UO (Xg rfl rfl (qNK hK40 ?_)))));clear hK40;clear F a;intro a F
   refine cIf F rfl (fun h153=>?_) (fun h153=>?_)
   ·
    replace h153:=of_decide_eq_true h153;refine cSR fun K42 hK42=>?_;refine Xn call5 F rfl (YS _ (hN.own H) (hT.own H)) (gG H ?_);clear F a H;intro a w F H;refine Xa F rfl (qNK hK42 ?_);clear hK42;clear F a;intro a F;refine wp_ret ?_;refine xI ?_;refine bRet results3 F rfl ?_
    exact ⟨rfl,H.below⟩
   replace h153:=of_decide_eq_false h153;refine wp_skip (hK38 _ _ (cReg ?_));clear hK38
   refine Xm F rfl rfl (XJ (j:=1) ?_) ?_
   focus omega
   clear F a;intro a F;refine Xl F rfl ?_;clear F a;intro a F;refine sNil ?_
   exact ⟨_,by omega,_,⟨i+1,rfl,rfl,by omega,H.sel [0] rfl rfl⟩,F.tt⟩
  replace h142:=of_decide_eq_false h142;refine wp_exit ?_;refine hK34 _ _ ?_;clear hK34;refine cSeq (fun K43 hK43=>?_);refine cSR fun K44 hK44=>Xl F rfl (Xj rfl rfl GZ (qNK hK44 ?_));clear hK44;clear F a;intro a F
  refine cIf F rfl (fun h157=>?_) (fun h157=>?_)
  ·
   replace h157:=of_decide_eq_true h157;refine cReg (Xl F rfl (Xbb rfl rfl rfl rfl (Xh rfl (qNK hK43 (qSR fun K45 hK45=>?_)))));clear hK43;clear F a;intro a F
   refine Xo underlying30 rfl ?si F rfl (H.whole 0 rfl) ?_
   case si=>exact XC sizeOf30
   clear F a;intro a F;refine Xl F rfl ?_;clear F a;intro a F;refine Xn call13 F rfl (ZS _ p _ _ (hP0.own H) (hN.own H)) ?_;rintro e w ⟨A1,c1,rfl,H2⟩;replace H:=H.join H2;clear H2;refine ⟨_,rfl,?_⟩;clear F a;intro a F;refine Xl F rfl (XB rfl rfl (XB rfl rfl (Xh rfl (Xh rfl (qNK hK45 (qSR fun K46 hK46=>?_))))));clear hK45;clear F a;intro a F
   refine Xo underlying30 rfl ?si F rfl (H.whole 1 rfl) ?_
   case si=>exact XC sizeOf30
   clear F a;intro a F;refine Xl F rfl ?_;clear F a;intro a F;refine Xn call14 F rfl (Wv _ p _ _ (hP0.own H) hcd) ?_;rintro e w ⟨A2,c2,rfl,H2⟩;replace H:=H.join H2;clear H2;refine ⟨_,rfl,?_⟩;clear F a;intro a F;refine Xl F rfl (XB rfl rfl (XB rfl rfl (Xh rfl (Xh rfl (qNK hK46 (qSR fun K47 hK47=>Xd rfl (Xd rfl ?_)))))));clear hK46;clear F a;intro a F;refine Xn call9 F rfl (Wn A1 A2 c1 c2 (YT p _).1 (YT p _).1 _ (H.rowsAt 1 rfl XL (by omega)) (H.rowsAt 0 rfl XL (by omega))) (gG H ?_);clear F a H;intro a w F H;refine Xl F rfl ?_;clear F a;intro a F
   refine F.split 175 rfl ?_ ?_ <;> (clear F;intro h175 F)
   ·
    refine Xl F rfl (Xd rfl (Xj rfl rfl ZQ (Xg rfl rfl (Xd rfl ?_))));clear F a;intro a F
    refine F.split 180 rfl ?_ ?_ <;> (clear F;intro h180 F)
    ·
     replace h180:=Yh h180;refine Xn call5 F rfl (YS _ (hN.own H) (hT.own H)) (gG H ?_);clear F a H;intro a w F H;refine sPk F rfl rfl rfl rfl (Xh rfl (qNK hK47 ?_));clear hK47;clear F a;intro a F;refine wp_ret ?_;refine bRet results3 F rfl ?_
     exact ⟨rfl,H.below⟩
    replace h180:=Yi h180
    exact absurd rfl h180
   exact ZU (beq_self_eq_true _) h175
  replace h157:=of_decide_eq_false h157;refine wp_skip (hK43 _ _ (cSR fun K48 hK48=>?_));clear hK43
  refine Xo underlying30 rfl ?si F rfl (H.whole 0 rfl) ?_
  case si=>exact XC sizeOf30
  clear F a;intro a F;refine Xl F rfl ?_;clear F a;intro a F;refine Xn call13 F rfl (ZS _ p _ _ (hP0.own H) (hN.own H)) ?_;rintro e w ⟨A1,c1,rfl,H2⟩;replace H:=H.join H2;clear H2;refine ⟨_,rfl,?_⟩;clear F a;intro a F;refine Xl F rfl (XB rfl rfl (XB rfl rfl (Xh rfl (Xh rfl (qNK hK48 (qSR fun K49 hK49=>?_))))));clear hK48;clear F a;intro a F
  refine Xo underlying30 rfl ?si F rfl (H.whole 1 rfl) ?_
  case si=>exact XC sizeOf30
  clear F a;intro a F;refine Xl F rfl ?_;clear F a;intro a F;refine Xn call14 F rfl (Wv _ p _ _ (hP0.own H) hcd) ?_;rintro e w ⟨A2,c2,rfl,H2⟩;replace H:=H.join H2;clear H2;refine ⟨_,rfl,?_⟩;clear F a;intro a F;refine Xl F rfl (XB rfl rfl (XB rfl rfl (Xh rfl (Xh rfl (qNK hK49 (qSR fun K50 hK50=>Xd rfl (Xd rfl ?_)))))));clear hK49;clear F a;intro a F;refine Xn call9 F rfl (Wn A1 A2 c1 c2 (YT p _).1 (YT p _).1 _ (H.rowsAt 1 rfl XL (by omega)) (H.rowsAt 0 rfl XL (by omega))) (gG H ?_);clear F a H;intro a w F H;refine Xl F rfl ?_;clear F a;intro a F
  refine F.split 175 rfl ?_ ?_ <;> (clear F;intro h175 F)
  ·
   refine Xl F rfl (Xd rfl (Xj rfl rfl ZQ (Xg rfl rfl (Xd rfl ?_))));clear F a;intro a F
   refine F.split 180 rfl ?_ ?_ <;> (clear F;intro h180 F)
   ·
    replace h180:=Yh h180;refine Xn call5 F rfl (YS _ (hN.own H) (hT.own H)) (gG H ?_);clear F a H;intro a w F H;refine sPk F rfl rfl rfl rfl (Xh rfl (qNK hK50 ?_));clear hK50;clear F a;intro a F;refine wp_ret ?_;refine bRet results3 F rfl ?_
    exact ⟨rfl,H.below⟩
   replace h180:=Yi h180
   exact absurd rfl h180
  exact ZU (beq_self_eq_true _) h175
 replace h95:=of_decide_eq_false h95;refine wp_skip (hK21 _ _ (cSR fun K51 hK51=>Xl F rfl (Xd rfl (Xd rfl ?_))));clear hK21;clear F a;intro a F;refine Xn call11 F rfl (Md.Paths_any A C l DA DC (dom.take 5) _ _ (hA.own H) hn (hD5.own H) (by omega) (hN.own H) (hT.own H)) ?_;rintro e w ⟨ps,LA2,LC2,hps,rfl,H2⟩;replace H:=H.join H2
 clear H2
 obtain ⟨SP,LP,hpl,H3⟩:=Mi ps _ (H.perm List.perm_middle.symm)
 clear H
 have H:=H3
 clear H3
 refine ⟨_,rfl,?_⟩;clear F a;intro a F;refine Xl F rfl (XB rfl rfl (XB rfl rfl (Xh rfl (Xh rfl (qNK hK51 (qSR fun K52 hK52=>Xd rfl (Xd rfl (Xd rfl ?_))))))));clear hK51;clear F a;intro a F;refine Xn call12 F rfl (Ux A C l DA DC (dom.take 5) _ _ (hA.own H) hn (hD5.own H) (by omega)) ?_;rintro e w ⟨qs,QA,QC,SQ,LQ,hqs2,rfl,hql,H2⟩;replace H:=H.join H2
 clear H2
 have hpq:ps.length=qs.length:=by have h1:=congrArg List.length hps;have h2:=congrArg List.length hqs2;rw [List.length_map] at h1 h2;omega
 have hps4:ps.length≤4096:=by have h1:=congrArg List.length hps;rw [List.length_map] at h1;rw [h1];exact Gr
 refine ⟨_,rfl,?_⟩;clear F a;intro a F;refine Xl F rfl (XB rfl rfl (XB rfl rfl (Xh rfl (Xh rfl (qNK hK52 ?_)))));clear hK52;clear F a;intro a F;refine cSeq (fun K53 hK53=>?_);refine cSR fun K54 hK54=>Xl F rfl (Xs underlying48 rfl (Xd rfl (Xs underlying48 rfl (Xj rfl rfl U7 (Xd rfl ?_)))));clear F a;intro a F
 refine F.split 117 rfl ?_ ?_ <;> (clear F;intro h117 F)
 ·
  replace h117:=UL h117
  omega
 replace h117:=UM h117;refine Xl F rfl (Xd rfl (Xj rfl rfl U7 (Xg rfl rfl (qNK hK54 ?_))));clear hK54;clear F a;intro a F
 refine cIf F rfl (fun h121=>?_) (fun h121=>?_)
 ·
  replace h121:=UL h121
  exact absurd rfl h121
 replace h121:=UM h121;refine wp_skip (hK53 _ _ ?_);clear hK53;refine cSeq (fun K55 hK55=>?_);refine cSR fun K56 hK56=>Xl F rfl (Xs underlying48 rfl (Xd rfl (qNK hK56 ?_)));clear hK56;clear F a;intro a F;refine wp_block ?_
 refine cLoopS [3,9,20,22,123] (fun m ups w=>∃ i:Nat,m=ps.length - i∧ups=[(124,.int .i64 ((i:Nat):Int))]∧i≤ps.length∧Own w0 none w [.rws 37 12 (.slice LA2 ps.length LC2) (ps.map PlP.cells),.mem SP LP,.rws 37 12 (.slice QA qs.length QC) (qs.map PlP.cells),.mem SQ LQ,.blk b9 ([.string p.name,.slice LA p.locs.length LC,.slice IA p.init.length IC,.slice TA p.threads.length TC,Go.Proofs.YtagnefpgidbhnaaGreatDoor.b8 p.ask]++[d1,d2,d3,d4,d5]) 30]) F (ps.length) [(124,.int .i64 ((0:Nat):Int))] ?_ ?_
 · exact ⟨0,rfl,rfl,Nat.zero_le _,H.sel [3,2,0,1,9] rfl rfl⟩
 clear F
 clear H
 intro m ups a w hI F
 obtain ⟨i,rfl,rfl,hi,H⟩:=hI
 refine cSR fun K57 hK57=>Xm F rfl rfl YW (qNK hK57 ?_);clear hK57;clear F a;intro a F;refine cSeq (fun K58 hK58=>?_)
 refine cIf F rfl (fun h125=>?_) (fun h125=>?_)
 ·
  replace h125:=of_decide_eq_true h125
  have hip:i < ps.length:=by omega
  obtain ⟨q1,hq1⟩:∃ q,ps[i]? = some q:=⟨_,List.getElem?_eq_getElem hip⟩
  obtain ⟨q2,hq2⟩:∃ q,qs[i]? = some q:=⟨_,List.getElem?_eq_getElem (by omega)⟩
  have h12:q1.path=q2.path:=by
   have e1:=congrArg (·[i]?) (hps.trans hqs2.symm)
   simp only [List.getElem?_map,hq1,hq2,Option.map_some] at e1
   exact Option.some.inj e1
  have hs1:Za q1.path=true:=Gg _ (by rw [← hps];exact List.mem_map.2 ⟨q1,List.mem_of_getElem? hq1,rfl⟩)
  have hs2:Za q2.path=true:=by rw [← h12];exact hs1
  obtain ⟨bP,oP,rfl,_⟩:=H.rowsAt 0 rfl WS (by decide) i q1.cells (by rw [List.getElem?_map,hq1];rfl)
  obtain ⟨bQ,oQ,rfl,_⟩:=H.rowsAt 2 rfl WS (by decide) i q2.cells (by rw [List.getElem?_map,hq2];rfl)
  refine wp_skip (hK58 _ _ ?_);clear hK58;refine cSeq (fun K59 hK59=>?_);refine wp_block ?_;refine cSR fun K60 hK60=>Xl F rfl (Xh rfl (qNK hK60 ?_));clear hK60;clear F a;intro a F;refine cSeq (fun K61 hK61=>?_);refine cRegRO (by kernel_rfl) H ?_;replace H:=H.drew;refine Xt 0 rfl F rfl (fun w=>rMv F rfl) H qq0 (Xu 1 rfl rfl (fun a F w=>rMv F rfl) H qq0 ?_);clear F a;intro a F
  refine Xv (k:=2) (i:=2) rfl F rfl (fun w=>rIx underlying48 sizeOf37 F rfl rfl ?_) H (fun _ _ _ h=>h) ?_
  focus exact hip
  clear F a;intro a F
  refine XA (k:=3) (i:=3) rfl F rfl rfl (fun w H=>rLr underlying37 rfl ?si F rfl (by obtain ⟨b8,o8,g1,g2⟩:=H.rowsAt 0 rfl WS (by decide) i q1.cells (by rw [List.getElem?_map,hq1];rfl);cases g1;exact g2)) H (fun _ _ _ h=>h) ?_
  case si=>exact XC sizeOf37
  clear F a;intro a F;refine Xt 4 rfl F rfl (fun w=>rMv F rfl) H qq0 (Xu 5 rfl rfl (fun a F w=>rMv F rfl) H qq0 ?_);clear F a;intro a F
  refine Xv (k:=6) (i:=6) rfl F rfl (fun w=>rIx underlying48 sizeOf37 F rfl rfl ?_) H (fun _ _ _ h=>h) ?_
  focus omega
  clear F a;intro a F
  refine XA (k:=7) (i:=7) rfl F rfl rfl (fun w H=>rLr underlying37 rfl ?si F rfl (by obtain ⟨b8,o8,g1,g2⟩:=H.rowsAt 2 rfl WS (by decide) i q2.cells (by rw [List.getElem?_map,hq2];rfl);cases g1;exact g2)) H (fun _ _ _ h=>h) ?_
  case si=>exact XC sizeOf37
  clear F a;intro a F;refine Xx (k:=8) (i:=8) rfl (by kernel_rfl) F (XS call8 F rfl rfl (Uj q1 q2 _ ((hpl q1 (List.mem_of_getElem? hq1)).at (H.memAt 1 rfl) hs1) ((hql q2 (List.mem_of_getElem? hq2)).at (H.memAt 3 rfl) hs2)) ?_);rintro e w ⟨rfl,hb⟩;replace H:=H.grow hb;clear hb;refine ⟨_,rfl,?_⟩;clear F a;intro a F;refine XF (by kernel_rfl) H ?_;refine Xt 9 rfl F rfl (fun w=>NA F rfl) H qq0 ?_;clear F a;intro a F;refine eNil (k:=10) (by kernel_rfl) ?_;refine hK61 _ _ ?_;clear hK61
  refine cIf F rfl (fun h136=>?_) (fun h136=>?_)
  ·
   replace h136:=ZA h136
   exact ZU (by rw [h12];exact Gh _) h136
  replace h136:=ZB h136;refine wp_skip (hK59 _ _ (cReg ?_));clear hK59
  refine Xm F rfl rfl (XJ (j:=1) ?_) ?_
  focus omega
  clear F a;intro a F;refine Xl F rfl ?_;clear F a;intro a F;refine sNil ?_
  exact ⟨_,by omega,_,⟨i+1,rfl,rfl,by omega,H.sel [0,1,2,3,4] rfl rfl⟩,F.tt⟩
 replace h125:=of_decide_eq_false h125;refine wp_exit ?_;refine hK55 _ _ ?_;clear hK55;refine cSeq (fun K62 hK62=>?_);refine cSR fun K63 hK63=>Xi (f:=3) (k:=3) underlying30 rfl sizeOf25 rfl rfl F rfl (Xc isAgg25 rfl (H.cell 4 rfl rfl) (Xs underlying25 rfl (Xd rfl (qNK hK63 ?_))));clear hK63;clear F a;intro a F;refine wp_block ?_
 refine cLoopS [3,9,139,140] (fun m ups w=>∃ i:Nat,m=p.threads.length - i∧ups=[(141,.int .i64 ((i:Nat):Int))]∧i≤p.threads.length∧Own w0 none w [.blk b9 ([.string p.name,.slice LA p.locs.length LC,.slice IA p.init.length IC,.slice TA p.threads.length TC,Go.Proofs.YtagnefpgidbhnaaGreatDoor.b8 p.ask]++[d1,d2,d3,d4,d5]) 30]) F (p.threads.length) [(141,.int .i64 ((0:Nat):Int))] ?_ ?_
 · exact ⟨0,rfl,rfl,Nat.zero_le _,H.sel [4] rfl rfl⟩
 clear F
 clear H
 intro m ups a w hI F
 obtain ⟨i,rfl,rfl,hi,H⟩:=hI
 refine cSR fun K64 hK64=>Xm F rfl rfl YW (qNK hK64 ?_);clear hK64;clear F a;intro a F;refine cSeq (fun K65 hK65=>?_)
 refine cIf F rfl (fun h142=>?_) (fun h142=>?_)
 ·
  replace h142:=of_decide_eq_true h142
  have hjl:i < p.threads.length:=by omega
  obtain ⟨l3,hl3⟩:∃ l,p.threads[i]? = some l:=⟨_,List.getElem?_eq_getElem hjl⟩
  obtain ⟨bT,oT,BT,CT,rfl,hT1,hT2,hT3⟩:=hp.threads i l3 hl3
  refine wp_skip (hK65 _ _ ?_);clear hK65;refine cSeq (fun K66 hK66=>?_);refine wp_block ?_;refine cSR fun K67 hK67=>?_
  refine sIx underlying25 sizeOf22 F rfl rfl rfl rfl ?_ ?_
  focus exact hjl
  clear F a;intro a F;refine sLd isAgg22 F rfl rfl rfl (H.arg hT1) (Xh rfl (qNK hK67 (qSR fun K68 hK68=>Xd rfl ?_)));clear hK67;clear F a;intro a F;refine Xn call4 F rfl (MA BT CT l3 _ (hT2.own H) hT3) (gG H ?_);clear F a H;intro a w F H;refine UV F rfl rfl rfl (Xd rfl ?_);clear F a;intro a F
  refine F.split 148 rfl ?_ ?_ <;> (clear F;intro h148 F)
  ·
   replace h148:=ZA h148;refine Xe F (Xf (Xf (Xf (Xg rfl rfl (qNK hK68 ?_)))));clear hK68;clear F a;intro a F;refine cIfT F rfl ?_;refine cSR fun K69 hK69=>?_;refine Xn call5 F rfl (YS _ (hN.own H) (hT.own H)) (gG H ?_);clear F a H;intro a w F H;refine Xa F rfl (qNK hK69 ?_);clear hK69;clear F a;intro a F;refine wp_ret ?_;refine xI ?_;refine bRet results3 F rfl ?_
   exact ⟨rfl,H.below⟩
  replace h148:=ZB h148;refine Xi (f:=3) (k:=3) underlying30 rfl sizeOf25 rfl rfl F rfl (Xc isAgg25 rfl (H.cell 0 rfl rfl) (Xs underlying25 rfl (Xj rfl rfl UO (Xg rfl rfl (qNK hK68 ?_)))));clear hK68;clear F a;intro a F
  refine cIf F rfl (fun h153=>?_) (fun h153=>?_)
  ·
   replace h153:=of_decide_eq_true h153;refine cSR fun K70 hK70=>?_;refine Xn call5 F rfl (YS _ (hN.own H) (hT.own H)) (gG H ?_);clear F a H;intro a w F H;refine Xa F rfl (qNK hK70 ?_);clear hK70;clear F a;intro a F;refine wp_ret ?_;refine xI ?_;refine bRet results3 F rfl ?_
   exact ⟨rfl,H.below⟩
  replace h153:=of_decide_eq_false h153;refine wp_skip (hK66 _ _ (cReg ?_));clear hK66
  refine Xm F rfl rfl (XJ (j:=1) ?_) ?_
  focus omega
  clear F a;intro a F;refine Xl F rfl ?_;clear F a;intro a F;refine sNil ?_
  exact ⟨_,by omega,_,⟨i+1,rfl,rfl,by omega,H.sel [0] rfl rfl⟩,F.tt⟩
 replace h142:=of_decide_eq_false h142;refine wp_exit ?_;refine hK62 _ _ ?_;clear hK62;refine cSeq (fun K71 hK71=>?_);refine cSR fun K72 hK72=>Xl F rfl (Xj rfl rfl GZ (qNK hK72 ?_));clear hK72;clear F a;intro a F
 refine cIf F rfl (fun h157=>?_) (fun h157=>?_)
 ·
  replace h157:=of_decide_eq_true h157;refine cReg (Xl F rfl (Xbb rfl rfl rfl rfl (Xh rfl (qNK hK71 (qSR fun K73 hK73=>?_)))));clear hK71;clear F a;intro a F
  refine Xo underlying30 rfl ?si F rfl (H.whole 0 rfl) ?_
  case si=>exact XC sizeOf30
  clear F a;intro a F;refine Xl F rfl ?_;clear F a;intro a F;refine Xn call13 F rfl (ZS _ p _ _ (hP0.own H) (hN.own H)) ?_;rintro e w ⟨A1,c1,rfl,H2⟩;replace H:=H.join H2;clear H2;refine ⟨_,rfl,?_⟩;clear F a;intro a F;refine Xl F rfl (XB rfl rfl (XB rfl rfl (Xh rfl (Xh rfl (qNK hK73 (qSR fun K74 hK74=>?_))))));clear hK73;clear F a;intro a F
  refine Xo underlying30 rfl ?si F rfl (H.whole 1 rfl) ?_
  case si=>exact XC sizeOf30
  clear F a;intro a F;refine Xl F rfl ?_;clear F a;intro a F;refine Xn call14 F rfl (Wv _ p _ _ (hP0.own H) hcd) ?_;rintro e w ⟨A2,c2,rfl,H2⟩;replace H:=H.join H2;clear H2;refine ⟨_,rfl,?_⟩;clear F a;intro a F;refine Xl F rfl (XB rfl rfl (XB rfl rfl (Xh rfl (Xh rfl (qNK hK74 (qSR fun K75 hK75=>Xd rfl (Xd rfl ?_)))))));clear hK74;clear F a;intro a F;refine Xn call9 F rfl (Wn A1 A2 c1 c2 (YT p _).1 (YT p _).1 _ (H.rowsAt 1 rfl XL (by omega)) (H.rowsAt 0 rfl XL (by omega))) (gG H ?_);clear F a H;intro a w F H;refine Xl F rfl ?_;clear F a;intro a F
  refine F.split 175 rfl ?_ ?_ <;> (clear F;intro h175 F)
  ·
   refine Xl F rfl (Xd rfl (Xj rfl rfl ZQ (Xg rfl rfl (Xd rfl ?_))));clear F a;intro a F
   refine F.split 180 rfl ?_ ?_ <;> (clear F;intro h180 F)
   ·
    replace h180:=Yh h180;refine Xn call5 F rfl (YS _ (hN.own H) (hT.own H)) (gG H ?_);clear F a H;intro a w F H;refine sPk F rfl rfl rfl rfl (Xh rfl (qNK hK75 ?_));clear hK75;clear F a;intro a F;refine wp_ret ?_;refine bRet results3 F rfl ?_
    exact ⟨rfl,H.below⟩
   replace h180:=Yi h180
   exact absurd rfl h180
  exact ZU (beq_self_eq_true _) h175
 replace h157:=of_decide_eq_false h157;refine wp_skip (hK71 _ _ (cSR fun K76 hK76=>?_));clear hK71
 refine Xo underlying30 rfl ?si F rfl (H.whole 0 rfl) ?_
 case si=>exact XC sizeOf30
 clear F a;intro a F;refine Xl F rfl ?_;clear F a;intro a F;refine Xn call13 F rfl (ZS _ p _ _ (hP0.own H) (hN.own H)) ?_;rintro e w ⟨A1,c1,rfl,H2⟩;replace H:=H.join H2;clear H2;refine ⟨_,rfl,?_⟩;clear F a;intro a F;refine Xl F rfl (XB rfl rfl (XB rfl rfl (Xh rfl (Xh rfl (qNK hK76 (qSR fun K77 hK77=>?_))))));clear hK76;clear F a;intro a F
 refine Xo underlying30 rfl ?si F rfl (H.whole 1 rfl) ?_
 case si=>exact XC sizeOf30
 clear F a;intro a F;refine Xl F rfl ?_;clear F a;intro a F;refine Xn call14 F rfl (Wv _ p _ _ (hP0.own H) hcd) ?_;rintro e w ⟨A2,c2,rfl,H2⟩;replace H:=H.join H2;clear H2;refine ⟨_,rfl,?_⟩;clear F a;intro a F;refine Xl F rfl (XB rfl rfl (XB rfl rfl (Xh rfl (Xh rfl (qNK hK77 (qSR fun K78 hK78=>Xd rfl (Xd rfl ?_)))))));clear hK77;clear F a;intro a F;refine Xn call9 F rfl (Wn A1 A2 c1 c2 (YT p _).1 (YT p _).1 _ (H.rowsAt 1 rfl XL (by omega)) (H.rowsAt 0 rfl XL (by omega))) (gG H ?_);clear F a H;intro a w F H;refine Xl F rfl ?_;clear F a;intro a F
 refine F.split 175 rfl ?_ ?_ <;> (clear F;intro h175 F)
 ·
  refine Xl F rfl (Xd rfl (Xj rfl rfl ZQ (Xg rfl rfl (Xd rfl ?_))));clear F a;intro a F
  refine F.split 180 rfl ?_ ?_ <;> (clear F;intro h180 F)
  ·
   replace h180:=Yh h180;refine Xn call5 F rfl (YS _ (hN.own H) (hT.own H)) (gG H ?_);clear F a H;intro a w F H;refine sPk F rfl rfl rfl rfl (Xh rfl (qNK hK78 ?_));clear hK78;clear F a;intro a F;refine wp_ret ?_;refine bRet results3 F rfl ?_
   exact ⟨rfl,H.below⟩
  replace h180:=Yi h180
  exact absurd rfl h180
 exact ZU (beq_self_eq_true _) h175
end Go.Proofs.YtagnefpgidbhnaaGreatDoor
