/-
  WALK2. The laws of chapter 08: their own small functions: Bytes, pairs, Same, reg, val. Conditions: the slices lie in memory.
-/
import Derived.Test.YtagnefpgidbhnaaGreatDoorJn9
import Derived.Test.YtagnefpgidbhnaaGreatDoorJn8
set_option linter.unusedSimpArgs false
set_option linter.unusedVariables false
namespace Go.Proofs.YtagnefpgidbhnaaGreatDoor
-- SqJ
open Go.Proofs.Tryz
open Go.RowKit
set_option maxRecDepth 100000
section
variable {P:Program} {l:List Oper} {Q:Exit→Act→World→Prop} {N:Nat} {a:Act} {env:List (Nat × Value)} {rest:List Oper} {d:Tmp} {ty:TypeId} {pos:String} {af:Array Edge} {g:Option (Nat × Bool)} {w:World}
theorem sCvY {s t e:TypeId} {x:Operand} {A:Option Addr} {n c:Nat} {xs:List UInt8} (hs:P.underlying s=some (.slice e)) (he:P.underlying e=some (.int .u8)) (ht:P.underlying t=some .string) (F:Has N a env) (hg:wants l env g=true) (hN:Nat.blt d N=true)
   (hx:ev env x=some (.slice A n c)) (hn:n=xs.length) (hc:RowsAt w A 1 (xs.map fun x=>[b8 x]))
   (K:∀ a,Has N a ((d,.string ⟨xs.toArray⟩) :: env)→wpList P l.toArray Q rest a w):wpList P l.toArray Q (⟨some d,.convert s t x,ty,pos,af,g⟩ :: rest) a w:=by
 subst hn
 have h:(convert s t (.slice A xs.length c)).run P w = .ok (.string ⟨xs.toArray⟩) w:=by
   rcases Nat.eq_zero_or_pos xs.length with h0 | h0
   · obtain rfl:=List.eq_nil_of_length_eq_zero h0
     show (convert s t (.slice A 0 c)).run P w = .ok (.string ⟨#[]⟩) w
     rw [run_convert_bytes_string w s t e A 0 c hs he ht]
     cases A with
     | none=>rfl
     | some q=>
       have hl:=run_loadCells_list (P:=P) w q [] (fun j v hj=>by simp at hj)
       simp only [List.length_nil] at hl
       exact run_bytesToString (P:=P) w q 0 c [] hl
   · obtain ⟨b,o,rfl,_⟩:=BytesAt.get (w:=w) (l:=xs) hc (List.getElem?_eq_getElem h0)
     refine run_convert_bytes_back (P:=P) w s t e ⟨b,o,none⟩ c xs hs he ht (fun j hj=>?_)
     obtain ⟨b',o',he,hv⟩:=BytesAt.get (w:=w) (l:=xs) hc (List.getElem?_eq_getElem hj)
     cases he
     rw [Addr.add_mid];rw [Nat.mul_one] at hv
     exact hv
 exact YM F hg rfl hN (show (execOp a.eval ⟨some d,.convert s t x,ty,pos,af,g⟩).run P w = .ok (.value (.string ⟨xs.toArray⟩)) w by
   simp only [execOp,F.eval hx,Sem.run_bind,h,Result.andThen_ok]
   rfl) K
theorem qCvY {s t e:TypeId} {x:Operand} {A:Option Addr} {n c:Nat} {xs:List UInt8} (hs:P.underlying s=some (.slice e)) (he:P.underlying e=some (.int .u8)) (ht:P.underlying t=some .string) (hg:wants l env g=true) (hN:Nat.blt d N=true) (hx:ev env x=some (.slice A n c)) (hn:n=xs.length) (hc:RowsAt w A 1 (xs.map fun x=>[b8 x])) (K:∀ a,Has N a ((d,.string ⟨xs.toArray⟩) :: env)→wpList P l.toArray Q rest a w):∀ a,Has N a env→wpList P l.toArray Q (⟨some d,.convert s t x,ty,pos,af,g⟩ :: rest) a w:=fun a F=>sCvY hs he ht F hg hN hx hn hc K
end
theorem Nn (xs:List UInt8):(⟨xs.toArray⟩:ByteArray).toList=xs:=by rw [Ws]
theorem Wn (A B:Option Addr) (CA CB:Nat) (l q:List UInt8) (w0:World) (hA:RowsAt w0 A 1 (l.map fun x=>[b8 x])) (hB:RowsAt w0 B 1 (q.map fun x=>[b8 x])) :
   Calls Tryz.prog 9 #[.slice A l.length CA,.slice B q.length CB] w0 fun e w'=>e = .returned (.bool (l == q))∧Below w0.heap.size w0 w':=by
 have H:=Own.start w0 none
 refine XE func9 rfl ntmps9 rfl (fun a F=>?_);refine cSR fun K1 hK1=>Xa F rfl (qNK hK1 (qSR fun K2 hK2=>Xd rfl (qCvY (xs:=l) underlying23 underlying5 underlying9 rfl rfl rfl rfl (hA.own H) (Xd rfl (qCvY (xs:=q) underlying23 underlying5 underlying9 rfl rfl rfl rfl (hB.own H) (Xj rfl rfl Lp (Xh rfl (qNK hK2 ?_))))))));clear hK1 hK2;clear F a;intro a F;refine wp_ret ?_;refine bRet results9 F rfl ?_
 exact ⟨X1 (by rw [Nn,Nn]),H.below⟩
theorem eTEv:EqT Tryz.prog 2 45 [.int,.u8,.u8,.u8,.u8,.u8,.u8] true:=by
 have hi:EqT Tryz.prog 1 3 [.int] false:=CX underlying3 (.inr rfl)
 have h:=CW (P:=Tryz.prog) (D:=1) (kss:=[([.int],false),([.u8],false),([.u8],false),([.u8],false),([.u8],false),([.u8],false),([.u8],false)]) underlying45 (by kernel_rfl)
   ⟨rfl,by decide,sizeOf3,isAgg3,fun _=>rfl,hi,rfl,by decide,sizeOf5,isAgg5,fun _=>rfl,eT8,rfl,by decide,sizeOf5,isAgg5,fun _=>rfl,eT8,
     rfl,by decide,sizeOf5,isAgg5,fun _=>rfl,eT8,rfl,by decide,sizeOf5,isAgg5,fun _=>rfl,eT8,
     rfl,by decide,sizeOf5,isAgg5,fun _=>rfl,eT8,rfl,by decide,sizeOf5,isAgg5,fun _=>rfl,eT8,trivial⟩
 exact h
theorem Lf (x:Ev):Fits [.int,.u8,.u8,.u8,.u8,.u8,.u8] x.cells:=by
 have hb:∀ c:UInt8,CK.ok .u8 (b8 c):=fun c=>⟨_,rfl⟩
 exact ⟨⟨_,rfl⟩,hb _,hb _,hb _,hb _,hb _,hb _,trivial⟩
def Xbx (x y:Ev):Bool:=x.kind == y.kind && x.loc == y.loc && x.val == y.val && x.mode == y.mode && x.ins == y.ins && x.pos == y.pos
theorem eqEv_iff {x y:Ev}:Xbx x y=true ↔ x=y:=by
 cases x;cases y
 simp [Xbx,and_assoc]
theorem XcO (x y:Ev):ceq x.cells y.cells=Xbx x y:=by
 have h8:∀ a b:UInt8,((a.toNat:Int) == (b.toNat:Int))=(a == b):=fun a b=>by
   by_cases h:a=b
   · subst h;simp
   · have h1:¬ (a.toNat:Int)=(b.toNat:Int):=fun e=>h (UInt8.toNat_inj.1 (Int.ofNat_inj.1 e))
     rw [beq_eq_false_iff_ne.2 h1,beq_eq_false_iff_ne.2 h]
 simp only [Ev.cells,ceq,Nj,b8,Xbx,h8,beq_self_eq_true,Bool.true_and,Bool.and_true,Bool.and_assoc]
theorem Xc0 {x y:Operand} {u v:Ev}:ZF Tryz.prog .eql 45 x y (.agg u.cells.toArray) (.agg v.cells.toArray) (.bool (Xbx u v)):=by
 have h:=bEqT (x':=x) (y':=y) eTEv (by kernel_rfl) (by decide) (Lf u) (Lf v)
 rw [XcO] at h
 exact h
theorem bNeEv {x y:Operand} {u v:Ev}:ZF Tryz.prog .neq 45 x y (.agg u.cells.toArray) (.agg v.cells.toArray) (.bool (!Xbx u v)):=by
 have h:=bNeT (x':=x) (y':=y) eTEv (by kernel_rfl) (by decide) (Lf u) (Lf v)
 rw [XcO] at h
 exact h
def Ql:List Ev→List Ev→Bool
 | [],[]=>true
 | x :: l,y :: m=>Xbx x y && Ql l m
 | _,_=>false
theorem eqEvs_iff:∀ {l m:List Ev},Ql l m=true ↔ l=m
 | [],[]=>by simp [Ql]
 | x :: l,y :: m=>by rw [Ql,Bool.and_eq_true,eqEv_iff,eqEvs_iff,List.cons.injEq]
 | [],_ :: _=>by simp [Ql]
 | _ :: _,[]=>by simp [Ql]
def prF (q:Pr):By:=fun i=>if i=0 then q.1 else q.2
theorem same_pr {p q:Pr}:same 2 (prF p) (prF q)=true ↔ p=q:=by
 rw [same_iff]
 constructor
 · intro h
   have h0:p.1=q.1:=h 0 (by omega)
   have h1:p.2=q.2:=h 1 (by omega)
   exact Prod.ext h0 h1
 · rintro rfl i _;rfl
theorem DJ {α:Type} {l m:List α} (hl:l.length=m.length) (h:∀ i,i < l.length→l[i]? = m[i]?):l=m:=by
 refine List.ext_getElem? fun i=>?_
 rcases Nat.lt_or_ge i l.length with h1 | h1
 · exact h i h1
 · rw [List.getElem?_eq_none h1,List.getElem?_eq_none (by omega)]
set_option maxHeartbeats 2000000 in
theorem ZP (A B:Option Addr) (CA CB:Nat) (l q:List Pr) (w0:World) (hA:RowsAt w0 A 2 (l.map prC)) (hB:RowsAt w0 B 2 (q.map prC)) (hl:l.length≤1000000000000) (hq:q.length≤1000000000000) :
   Calls Tryz.prog 17 #[.slice A l.length CA,.slice B q.length CB] w0 fun e w'=>e = .returned (.bool (l == q))∧Below w0.heap.size w0 w':=by
 have H:=Own.start w0 none
 refine XE func17 rfl ntmps17 rfl (fun a F=>?_);refine cSR fun K1 hK1=>Xa F rfl (qNK hK1 ?_);clear hK1;clear F a;intro a F;refine cSeq (fun K2 hK2=>?_);refine cSR fun K3 hK3=>Xl F rfl (Xs underlying34 rfl (Xd rfl (Xs underlying34 rfl (Xj rfl rfl U7 (qNK hK3 ?_)))));clear hK3;clear F a;intro a F
 refine cIf F rfl (fun h10=>?_) (fun h10=>?_)
 ·
  replace h10:=UL h10;refine cSR fun K4 hK4=>Xa F rfl (qNK hK4 ?_);clear hK4;clear F a;intro a F;refine wp_ret ?_;simp only [Exit.then];refine bRet results17 F rfl ?_
  exact ⟨X1 (beq_eq_false_iff_ne.2 (fun e=>by subst e;omega)).symm,H.below⟩
 replace h10:=UM h10;refine wp_skip (hK2 _ _ ?_);clear hK2;refine cSeq (fun K5 hK5=>?_);refine cSR fun K6 hK6=>Xl F rfl (Xs underlying34 rfl (Xd rfl (qNK hK6 ?_)));clear hK6;clear F a;intro a F;refine wp_block ?_
 refine cLoopS [0,1,12] (fun m ups w=>∃ j:Nat,m=l.length - j∧ups=[(13,.int .i64 (j:Int))]∧j≤l.length∧(∀ i,i < j→l[i]? = q[i]?)∧Own w0 none w []) F (l.length) [(13,.int .i64 ((0:Nat):Int))] ?_ ?_
 · exact ⟨0,rfl,rfl,by omega,fun i hi=>by omega,H⟩
 clear F
 clear H
 intro m ups a w hI F
 obtain ⟨j,rfl,rfl,hj,ht,H⟩:=hI
 refine cSR fun K7 hK7=>Xm F rfl rfl YW (qNK hK7 ?_);clear hK7;clear F a;intro a F;refine cSeq (fun K8 hK8=>?_)
 refine cIf F rfl (fun h14=>?_) (fun h14=>?_)
 ·
  replace h14:=of_decide_eq_true h14
  have hjl:j < l.length:=by omega
  have hjq:j < q.length:=by omega
  obtain ⟨x,hx⟩:∃ x,l[j]? = some x:=⟨_,List.getElem?_eq_getElem hjl⟩
  obtain ⟨y,hy⟩:∃ y,q[j]? = some y:=⟨_,List.getElem?_eq_getElem hjq⟩
  obtain ⟨bA,oA,rfl,hR1⟩:=hA j (bs 2 (prF x)) (by rw [List.getElem?_map,hx];rfl)
  obtain ⟨bB,oB,rfl,hR2⟩:=hB j (bs 2 (prF y)) (by rw [List.getElem?_map,hy];rfl)
  refine wp_skip (hK8 _ _ ?_);clear hK8;refine cSeq (fun K9 hK9=>?_);refine wp_block ?_;refine cSR fun K10 hK10=>Xl F rfl (Xh rfl (qNK hK10 ?_));clear hK10;clear F a;intro a F;refine cSeq (fun K11 hK11=>?_);refine cRegRO (by kernel_rfl) H ?_;replace H:=H.drew;refine Xt 0 rfl F rfl (fun w=>rMv F rfl) H qq0 (Xu 1 rfl rfl (fun a F w=>rMv F rfl) H qq0 ?_);clear F a;intro a F
  refine Xv (k:=2) (i:=2) rfl F rfl (fun w=>rIx underlying34 sizeOf64 F rfl rfl ?_) H (fun _ _ _ h=>h) ?_
  focus exact hjl
  clear F a;intro a F;refine Xw 3 rfl F rfl rfl (fun w H=>rLrB underlying64 rfl sizeOf64 F rfl (H.argR hR1)) H qq0 (Xu 4 rfl rfl (fun a F w=>rMv F rfl) H qq0 (Xu 5 rfl rfl (fun a F w=>rMv F rfl) H qq0 ?_));clear F a;intro a F
  refine Xv (k:=6) (i:=6) rfl F rfl (fun w=>rIx underlying34 sizeOf64 F rfl rfl ?_) H (fun _ _ _ h=>h) ?_
  focus exact hjq
  clear F a;intro a F;refine Xw 7 rfl F rfl rfl (fun w H=>rLrB underlying64 rfl sizeOf64 F rfl (H.argR hR2)) H qq0 (Xu 8 rfl rfl (fun a F w=>YA F rfl rfl (bNeY eT64 gT64 rfl)) H qq0 ?_);clear F a;intro a F;refine eNil (k:=9) (by kernel_rfl) ?_;refine hK11 _ _ ?_;clear hK11
  refine cIf F rfl (fun h24=>?_) (fun h24=>?_)
  ·
   replace h24:=ZA h24;refine cSR fun K12 hK12=>Xa F rfl (qNK hK12 ?_);clear hK12;clear F a;intro a F;refine wp_ret ?_;refine xI ?_;refine bRet results17 F rfl ?_
   exact ⟨X1 (beq_eq_false_iff_ne.2 (fun e=>by subst e;have hxy:=Option.some.inj (hx.symm.trans hy);subst hxy;rw [same_pr.2 rfl] at h24;cases h24)).symm,H.below⟩
  replace h24:=ZB h24;refine wp_skip (hK9 _ _ (cReg ?_));clear hK9
  refine Xm F rfl rfl (XJ (j:=1) ?_) ?_
  focus omega
  clear F a;intro a F;refine Xl F rfl ?_;clear F a;intro a F;refine sNil ?_
  have he:x=y:=same_pr.1 (by simpa using h24)
  exact ⟨_,by omega,_,⟨j+1,rfl,rfl,by omega,fun i hi=>(by
    rcases Nat.lt_or_ge i j with h | h
    · exact ht i h
    · obtain rfl:i=j:=by omega
      rw [hx,hy,he]),H⟩,F.tt⟩
 replace h14:=of_decide_eq_false h14;refine wp_exit ?_;refine hK5 _ _ (cSR fun K13 hK13=>Xa F rfl (qNK hK13 ?_));clear hK5 hK13;clear F a;intro a F;refine wp_ret ?_;refine bRet results17 F rfl ?_
 exact ⟨X1 (beq_iff_eq.2 (DJ (by omega) (fun i hi=>ht i (by omega)))).symm,H.below⟩
structure PathAt (w:World) (q:PlP):Prop where
 evs:RowsAt w q.A1 7 (q.path.evs.map Ev.cells)
 data:RowsAt w q.A2 2 (q.path.data.map prC)
 ctrl:RowsAt w q.A3 2 (q.path.ctrl.map prC)
 rmw:RowsAt w q.A4 2 (q.path.rmw.map prC)
 evsN:q.path.evs.length≤1000000
 dataN:q.path.data.length≤1000000000000
 ctrlN:q.path.ctrl.length≤1000000000000
 rmwN:q.path.rmw.length≤1000000000000
theorem PathAt.own {w0 w:World} {rs:List Res} {q:PlP} (h:PathAt w0 q) (H:Own w0 none w rs):PathAt w q:=⟨h.evs.own H,h.data.own H,h.ctrl.own H,h.rmw.own H,h.evsN,h.dataN,h.ctrlN,h.rmwN⟩
def WK (p q:PathP):Bool:=Ql p.evs q.evs && same 8 p.regs q.regs && p.data == q.data && p.ctrl == q.ctrl && p.rmw == q.rmw
-- SqK
open Go.Proofs.Tryz
open Go.RowKit
set_option maxRecDepth 100000
theorem Xbw {l m:List Ev} (h:l ≠ m):Ql l m=false:=by
 cases hh:Ql l m with
 | false=>rfl
 | true=>exact absurd (eqEvs_iff.1 hh) h
theorem MO {p q:PathP} (h:p.evs ≠ q.evs):WK p q=false:=by unfold WK;rw [Xbw h];rfl
theorem EV {p q:PathP} (h:same 8 p.regs q.regs=false):WK p q=false:=by unfold WK;rw [h];simp
theorem EW {p q:PathP} (h:(p.data == q.data)=false):WK p q=false:=by unfold WK;rw [h];simp
theorem EX {p q:PathP} (h:(p.ctrl == q.ctrl)=false):WK p q=false:=by unfold WK;rw [h];simp
theorem B2 {p q:PathP} (h:(p.rmw == q.rmw)=false):WK p q=false:=by unfold WK;rw [h];simp
theorem Xao {p q:PathP} (h:p.evs=q.evs) (h1:same 8 p.regs q.regs=true) (h2:(p.data == q.data)=true) (h3:(p.ctrl == q.ctrl)=true) (h4:(p.rmw == q.rmw)=true):WK p q=true:=by
 unfold WK;rw [eqEvs_iff.2 h,h1,h2,h3,h4];rfl
set_option maxHeartbeats 2000000 in
theorem Uj (p q:PlP) (w0:World) (hp:PathAt w0 p) (hq:PathAt w0 q) :
   Calls Tryz.prog 8 #[.agg p.cells.toArray,.agg q.cells.toArray] w0 fun e w'=>e = .returned (.bool (WK p.path q.path))∧Below w0.heap.size w0 w':=by
 have H:=Own.start w0 none
 have hpn:=hp.evsN
 have hqn:=hq.evsN
 refine XE func8 rfl ntmps8 rfl (fun a F=>?_);refine cSR fun K1 hK1=>?_;refine sBx H F rfl rfl rfl ?_;clear F a H;intro b2 a w F H;refine sBx H F rfl rfl rfl ?_;clear F a H;intro b3 a w F H;refine Xa F rfl (qNK hK1 ?_);clear hK1;clear F a;intro a F;refine cSeq (fun K2 hK2=>?_);refine cSR fun K3 hK3=>Xi (f:=0) (k:=0) underlying37 rfl sizeOf33 rfl rfl F rfl (Xc isAgg33 rfl (H.cell 1 rfl rfl) (Xs underlying33 rfl (Xb (f:=0) (k:=0) underlying37 rfl sizeOf33 rfl rfl rfl (Xc isAgg33 rfl (H.cell 0 rfl rfl) (Xs underlying33 rfl (Xj rfl rfl U7 (Xd rfl ?_)))))));clear F a;intro a F
 refine F.split 13 rfl ?_ ?_ <;> (clear F;intro h13 F)
 ·
  replace h13:=UL h13;refine Xe F (Xf (Xf (Xf (Xf (Xg rfl rfl (Xd rfl (Xf (Xf (Xf (Xf (Xf (Xf (Xg rfl rfl (Xd rfl (Xf (Xf (Xf (Xf (Xf (Xf (Xg rfl rfl (Xd rfl (Xf (Xf (Xf (Xf (Xf (Xf (Xg rfl rfl (qNK hK3 ?_))))))))))))))))))))))))))))));clear hK3;clear F a;intro a F;refine cIfT F rfl ?_;refine cSR fun K4 hK4=>Xa F rfl (qNK hK4 ?_);clear hK4;clear F a;intro a F;refine wp_ret ?_;simp only [Exit.then];refine bRet results8 F rfl ?_
  exact ⟨X1 (MO (fun e=>h13 (by rw [e]))).symm,H.below⟩
 replace h13:=UM h13
 have hlen:p.path.evs.length=q.path.evs.length:=by omega
 refine Xi (f:=4) (k:=4) underlying37 rfl sizeOf35 rfl rfl F rfl (qLrB underlying35 rfl sizeOf35 rfl rfl rfl (show World.rangeAt _ b2 4 (bs 8 p.path.regs) from H.range 1 rfl 4 8) (Xb (f:=4) (k:=4) underlying37 rfl sizeOf35 rfl rfl rfl (qLrB underlying35 rfl sizeOf35 rfl rfl rfl (show World.rangeAt _ b3 4 (bs 8 q.path.regs) from H.range 0 rfl 4 8) (Xj rfl rfl (bNeY eT35 gT35 rfl) (Xg rfl rfl (Xd rfl ?_))))));clear F a;intro a F
 refine F.split 20 rfl ?_ ?_ <;> (clear F;intro h20 F)
 ·
  replace h20:=ZA h20;refine Xe F (Xf (Xf (Xf (Xf (Xf (Xg rfl rfl (Xd rfl (Xf (Xf (Xf (Xf (Xf (Xf (Xg rfl rfl (Xd rfl (Xf (Xf (Xf (Xf (Xf (Xf (Xg rfl rfl (qNK hK3 ?_)))))))))))))))))))))));clear hK3;clear F a;intro a F;refine cIfT F rfl ?_;refine cSR fun K5 hK5=>Xa F rfl (qNK hK5 ?_);clear hK5;clear F a;intro a F;refine wp_ret ?_;simp only [Exit.then];refine bRet results8 F rfl ?_
  exact ⟨X1 (EV h20).symm,H.below⟩
 replace h20:=ZB h20;refine Xi (f:=1) (k:=1) underlying37 rfl sizeOf34 rfl rfl F rfl (Xc isAgg34 rfl (H.cell 1 rfl rfl) (Xb (f:=1) (k:=1) underlying37 rfl sizeOf34 rfl rfl rfl (Xc isAgg34 rfl (H.cell 0 rfl rfl) ?_)));clear F a;intro a F;refine Xn call17 F rfl (ZP p.A2 q.A2 p.c2 q.c2 p.path.data q.path.data _ (hp.data.own H) (hq.data.own H) hp.dataN hq.dataN) (gG H ?_);clear F a H;intro a w F H;refine UV F rfl rfl rfl (Xg rfl rfl (Xd rfl ?_));clear F a;intro a F
 refine F.split 28 rfl ?_ ?_ <;> (clear F;intro h28 F)
 ·
  replace h28:=ZA h28;refine Xe F (Xf (Xf (Xf (Xf (Xf (Xg rfl rfl (Xd rfl (Xf (Xf (Xf (Xf (Xf (Xf (Xg rfl rfl (qNK hK3 ?_)))))))))))))));clear hK3;clear F a;intro a F;refine cIfT F rfl ?_;refine cSR fun K6 hK6=>Xa F rfl (qNK hK6 ?_);clear hK6;clear F a;intro a F;refine wp_ret ?_;simp only [Exit.then];refine bRet results8 F rfl ?_
  exact ⟨X1 (EW h28).symm,H.below⟩
 replace h28:=ZB h28;refine Xi (f:=2) (k:=2) underlying37 rfl sizeOf34 rfl rfl F rfl (Xc isAgg34 rfl (H.cell 1 rfl rfl) (Xb (f:=2) (k:=2) underlying37 rfl sizeOf34 rfl rfl rfl (Xc isAgg34 rfl (H.cell 0 rfl rfl) ?_)));clear F a;intro a F;refine Xn call17 F rfl (ZP p.A3 q.A3 p.c3 q.c3 p.path.ctrl q.path.ctrl _ (hp.ctrl.own H) (hq.ctrl.own H) hp.ctrlN hq.ctrlN) (gG H ?_);clear F a H;intro a w F H;refine UV F rfl rfl rfl (Xg rfl rfl (Xd rfl ?_));clear F a;intro a F
 refine F.split 36 rfl ?_ ?_ <;> (clear F;intro h36 F)
 ·
  replace h36:=ZA h36;refine Xe F (Xf (Xf (Xf (Xf (Xf (Xg rfl rfl (qNK hK3 ?_)))))));clear hK3;clear F a;intro a F;refine cIfT F rfl ?_;refine cSR fun K7 hK7=>Xa F rfl (qNK hK7 ?_);clear hK7;clear F a;intro a F;refine wp_ret ?_;simp only [Exit.then];refine bRet results8 F rfl ?_
  exact ⟨X1 (EX h36).symm,H.below⟩
 replace h36:=ZB h36;refine Xi (f:=3) (k:=3) underlying37 rfl sizeOf34 rfl rfl F rfl (Xc isAgg34 rfl (H.cell 1 rfl rfl) (Xb (f:=3) (k:=3) underlying37 rfl sizeOf34 rfl rfl rfl (Xc isAgg34 rfl (H.cell 0 rfl rfl) ?_)));clear F a;intro a F;refine Xn call17 F rfl (ZP p.A4 q.A4 p.c4 q.c4 p.path.rmw q.path.rmw _ (hp.rmw.own H) (hq.rmw.own H) hp.rmwN hq.rmwN) (gG H ?_);clear F a H;intro a w F H;refine UV F rfl rfl rfl (Xg rfl rfl (qNK hK3 ?_));clear hK3;clear F a;intro a F
 refine cIf F rfl (fun h43=>?_) (fun h43=>?_)
 ·
  replace h43:=ZA h43;refine cSR fun K8 hK8=>Xa F rfl (qNK hK8 ?_);clear hK8;clear F a;intro a F;refine wp_ret ?_;simp only [Exit.then];refine bRet results8 F rfl ?_
  exact ⟨X1 (B2 h43).symm,H.below⟩
 replace h43:=ZB h43;refine wp_skip (hK2 _ _ ?_);clear hK2;refine cSeq (fun K9 hK9=>?_);refine cSR fun K10 hK10=>Xi (f:=0) (k:=0) underlying37 rfl sizeOf33 rfl rfl F rfl (Xc isAgg33 rfl (H.cell 1 rfl rfl) (Xs underlying33 rfl (Xd rfl (qNK hK10 ?_))));clear hK10;clear F a;intro a F;refine wp_block ?_
 refine cLoopS [2,3,46] (fun m ups w=>∃ j:Nat,m=p.path.evs.length - j∧ups=[(47,.int .i64 (j:Int))]∧j≤p.path.evs.length∧(∀ i,i < j→p.path.evs[i]? = q.path.evs[i]?)∧Own w0 none w [.blk b3 q.cells 37,.blk b2 p.cells 37]) F (p.path.evs.length) [(47,.int .i64 ((0:Nat):Int))] ?_ ?_
 · exact ⟨0,rfl,rfl,by omega,fun i hi=>by omega,H⟩
 clear F
 clear H
 intro m ups a w hI F
 obtain ⟨j,rfl,rfl,hj,ht,H⟩:=hI
 refine cSR fun K11 hK11=>Xm F rfl rfl YW (qNK hK11 ?_);clear hK11;clear F a;intro a F;refine cSeq (fun K12 hK12=>?_)
 refine cIf F rfl (fun h48=>?_) (fun h48=>?_)
 ·
  replace h48:=of_decide_eq_true h48
  have hjl:j < p.path.evs.length:=by omega
  have hjq:j < q.path.evs.length:=by omega
  obtain ⟨x,hx⟩:∃ x,p.path.evs[j]? = some x:=⟨_,List.getElem?_eq_getElem hjl⟩
  obtain ⟨y,hy⟩:∃ y,q.path.evs[j]? = some y:=⟨_,List.getElem?_eq_getElem hjq⟩
  obtain ⟨bA,oA,hA1,hR1⟩:=hp.evs j x.cells (by rw [List.getElem?_map,hx];rfl)
  obtain ⟨bB,oB,hB1,hR2⟩:=hq.evs j y.cells (by rw [List.getElem?_map,hy];rfl)
  have hv1:∀ w,Own w0 none w [.blk b3 q.cells 37,.blk b2 p.cells 37]→w.cell? ⟨b2,0,none⟩=some (.slice (some ⟨bA,oA,none⟩) p.path.evs.length p.c1):=fun w H=>by rw [← hA1];exact H.cell 1 rfl rfl
  have hv2:∀ w,Own w0 none w [.blk b3 q.cells 37,.blk b2 p.cells 37]→w.cell? ⟨b3,0,none⟩=some (.slice (some ⟨bB,oB,none⟩) q.path.evs.length q.c1):=fun w H=>by rw [← hB1];exact H.cell 0 rfl rfl
  refine wp_skip (hK12 _ _ ?_);clear hK12;refine cSeq (fun K13 hK13=>?_);refine wp_block ?_;refine cSR fun K14 hK14=>Xl F rfl (Xh rfl (qNK hK14 ?_));clear hK14;clear F a;intro a F;refine cSeq (fun K15 hK15=>?_);refine cRegRO (by kernel_rfl) H ?_;replace H:=H.drew;refine Xt 0 rfl F rfl (fun w=>rFa (f:=0) (k:=0) underlying37 rfl sizeOf33 rfl rfl F rfl) H qq0 (Xz 1 rfl rfl rfl (fun a F w H=>rLd isAgg33 F rfl (hv1 _ H)) H qq0 (Xu 2 rfl rfl (fun a F w=>rMv F rfl) H qq0 ?_));clear F a;intro a F
  refine Xv (k:=3) (i:=3) rfl F rfl (fun w=>rIx underlying33 sizeOf45 F rfl rfl ?_) H (fun _ _ _ h=>h) ?_
  focus exact hjl
  clear F a;intro a F
  refine XA (k:=4) (i:=4) rfl F rfl rfl (fun w H=>rLr underlying45 rfl ?si F rfl (H.argR hR1)) H (fun _ _ _ h=>h) ?_
  case si=>exact XC sizeOf45
  clear F a;intro a F;refine Xt 5 rfl F rfl (fun w=>rFa (f:=0) (k:=0) underlying37 rfl sizeOf33 rfl rfl F rfl) H qq0 (Xz 6 rfl rfl rfl (fun a F w H=>rLd isAgg33 F rfl (hv2 _ H)) H qq0 (Xu 7 rfl rfl (fun a F w=>rMv F rfl) H qq0 ?_));clear F a;intro a F
  refine Xv (k:=8) (i:=8) rfl F rfl (fun w=>rIx underlying33 sizeOf45 F rfl rfl ?_) H (fun _ _ _ h=>h) ?_
  focus exact hjq
  clear F a;intro a F
  refine XA (k:=9) (i:=9) rfl F rfl rfl (fun w H=>rLr underlying45 rfl ?si F rfl (H.argR hR2)) H (fun _ _ _ h=>h) ?_
  case si=>exact XC sizeOf45
  clear F a;intro a F;refine Xt 10 rfl F rfl (fun w=>YA F rfl rfl bNeEv) H qq0 ?_;clear F a;intro a F;refine eNil (k:=11) (by kernel_rfl) ?_;refine hK15 _ _ ?_;clear hK15
  refine cIf F rfl (fun h60=>?_) (fun h60=>?_)
  ·
   refine cSR fun K16 hK16=>Xa F rfl (qNK hK16 ?_);clear hK16;clear F a;intro a F;refine wp_ret ?_;refine xI ?_;refine bRet results8 F rfl ?_
   exact ⟨X1 (MO (fun e=>by rw [e,hy] at hx;cases hx;rw [eqEv_iff.2 rfl] at h60;cases h60)).symm,H.below⟩
  refine wp_skip (hK13 _ _ (cReg ?_));clear hK13
  refine Xm F rfl rfl (XJ (j:=1) ?_) ?_
  focus omega
  clear F a;intro a F;refine Xl F rfl ?_;clear F a;intro a F;refine sNil ?_
  have he:x=y:=eqEv_iff.1 (by simpa using h60)
  exact ⟨_,by omega,_,⟨j+1,rfl,rfl,by omega,fun i hi=>(by
    rcases Nat.lt_or_ge i j with h | h
    · exact ht i h
    · obtain rfl:i=j:=by omega
      rw [hx,hy,he]),H⟩,F.tt⟩
 replace h48:=of_decide_eq_false h48;refine wp_exit ?_;refine hK9 _ _ (cSR fun K17 hK17=>Xa F rfl (qNK hK17 ?_));clear hK9 hK17;clear F a;intro a F;refine wp_ret ?_;refine bRet results8 F rfl ?_
 exact ⟨X1 (Xao (DJ hlen (fun i hi=>ht i (by omega))) h20 h28 h36 h43).symm,H.below⟩
theorem Xa7 (n:UInt8) (w0:World):Calls Tryz.prog 15 #[b8 n] w0 fun e w'=>e = .returned (.agg #[.bool true,b8 n])∧Below w0.heap.size w0 w':=by
 have H:=Own.start w0 none
 refine XE func15 rfl ntmps15 rfl (fun a F=>?_);refine cSR fun K1 hK1=>?_;refine sAl H zeroValue59 F rfl rfl ?_;clear F a H;intro b2 a w F H;refine nK hK1 (cSR fun K2 hK2=>Xl F rfl (qBd (places:=[(0,1),(1,1)]) zeroValue59 underlying59 (by kernel_rfl) rfl rfl rfl rfl ?_));clear hK1;clear F a;intro a F
 refine sSr H 0 ?si F rfl rfl rfl ?s1 rfl rfl ?_
 case si=>exact XC sizeOf59
 case s1=>rfl
 clear H;intro w H;refine nK hK2 ?_;clear hK2;refine wp_ret ?_;refine UX results15 F rfl underlying59 rfl H 0 rfl sizeOf59 rfl ?_
 exact ⟨rfl,H.below⟩
theorem JK (n:UInt8) (w0:World):Calls Tryz.prog 16 #[b8 n] w0 fun e w'=>e = .returned (.agg #[.bool false,b8 n])∧Below w0.heap.size w0 w':=by
 have H:=Own.start w0 none
 refine XE func16 rfl ntmps16 rfl (fun a F=>?_);refine cSR fun K1 hK1=>?_;refine sAl H zeroValue59 F rfl rfl ?_;clear F a H;intro b2 a w F H;refine nK hK1 (cSR fun K2 hK2=>Xl F rfl (qBd (places:=[(0,1),(1,1)]) zeroValue59 underlying59 (by kernel_rfl) rfl rfl rfl rfl ?_));clear hK1;clear F a;intro a F
 refine sSr H 0 ?si F rfl rfl rfl ?s1 rfl rfl ?_
 case si=>exact XC sizeOf59
 case s1=>rfl
 clear H;intro w H;refine nK hK2 ?_;clear hK2;refine wp_ret ?_;refine UX results16 F rfl underlying59 rfl H 0 rfl sizeOf59 rfl ?_
 exact ⟨rfl,H.below⟩
theorem Xch {w0 w:World} {row:Option Nat} {q:PlP} (H:Own w0 row w q.res) (h1:q.path.evs.length≤1000000) (h2:q.path.data.length≤1000000000000) (h3:q.path.ctrl.length≤1000000000000) (h4:q.path.rmw.length≤1000000000000):PathAt w q:=
 ⟨H.rowsAt 0 rfl (fun r hr=>by obtain ⟨x,_,rfl⟩:=List.mem_map.1 hr;rfl) (by omega),H.rowsAt 1 rfl (fun r hr=>by obtain ⟨x,_,rfl⟩:=List.mem_map.1 hr;rfl) (by omega),
   H.rowsAt 2 rfl (fun r hr=>by obtain ⟨x,_,rfl⟩:=List.mem_map.1 hr;rfl) (by omega),H.rowsAt 3 rfl (fun r hr=>by obtain ⟨x,_,rfl⟩:=List.mem_map.1 hr;rfl) (by omega),h1,h2,h3,h4⟩
theorem Nz (A:Option Addr) (C n:Nat) (l:List Ins) (RA:Option Addr) (RC k:Nat) (reads:List UInt8) (w0:World) (hA:RowsAt w0 A 10 (l.map Ins.cells)) (hl:n=l.length) (hn:l.length≤9223372036854775807) (hR:RowsAt w0 RA 1 (reads.map fun x=>[b8 x])) (hk:k=reads.length) (hrn:reads.length≤9223372036854775806) (hN:NeedsAt w0) (hT:TabAt w0) :
   Calls Tryz.prog 6 #[.slice A n C,.slice RA k RC] w0 fun e w'=>∃ q:PlP,q.path=(X0 l reads).path∧e = .returned (.tuple #[.agg q.cells.toArray,.bool (X0 l reads).more,.int .i64 ((X0 l reads).err:Int)])∧Own w0 none w' q.res:=by
 subst hl hk
 refine (Eq A C l RA RC reads w0 hA hn hR hrn hN hT).mono ?_;rintro e w' ⟨A1,c1,A2,c2,A3,c3,A4,c4,rfl,H⟩
 exact ⟨⟨(X0 l reads).path,A1,c1,A2,c2,A3,c3,A4,c4⟩,rfl,rfl,H⟩
-- SqL
open Go.Proofs.Tryz
open Go.RowKit
set_option maxRecDepth 100000
def GQ:List Ins:=[⟨1,1,0,false,0,false,0,0,0,0⟩,⟨2,0,1,true,1,false,0,0,0,0⟩]
def Mu:List Ins:=[⟨6,0,0,false,0,false,1,0,0,0⟩]
def addL:List Ins:=[⟨5,0,0,false,1,false,0,0,0,0⟩]
def st3L:List Ins:=[⟨2,0,0,false,3,false,0,0,0,0⟩]
def oneQ:Prg:=⟨⟨#[116]⟩,[⟨#[120]⟩],[0],[addL,addL],1,.mk 0 0 0 0 []⟩
def twoQ:Prg:=⟨⟨#[116]⟩,[⟨#[120]⟩,⟨#[121]⟩],[0,0],[GQ,st3L],1,.mk 0 0 0 0 []⟩
theorem BQ:YT oneQ 16=([],5):=by kernel_rfl
theorem BP:YT twoQ 16=([0,3],0):=by kernel_rfl
theorem RowsAt.ofRange8 {w:World} {b sz:Nat}:∀ {rows:List (List Value)} {o:Nat},w.rangeAt b o rows.flatten→(∀ r ∈ rows,r.length=sz)→RowsAt w (some ⟨b,o,none⟩) sz rows:=by
 intro rows o h hr j cs hj
 refine ⟨b,o,rfl,fun k v hk=>?_⟩
 have key:∀ (rows:List (List Value)),(∀ r ∈ rows,r.length=sz)→∀ j cs,rows[j]? = some cs→∀ k v,cs[k]? = some v→rows.flatten[j * sz+k]? = some v:=by
   intro rows hr
   induction rows with
   | nil=>intro j cs hj;simp at hj
   | cons r0 rest ih=>
     intro j cs hj k v hk
     have h0:r0.length=sz:=hr r0 (by simp)
     cases j with
     | zero=>
       simp at hj;subst hj
       have:k < r0.length:=(List.getElem?_eq_some_iff.1 hk).1
       rw [List.flatten_cons,List.getElem?_append_left (by omega)];simpa using hk
     | succ j=>
       rw [List.flatten_cons,List.getElem?_append_right (by rw [h0,Nat.add_mul];omega),h0]
       have e1:(j+1) * sz+k - sz=j * sz+k:=by rw [Nat.add_mul];omega
       rw [e1]
       exact ih (fun r hm=>hr r (by simp [hm])) j cs (by simpa using hj) k v hk
 have:=h (j * sz+k) v (key rows hr j cs hj k v hk)
 rwa [Nat.add_assoc]
theorem Xcg {l:List Ins}:∀ r ∈ l.map Ins.cells,r.length=10:=fun r hr=>by obtain ⟨x,_,rfl⟩:=List.mem_map.1 hr;rfl
theorem Z5 {w:World} {b:Nat} {l:List Ins} (h:w.rangeAt b 0 (l.map Ins.cells).flatten):RowsAt w (some ⟨b,0,none⟩) 10 (l.map Ins.cells):=RowsAt.ofRange8 h Xcg
theorem GU {w:World} {b:Nat} {l:List UInt8} (h:w.rangeAt b 0 (l.map fun x=>[b8 x]).flatten):RowsAt w (some ⟨b,0,none⟩) 1 (l.map fun x=>[b8 x]):=RowsAt.ofRange8 h (fun r hr=>Nw hr)
theorem Xcx {w:World} {A:Option Addr} {sz:Nat}:RowsAt w A sz []:=fun j cs h=>by simp at h
theorem Li {w:World} {b1 b2 b3 C1 C2:Nat} {A1 A2:Option Addr} {name:ByteArray} {locs:List ByteArray} {init:List UInt8} {l1 l2:List Ins} {ask:UInt8} {nl ni n1 n2:Nat} (hn:name.size≤maxLen) (hnl:nl=locs.length) (hni:ni=init.length) (hls:∀ s ∈ locs,s.size≤maxLen) (hl:locs.length≤100) (hi:init.length≤100)
   (h1:w.rangeAt b1 0 ((locs.map fun s=>[Value.string s]).flatten)) (h2:w.rangeAt b2 0 (init.map fun x=>[b8 x]).flatten) (h3:w.rangeAt b3 0 [.slice A1 n1 C1,.slice A2 n2 C2]) (e1:n1=l1.length) (e2:n2=l2.length) (hR1:RowsAt w A1 10 (l1.map Ins.cells)) (hR2:RowsAt w A2 10 (l2.map Ins.cells)) (m1:l1.length≤100) (m2:l2.length≤100) :
   ProgAt w [.string name,.slice (some ⟨b1,0,none⟩) nl nl,.slice (some ⟨b2,0,none⟩) ni ni,.slice (some ⟨b3,0,none⟩) 2 2,b8 ask,b8 0,b8 0,b8 0,b8 0,.slice none 0 0] ⟨name,locs,init,[l1,l2],ask,.mk 0 0 0 0 []⟩:=by
 subst hnl hni e1 e2
 refine ⟨some ⟨b1,0,none⟩,locs.length,some ⟨b2,0,none⟩,init.length,some ⟨b3,0,none⟩,2,1,[b8 0,b8 0,b8 0,b8 0,.slice none 0 0],?_⟩
 refine ⟨rfl,hn,RowsAt.ofRange8 h1 (fun r hr=>by obtain ⟨x,_,rfl⟩:=List.mem_map.1 hr;rfl),?_,Nat.le_refl _,hls,GU h2,?_,?_,(by show 2≤9223372036854775807;omega),none,0,rfl,by decide,fun j kid hj=>by simp at hj⟩
 · show locs.length≤9223372036854775807;omega
 · show init.length≤9223372036854775807;omega
 · intro j t hj
   match j,hj with
   | 0,hj=>cases hj;exact ⟨b3,0,A1,C1,rfl,h3 0 _ rfl,hR1,by omega⟩
   | 1,hj=>cases hj;exact ⟨b3,0,A2,C2,rfl,h3 1 _ rfl,hR2,by omega⟩
   | n+2,hj=>simp at hj
theorem WZ (A:Option Addr) (C n:Nat) (l:List Ins) (RA:Option Addr) (RC k:Nat) (reads:List UInt8) (w0:World) (m:Bool) (er:Nat) (hm:(X0 l reads).more=m) (he:(X0 l reads).err=er) (hA:RowsAt w0 A 10 (l.map Ins.cells)) (hl:n=l.length) (hn:l.length≤9223372036854775807) (hR:RowsAt w0 RA 1 (reads.map fun x=>[b8 x])) (hk:k=reads.length) (hrn:reads.length≤9223372036854775806) (hN:NeedsAt w0) (hT:TabAt w0) :
   Calls Tryz.prog 6 #[.slice A n C,.slice RA k RC] w0 fun e w'=>∃ q:PlP,q.path=(X0 l reads).path∧e = .returned (.tuple #[.agg q.cells.toArray,.bool m,.int .i64 (er:Int)])∧Own w0 none w' q.res:=by
 subst hm he
 exact Nz A C n l RA RC k reads w0 hA hl hn hR hk hrn hN hT
theorem XbW (A:Option Addr) (C n:Nat) (l:List Ins) (DA:Option Addr) (DC k:Nat) (dom:List UInt8) (most:Int) (w0:World) (hA:RowsAt w0 A 10 (l.map Ins.cells)) (hl:n=l.length) (hn:l.length≤9223372036854775807) (hD:BytesAt w0 DA dom) (hk:k=dom.length) (hdn:dom.length≤1000000) (hN:NeedsAt w0) (hT:TabAt w0) :
   Calls Tryz.prog 11 #[.slice A n C,.slice DA k DC,.int .i64 most] w0 (G0 (YV l dom most) w0):=by
 subst hl hk
 exact Md.Paths_any A C l DA DC dom most w0 hA hn hD hdn hN hT
theorem Xb8 {ps:List PlP} {l:List PathP} (h:ps.map PlP.path=l) (hl:l.length=2):∃ q1 q2,ps=[q1,q2]∧l[0]? = some q1.path∧l[1]? = some q2.path:=by
 subst h
 match ps,hl with
 | [q1,q2],_=>exact ⟨q1,q2,rfl,rfl,rfl⟩
theorem XbI:(YV Mu [5,0] 2).1.length=2:=by kernel_rfl
theorem XbJ:(YV Mu [5,0] 2).2=0:=by kernel_rfl
theorem Bs {q:PathP} (h:(YV Mu [5,0] 2).1[0]? = some q):WK q (X0 Mu [0]).path=true:=by
 have h1:((YV Mu [5,0] 2).1[0]?.map fun q=>WK q (X0 Mu [0]).path)=some true:=by kernel_rfl
 rw [h] at h1
 exact Option.some.inj h1
theorem Br {q:PathP} (h:(YV Mu [5,0] 2).1[1]? = some q):WK q (X0 Mu [5]).path=true:=by
 have h1:((YV Mu [5,0] 2).1[1]?.map fun q=>WK q (X0 Mu [5]).path)=some true:=by kernel_rfl
 rw [h] at h1
 exact Option.some.inj h1
theorem ZU {a:Bool} (h:a=true) (h2:a=false) {G:Prop}:G:=by rw [h] at h2;cases h2
def Za (p:PathP):Bool:=decide (p.evs.length≤1000000) && decide (p.data.length≤1000000000000) && decide (p.ctrl.length≤1000000000000) && decide (p.rmw.length≤1000000000000)
theorem VS {w0 w:World} {row:Option Nat} {q:PlP} (H:Own w0 row w q.res) (h:Za q.path=true):PathAt w q:=by
 simp only [Za,Bool.and_eq_true,decide_eq_true_eq] at h
 exact Xch H h.1.1.1 h.1.1.2 h.1.2 h.2
theorem Nk {i:Nat} {q:PathP} (h:(YV Mu [5,0] 2).1[i]? = some q):Za q=true:=by
 have h1:(YV Mu [5,0] 2).1.all Za=true:=by kernel_rfl
 exact List.all_eq_true.1 h1 q (List.mem_of_getElem? h)
theorem V5 {w0 w:World} {row:Option Nat} {rs:List Res} (H:Own w0 row w rs) (i:Nat) {e:TypeId} {sz n c:Nat} {A:Option Addr} {rows:List (List Value)} (hi:rs[i]? = some (.rws e sz (.slice A n c) rows)) (hr:∀ r ∈ rows,r.length=sz) (hsz:0 < sz) {b o j:Nat} {cs:List Value} (hA:A=some ⟨b,o,none⟩) (hj:rows[j]? = some cs):w.rangeAt b (o+j * sz) cs:=by
 obtain ⟨b',o',h1,h2⟩:=H.rowsAt i hi hr hsz j cs hj
 rw [hA] at h1
 cases h1
 exact h2
theorem ev7 {l:List Ev}:∀ r ∈ l.map Ev.cells,r.length=7:=fun r hr=>by obtain ⟨x,_,rfl⟩:=List.mem_map.1 hr;rfl
theorem pr2 {l:List Pr}:∀ r ∈ l.map prC,r.length=2:=fun r hr=>by obtain ⟨x,_,rfl⟩:=List.mem_map.1 hr;rfl
theorem pl12 {l:List PlP}:∀ r ∈ l.map PlP.cells,r.length=12:=fun r hr=>by obtain ⟨x,_,rfl⟩:=List.mem_map.1 hr;rfl
theorem evAt {l:List Ev} {j:Nat} {x:Ev} (h:l[j]? = some x):(l.map Ev.cells)[j]? = some x.cells:=by rw [List.getElem?_map,h];rfl
set_option maxHeartbeats 8000000 in
theorem YS (w0:World) (hN:NeedsAt w0) (hT:TabAt w0):Calls Tryz.prog 5 #[] w0 fun e w'=>e = .returned (.bool true)∧Below w0.heap.size w0 w':=by
 have H:=Own.start w0 none
 refine XE func5 rfl ntmps5 rfl (fun a F=>?_);refine cSR fun K1 hK1=>Xa F rfl (qNK hK1 (qSR fun K2 hK2=>qBd (places:=[(0,1),(1,1),(2,1),(3,2),(5,2),(7,1),(8,1),(9,1)]) zeroValue61 underlying61 (by kernel_rfl) rfl rfl rfl rfl ?_));clear hK1;clear F a;intro a F;refine Xn call15 F rfl (Xa7 1 _) (gG H ?_);clear F a H;intro a w F H;refine sBd (places:=[(0,1),(1,1),(2,1),(3,2),(5,2),(7,1),(8,1),(9,1)]) zeroValue61 underlying61 (by kernel_rfl) F rfl rfl rfl rfl ?_;clear F a;intro a F;refine sBsR (rows:=[(Ins.mk 1 1 0 false 0 false 0 0 0 0).cells,(Ins.mk 2 0 1 true 1 false 0 0 0 0).cells]) H underlying22 sizeOf61 zeroValue61 rfl F rfl rfl rfl rfl rfl ?_;clear F a H;intro b28 a w F H;refine Xa F rfl (qNK hK2 (qSR fun K3 hK3=>Xd rfl ?_));clear hK2;clear F a;intro a F;refine MP H underlying23 sizeOf5 zeroValue5 rfl F rfl rfl rfl rfl ?_;clear F a H;intro b31 a w F H;refine Xn call6 F rfl (WZ _ 2 2 GQ _ 1 1 [7] _ false 0 (by kernel_rfl) (by kernel_rfl) (Z5 (H.whole 1 rfl)) rfl (by decide) (GU (H.whole 0 rfl)) rfl (by decide) (hN.own H) (hT.own H)) ?_;rintro e w ⟨qp,hqp,rfl,H2⟩;replace H:=H.join H2
 clear H2
 have hpl2:qp.path.evs.length=2:=by rw [hqp];kernel_rfl
 have he0:qp.path.evs[0]? = some ⟨1,0,7,0,0,0⟩:=by rw [hqp];kernel_rfl
 have he1:qp.path.evs[1]? = some ⟨2,1,7,0,1,1⟩:=by rw [hqp];kernel_rfl
 have hdat:qp.path.data=[(0,1)]:=by rw [hqp];kernel_rfl
 have hrg:qp.path.regs 1=7:=by rw [hqp];kernel_rfl
 refine ⟨_,rfl,?_⟩;clear F a;intro a F;refine Xl F rfl (XB rfl rfl (XB rfl rfl (XB rfl rfl ?_)));clear F a;intro a F;refine sAl H zeroValue37 F rfl rfl ?_;clear F a H;intro b2 a w F H
 refine sSr H 0 ?si F rfl rfl rfl ?s1 rfl rfl ?_
 case si=>exact XC sizeOf37
 case s1=>rfl
 clear H;intro w H;refine Xa F rfl (Xh rfl (qNK hK3 (qSR fun K4 hK4=>Xd rfl ?_)));clear hK3;clear F a;intro a F;refine Xn call6 F rfl (WZ _ 2 2 GQ none 0 0 [] _ true 0 (by kernel_rfl) (by kernel_rfl) (Z5 (H.whole 6 rfl)) rfl (by decide) Xcx rfl (by decide) (hN.own H) (hT.own H)) ?_;rintro e w ⟨qw,hqw,rfl,H2⟩;replace H:=H.join H2;clear H2;refine ⟨_,rfl,?_⟩;clear F a;intro a F;refine Xl F rfl (XB rfl rfl (XB rfl rfl (XB rfl rfl ?_)));clear F a;intro a F;refine sAl H zeroValue37 F rfl rfl ?_;clear F a H;intro b5 a w F H
 refine sSr H 0 ?si F rfl rfl rfl ?s1 rfl rfl ?_
 case si=>exact XC sizeOf37
 case s1=>rfl
 clear H;intro w H;refine Xa F rfl (Xh rfl (qNK hK4 (qSR fun K5 hK5=>Xd rfl ?_)));clear hK4;clear F a;intro a F;refine sBs H underlying23 sizeOf5 zeroValue5 rfl F rfl rfl rfl rfl rfl ?_;clear F a H;intro b44 a w F H;refine Xn call6 F rfl (WZ _ 2 2 GQ _ 2 2 [7,8] _ false 5 (by kernel_rfl) (by kernel_rfl) (Z5 (H.whole 12 rfl)) rfl (by decide) (GU (H.whole 0 rfl)) rfl (by decide) (hN.own H) (hT.own H)) ?_;rintro e w ⟨qm,hqm,rfl,H2⟩;replace H:=H.join H2;clear H2;refine ⟨_,rfl,?_⟩;clear F a;intro a F;refine Xl F rfl (XB rfl rfl (XB rfl rfl (XB rfl rfl ?_)));clear F a;intro a F;refine sAl H zeroValue37 F rfl rfl ?_;clear F a H;intro b8 a w F H
 refine sSr H 0 ?si F rfl rfl rfl ?s1 rfl rfl ?_
 case si=>exact XC sizeOf37
 case s1=>rfl
 clear H;intro w H;refine Xa F rfl (Xh rfl (qNK hK5 (qSR fun K6 hK6=>?_)));clear hK5;clear F a;intro a F;refine Xn call16 F rfl (JK 0 _) (gG H ?_);clear F a H;intro a w F H;refine Xn call16 F rfl (JK 1 _) (gG H ?_);clear F a H;intro a w F H;refine sBd (places:=[(0,1),(1,1),(2,1),(3,2),(5,2),(7,1),(8,1),(9,1)]) zeroValue61 underlying61 (by kernel_rfl) F rfl rfl rfl rfl ?_;clear F a;intro a F;refine sBsR (rows:=[(Ins.mk 6 0 0 false 0 false 1 0 0 0).cells]) H underlying22 sizeOf61 zeroValue61 rfl F rfl rfl rfl rfl rfl ?_;clear F a H;intro b52 a w F H;refine Xa F rfl (qNK hK6 (qSR fun K7 hK7=>Xd rfl ?_));clear hK6;clear F a;intro a F;refine MP H underlying23 sizeOf5 zeroValue5 rfl F rfl rfl rfl rfl ?_;clear F a H;intro b55 a w F H;refine Xn call6 F rfl (WZ _ 1 1 Mu _ 1 1 [0] _ false 0 (by kernel_rfl) (by kernel_rfl) (Z5 (H.whole 1 rfl)) rfl (by decide) (GU (H.whole 0 rfl)) rfl (by decide) (hN.own H) (hT.own H)) ?_;rintro e w ⟨qa,hqa,rfl,H2⟩;replace H:=H.join H2
 clear H2
 have har:qa.path.rmw=[(0,1)]:=by rw [hqa];kernel_rfl
 have hac:qa.path.ctrl=[(0,1)]:=by rw [hqa];kernel_rfl
 have has:Za qa.path=true:=by rw [hqa];kernel_rfl
 refine ⟨_,rfl,?_⟩;clear F a;intro a F;refine Xl F rfl (XB rfl rfl (XB rfl rfl (XB rfl rfl ?_)));clear F a;intro a F;refine sAl H zeroValue37 F rfl rfl ?_;clear F a H;intro b12 a w F H
 refine sSr H 0 ?si F rfl rfl rfl ?s1 rfl rfl ?_
 case si=>exact XC sizeOf37
 case s1=>rfl
 clear H;intro w H;refine Xa F rfl (Xh rfl (qNK hK7 (qSR fun K8 hK8=>Xd rfl ?_)));clear hK7;clear F a;intro a F;refine MP H underlying23 sizeOf5 zeroValue5 rfl F rfl rfl rfl rfl ?_;clear F a H;intro b62 a w F H;refine Xn call6 F rfl (WZ _ 1 1 Mu _ 1 1 [5] _ false 0 (by kernel_rfl) (by kernel_rfl) (Z5 (H.whole 7 rfl)) rfl (by decide) (GU (H.whole 0 rfl)) rfl (by decide) (hN.own H) (hT.own H)) ?_;rintro e w ⟨qb,hqb,rfl,H2⟩;replace H:=H.join H2
 clear H2
 have hbl:qb.path.evs.length=1:=by rw [hqb];kernel_rfl
 have hbs:Za qb.path=true:=by rw [hqb];kernel_rfl
 refine ⟨_,rfl,?_⟩;clear F a;intro a F;refine Xl F rfl (XB rfl rfl (XB rfl rfl (XB rfl rfl ?_)));clear F a;intro a F;refine sAl H zeroValue37 F rfl rfl ?_;clear F a H;intro b15 a w F H
 refine sSr H 0 ?si F rfl rfl rfl ?s1 rfl rfl ?_
 case si=>exact XC sizeOf37
 case s1=>rfl
 clear H;intro w H;refine Xa F rfl (Xh rfl (qNK hK8 (qSR fun K9 hK9=>Xd rfl ?_)));clear hK8;clear F a;intro a F;refine sBs H underlying23 sizeOf5 zeroValue5 rfl F rfl rfl rfl rfl rfl ?_;clear F a H;intro b69 a w F H;refine Xn call11 F rfl (XbW _ 1 1 Mu _ 2 2 [5,0] 2 _ (Z5 (H.whole 13 rfl)) rfl (by decide) (GU (H.whole 0 rfl)) rfl (by decide) (hN.own H) (hT.own H)) ?_;rintro e w ⟨ps,LA,LC,hps,rfl,H2⟩;replace H:=H.join H2
 clear H2
 obtain ⟨q1,q2,rfl,hq1,hq2⟩:=Xb8 hps XbI
 rw [XbJ];refine ⟨_,rfl,?_⟩;clear F a;intro a F;refine Xl F rfl (XB rfl rfl (XB rfl rfl (Xh rfl (Xh rfl (qNK hK9 (qSR fun K10 hK10=>?_))))));clear hK9;clear F a;intro a F;refine Xn call16 F rfl (JK 1 _) (gG H ?_);clear F a H;intro a w F H;refine sBd (places:=[(0,1),(1,1),(2,1),(3,2),(5,2),(7,1),(8,1),(9,1)]) zeroValue61 underlying61 (by kernel_rfl) F rfl rfl rfl rfl ?_;clear F a;intro a F;refine sBsR (rows:=[(Ins.mk 5 0 0 false 1 false 0 0 0 0).cells]) H underlying22 sizeOf61 zeroValue61 rfl F rfl rfl rfl rfl rfl ?_;clear F a H;intro b75 a w F H;refine Xa F rfl (qNK hK10 (qSR fun K11 hK11=>?_));clear hK10;clear F a;intro a F;refine MP H underlying24 sizeOf9 zeroValue9 rfl F rfl rfl rfl rfl ?_;clear F a H;intro b77 a w F H;refine MP H underlying23 sizeOf5 zeroValue5 rfl F rfl rfl rfl rfl ?_;clear F a H;intro b78 a w F H;refine Xl F rfl (Xd rfl ?_);clear F a;intro a F;refine sBs H underlying25 sizeOf22 zeroValue22 rfl F rfl rfl rfl rfl rfl ?_;clear F a H;intro b81 a w F H;refine sBd (places:=[(0,1),(1,1),(2,1),(3,1),(4,1),(5,5)]) zeroValue30 underlying30 (by kernel_rfl) F rfl rfl rfl rfl ?_;clear F a;intro a F;refine Xn call13 F rfl (ZS _ oneQ 16 _ (Li (name:=oneQ.name) (locs:=oneQ.locs) (init:=oneQ.init) (ask:=1) (l1:=addL) (l2:=addL) (by decide) rfl rfl (by decide) (by decide) (by decide) (H.whole 2 rfl) (H.whole 1 rfl) (show World.rangeAt _ b81 0 [_,_] from H.whole 0 rfl) rfl rfl (Z5 (H.whole 3 rfl)) (Z5 (H.whole 3 rfl)) (by decide) (by decide)) (hN.own H)) ?_
 rintro e w hV1
 obtain ⟨A9,C9,rfl,H2⟩:=(show Wl ([],5) _ _ _ from BQ ▸ hV1);replace H:=H.join H2;clear H2 hV1
 refine ⟨_,rfl,?_⟩;clear F a;intro a F;refine Xl F rfl (XB rfl rfl (XB rfl rfl (Xh rfl (Xh rfl (qNK hK11 (qSR fun K12 hK12=>?_))))));clear hK11;clear F a;intro a F;refine sBs H underlying24 sizeOf9 zeroValue9 rfl F rfl rfl rfl rfl rfl ?_;clear F a H;intro b87 a w F H;refine sBs H underlying23 sizeOf5 zeroValue5 rfl F rfl rfl rfl rfl rfl ?_;clear F a H;intro b88 a w F H;refine Xl F rfl ?_;clear F a;intro a F;refine Xn call16 F rfl (JK 3 _) (gG H ?_);clear F a H;intro a w F H;refine sBd (places:=[(0,1),(1,1),(2,1),(3,2),(5,2),(7,1),(8,1),(9,1)]) zeroValue61 underlying61 (by kernel_rfl) F rfl rfl rfl rfl ?_;clear F a;intro a F;refine sBsR (rows:=[(Ins.mk 2 0 0 false 3 false 0 0 0 0).cells]) H underlying22 sizeOf61 zeroValue61 rfl F rfl rfl rfl rfl rfl ?_;clear F a H;intro b92 a w F H;refine sBs H underlying25 sizeOf22 zeroValue22 rfl F rfl rfl rfl rfl rfl ?_;clear F a H;intro b93 a w F H;refine sBd (places:=[(0,1),(1,1),(2,1),(3,1),(4,1),(5,5)]) zeroValue30 underlying30 (by kernel_rfl) F rfl rfl rfl rfl ?_;clear F a;intro a F;refine Xn call13 F rfl (ZS _ twoQ 16 _ (Li (name:=twoQ.name) (locs:=twoQ.locs) (init:=twoQ.init) (ask:=1) (l1:=GQ) (l2:=st3L) (by decide) rfl rfl (by decide) (by decide) (by decide) (H.whole 3 rfl) (H.whole 2 rfl) (show World.rangeAt _ b93 0 [_,_] from H.whole 0 rfl) rfl rfl (Z5 (H.whole 49 rfl)) (Z5 (H.whole 1 rfl)) (by decide) (by decide)) (hN.own H)) ?_
 rintro e w hV2
 obtain ⟨A8,C8,rfl,H2⟩:=(show Wl ([0,3],0) _ _ _ from BP ▸ hV2);replace H:=H.join H2;clear H2 hV2
 refine ⟨_,rfl,?_⟩;clear F a;intro a F;refine Xl F rfl (XB rfl rfl (XB rfl rfl (Xh rfl (Xh rfl (qNK hK12 ?_)))));clear hK12;clear F a;intro a F;refine cSeq (fun K13 hK13=>?_);refine cSR fun K14 hK14=>Xl F rfl (Xd rfl ?_);clear F a;intro a F
 refine Xm F rfl rfl (Z9 ?_) ?_
 focus omega
 clear F a;intro a F;refine Xl F rfl ?_;clear F a;intro a F
 refine Xm F rfl rfl (Z9 ?_) ?_
 focus omega
 clear F a;intro a F;refine Xl F rfl ?_;clear F a;intro a F
 refine Xm F rfl rfl (Z9 ?_) ?_
 focus omega
 clear F a;intro a F;refine Xl F rfl ?_;clear F a;intro a F
 refine Xm F rfl rfl (Z9 ?_) ?_
 focus omega
 clear F a;intro a F;refine Xl F rfl ?_;clear F a;intro a F
 refine Xm F rfl rfl (Z9 ?_) ?_
 focus omega
 clear F a;intro a F;refine Xm F rfl rfl U7 (Xd rfl ?_);clear F a;intro a F
 refine F.split 110 rfl ?_ ?_ <;> (clear F;intro h110 F)
 ·
  replace h110:=UL h110
  exact absurd rfl h110
 replace h110:=UM h110;refine Xl F rfl (Xj rfl rfl U7 (Xg rfl rfl (Xd rfl ?_)));clear F a;intro a F
 refine F.split 114 rfl ?_ ?_ <;> (clear F;intro h114 F)
 ·
  replace h114:=UL h114
  exact absurd rfl h114
 replace h114:=UM h114;refine Xl F rfl (Xj rfl rfl U7 (Xg rfl rfl (Xd rfl ?_)));clear F a;intro a F
 refine F.split 118 rfl ?_ ?_ <;> (clear F;intro h118 F)
 ·
  replace h118:=UL h118
  exact absurd rfl h118
 replace h118:=UM h118;refine Xl F rfl (Xg rfl rfl (Xd rfl ?_));clear F a;intro a F
 refine F.split 121 rfl ?_ ?_ <;> (clear F;intro h121 F)
 ·
  cases h121
 refine Xl F rfl (Es rfl rfl rfl (Xg rfl rfl (Xd rfl ?_)));clear F a;intro a F
 refine F.split 125 rfl ?_ ?_ <;> (clear F;intro h125 F)
 ·
  replace h125:=ZA h125
  cases h125
 replace h125:=ZB h125;refine Xi (f:=0) (k:=0) underlying37 rfl sizeOf33 rfl rfl F rfl (Xc isAgg33 rfl (H.cell 44 rfl rfl) (Xs underlying33 rfl (Xj rfl rfl U7 (Xg rfl rfl (Xd rfl ?_)))));clear F a;intro a F
 refine F.split 131 rfl ?_ ?_ <;> (clear F;intro h131 F)
 ·
  replace h131:=UL h131
  omega
 replace h131:=UM h131;refine Xl F rfl (Xs underlying48 rfl (Xj rfl rfl U7 (Xg rfl rfl (qNK hK14 ?_))));clear hK14;clear F a;intro a F
 refine cIf F rfl (fun h135=>?_) (fun h135=>?_)
 ·
  replace h135:=UL h135
  exact absurd rfl h135
 replace h135:=UM h135
 obtain ⟨bE,oE,hA1,hRE⟩:=H.rowsAt 45 rfl ev7 (by omega) 0 _ (evAt he0)
 obtain ⟨bL,oL,rfl,hRL⟩:=H.rowsAt 10 rfl pl12 (by omega) 0 _ rfl
 refine wp_skip (hK13 _ _ ?_);clear hK13;refine cSeq (fun K15 hK15=>?_);refine cRegRO (by kernel_rfl) H ?_;replace H:=H.drew;refine Xt 0 rfl F rfl (fun w=>rFa (f:=0) (k:=0) underlying37 rfl sizeOf33 rfl rfl F rfl) H qq0 ?_;clear F a;intro a F;refine XA (k:=1) (i:=1) rfl F rfl rfl (fun w H=>rLd isAgg33 F rfl (show World.cell? _ ⟨b2,0,none⟩=some (.slice (some ⟨bE,oE,none⟩) qp.path.evs.length qp.c1) by rw [← hA1];exact H.cell 44 rfl rfl)) H (fun _ _ _ h=>h) ?_;clear F a;intro a F
 refine Xv (k:=2) (i:=2) rfl F rfl (fun w=>rIx (j:=0) underlying33 sizeOf45 F rfl rfl ?_) H (fun _ _ _ h=>h) ?_
 focus (omega)
 clear F a;intro a F
 refine XA (k:=3) (i:=3) rfl F rfl rfl (fun w H=>rLr underlying45 rfl ?si F rfl (V5 H 45 rfl ev7 (by omega) hA1 (evAt he0))) H (fun _ _ _ h=>h) ?_
 case si=>exact XC sizeOf45
 clear F a;intro a F;refine Xw 4 rfl F rfl rfl (fun w H=>rBd (places:=[(0,1),(1,1),(2,1),(3,1),(4,1),(5,1),(6,1)]) zeroValue45 underlying45 (by kernel_rfl) F rfl rfl) H qq0 (Xu 5 rfl rfl (fun a F w=>YA F rfl rfl (Xc0 (v:=⟨1,0,7,0,0,0⟩))) H qq0 (Xu 6 rfl rfl (fun a F w=>rMv F rfl) H qq0 ?_));clear F a;intro a F
 refine F.split 142 rfl ?_ ?_ <;> (clear F;intro h142 F)
 ·
  refine Xt 7 rfl F rfl (fun w=>rFa (f:=0) (k:=0) underlying37 rfl sizeOf33 rfl rfl F rfl) H qq0 ?_;clear F a;intro a F;refine XA (k:=8) (i:=8) rfl F rfl rfl (fun w H=>rLd isAgg33 F rfl (show World.cell? _ ⟨b2,0,none⟩=some (.slice (some ⟨bE,oE,none⟩) qp.path.evs.length qp.c1) by rw [← hA1];exact H.cell 44 rfl rfl)) H (fun _ _ _ h=>h) ?_;clear F a;intro a F
  refine Xv (k:=9) (i:=9) rfl F rfl (fun w=>rIx (j:=1) underlying33 sizeOf45 F rfl rfl ?_) H (fun _ _ _ h=>h) ?_
  focus (omega)
  clear F a;intro a F
  refine XA (k:=10) (i:=10) rfl F rfl rfl (fun w H=>rLr underlying45 rfl ?si F rfl (V5 H 45 rfl ev7 (by omega) hA1 (evAt he1))) H (fun _ _ _ h=>h) ?_
  case si=>exact XC sizeOf45
  clear F a;intro a F;refine Xw 11 rfl F rfl rfl (fun w H=>rBd (places:=[(0,1),(1,1),(2,1),(3,1),(4,1),(5,1),(6,1)]) zeroValue45 underlying45 (by kernel_rfl) F rfl rfl) H qq0 (Xu 12 rfl rfl (fun a F w=>YA F rfl rfl (Xc0 (v:=⟨2,1,7,0,1,1⟩))) H qq0 (Xu 13 rfl rfl (fun a F w=>rPk F rfl rfl) H qq0 (Xu 14 rfl rfl (fun a F w=>rMv F rfl) H qq0 ?_)));clear F a;intro a F
  refine F.split 150 rfl ?_ ?_ <;> (clear F;intro h150 F)
  ·
   refine Xt 15 rfl F rfl (fun w=>rFa (f:=1) (k:=1) underlying37 rfl sizeOf34 rfl rfl F rfl) H qq0 (Xz 16 rfl rfl rfl (fun a F w H=>rLd isAgg34 F rfl (H.cell 44 rfl rfl)) H qq0 (Xz 17 rfl rfl rfl (fun a F w H=>XbZ XaL underlying64 sizeOf5 F rfl (FillB.one (v:=0) rfl rfl (FillB.one (v:=1) rfl rfl FillB.nil))) H qq0 ?_));clear F a;intro a F;refine Xx (k:=18) (i:=18) rfl (by kernel_rfl) F (LT H underlying34 sizeOf64 zeroValue64 rfl F rfl rfl rfl rfl ?_);clear F a H;intro b154 a w F H;refine XM (H.sel [1,2,3,4,5,6,7,8,9,10,11,12,13,14,15,16,17,18,19,20,21,22,23,24,25,26,27,28,29,30,31,32,33,34,35,36,37,38,39,40,41,42,43,44,45,46,47,48,49,50,51] rfl rfl) ?_;refine Xx (k:=19) (i:=19) rfl (by kernel_rfl) F (XS call17 F rfl rfl (ZP qp.A2 _ qp.c2 1 qp.path.data [(0,1)] _ (H.rowsAt 47 rfl pr2 (by omega)) (RowsAt.ofRange8 (sz:=2) (rows:=[prC (0,1)]) (H.whole 0 rfl) (pr2 (l:=[(0,1)]))) (by rw [hdat];decide) (by decide)) ?_);rintro e w ⟨rfl,hb⟩;replace H:=H.grow hb;clear hb;refine ⟨_,rfl,?_⟩;clear F a;intro a F;refine XF (by kernel_rfl) H ?_;refine Xt 20 rfl F rfl (fun w=>rPk F rfl rfl) H qq0 (Xu 21 rfl rfl (fun a F w=>rMv F rfl) H qq0 ?_);clear F a;intro a F
   refine F.split 157 rfl ?_ ?_ <;> (clear F;intro h157 F)
   ·
    refine Xt 22 rfl F rfl (fun w=>rFa (f:=4) (k:=4) underlying37 rfl sizeOf35 rfl rfl F rfl) H qq0 ?_;clear F a;intro a F
    refine Xv (k:=23) (i:=23) rfl F rfl (fun w=>rIa (j:=1) underlying35 sizeOf5 F rfl rfl ?_) H (fun _ _ _ h=>h) ?_
    focus (omega)
    clear F a;intro a F;refine Xw 24 rfl F rfl rfl (fun w H=>rLd isAgg5 F rfl (H.cell 45 rfl rfl)) H qq0 (Xu 25 rfl rfl (fun a F w=>YA F rfl rfl (XZ (y:=7))) H qq0 (Xu 26 rfl rfl (fun a F w=>rPk F rfl rfl) H qq0 (Xu 27 rfl rfl (fun a F w=>rMv F rfl) H qq0 ?_)));clear F a;intro a F
    refine F.split 163 rfl ?_ ?_ <;> (clear F;intro h163 F)
    ·
     replace h163:=Yh h163;refine Xt 28 rfl F rfl (fun w=>rFa (f:=3) (k:=3) underlying37 rfl sizeOf34 rfl rfl F rfl) H qq0 (Xz 29 rfl rfl rfl (fun a F w H=>rLd isAgg34 F rfl (H.cell 27 rfl rfl)) H qq0 (Xz 30 rfl rfl rfl (fun a F w H=>XbZ XaL underlying64 sizeOf5 F rfl (FillB.one (v:=0) rfl rfl (FillB.one (v:=1) rfl rfl FillB.nil))) H qq0 ?_));clear F a;intro a F;refine Xx (k:=31) (i:=31) rfl (by kernel_rfl) F (LT H underlying34 sizeOf64 zeroValue64 rfl F rfl rfl rfl rfl ?_);clear F a H;intro b167 a w F H;refine XM (H.sel [1,2,3,4,5,6,7,8,9,10,11,12,13,14,15,16,17,18,19,20,21,22,23,24,25,26,27,28,29,30,31,32,33,34,35,36,37,38,39,40,41,42,43,44,45,46,47,48,49,50,51,52] rfl rfl) ?_;refine Xx (k:=32) (i:=32) rfl (by kernel_rfl) F (XS call17 F rfl rfl (ZP qa.A4 _ qa.c4 1 qa.path.rmw [(0,1)] _ (H.rowsAt 32 rfl pr2 (by omega)) (RowsAt.ofRange8 (sz:=2) (rows:=[prC (0,1)]) (H.whole 0 rfl) (pr2 (l:=[(0,1)]))) (by rw [har];decide) (by decide)) ?_);rintro e w ⟨rfl,hb⟩;replace H:=H.grow hb;clear hb;refine ⟨_,rfl,?_⟩;clear F a;intro a F;refine XF (by kernel_rfl) H ?_;refine Xt 33 rfl F rfl (fun w=>rPk F rfl rfl) H qq0 (Xu 34 rfl rfl (fun a F w=>rMv F rfl) H qq0 ?_);clear F a;intro a F
     refine F.split 170 rfl ?_ ?_ <;> (clear F;intro h170 F)
     ·
      refine Xt 35 rfl F rfl (fun w=>rFa (f:=2) (k:=2) underlying37 rfl sizeOf34 rfl rfl F rfl) H qq0 (Xz 36 rfl rfl rfl (fun a F w H=>rLd isAgg34 F rfl (H.cell 28 rfl rfl)) H qq0 (Xz 37 rfl rfl rfl (fun a F w H=>XbZ XaL underlying64 sizeOf5 F rfl (FillB.one (v:=0) rfl rfl (FillB.one (v:=1) rfl rfl FillB.nil))) H qq0 ?_));clear F a;intro a F;refine Xx (k:=38) (i:=38) rfl (by kernel_rfl) F (LT H underlying34 sizeOf64 zeroValue64 rfl F rfl rfl rfl rfl ?_);clear F a H;intro b174 a w F H;refine XM (H.sel [1,2,3,4,5,6,7,8,9,10,11,12,13,14,15,16,17,18,19,20,21,22,23,24,25,26,27,28,29,30,31,32,33,34,35,36,37,38,39,40,41,42,43,44,45,46,47,48,49,50,51,52,53] rfl rfl) ?_;refine Xx (k:=39) (i:=39) rfl (by kernel_rfl) F (XS call17 F rfl rfl (ZP qa.A3 _ qa.c3 1 qa.path.ctrl [(0,1)] _ (H.rowsAt 32 rfl pr2 (by omega)) (RowsAt.ofRange8 (sz:=2) (rows:=[prC (0,1)]) (H.whole 0 rfl) (pr2 (l:=[(0,1)]))) (by rw [hac];decide) (by decide)) ?_);rintro e w ⟨rfl,hb⟩;replace H:=H.grow hb;clear hb;refine ⟨_,rfl,?_⟩;clear F a;intro a F;refine XF (by kernel_rfl) H ?_;refine Xt 40 rfl F rfl (fun w=>rPk F rfl rfl) H qq0 (Xu 41 rfl rfl (fun a F w=>rMv F rfl) H qq0 ?_);clear F a;intro a F
      refine F.split 177 rfl ?_ ?_ <;> (clear F;intro h177 F)
      ·
       refine Xt 42 rfl F rfl (fun w=>rFa (f:=0) (k:=0) underlying37 rfl sizeOf33 rfl rfl F rfl) H qq0 (Xz 43 rfl rfl rfl (fun a F w H=>rLd isAgg33 F rfl (H.cell 23 rfl rfl)) H qq0 (Xz 44 rfl rfl rfl (fun a F w H=>Dg underlying33 F rfl) H qq0 (Xu 45 rfl rfl (fun a F w=>YA F rfl rfl ZQ) H qq0 (Xu 46 rfl rfl (fun a F w=>rPk F rfl rfl) H qq0 (Xu 47 rfl rfl (fun a F w=>rMv F rfl) H qq0 ?_)))));clear F a;intro a F
       refine F.split 183 rfl ?_ ?_ <;> (clear F;intro h183 F)
       ·
        replace h183:=Yh h183;refine Xt 48 rfl F rfl (fun w=>rMv F rfl) H qq0 ?_;clear F a;intro a F
        refine Xv (k:=49) (i:=49) rfl F rfl (fun w=>rIx (j:=0) underlying48 sizeOf37 F rfl rfl ?_) H (fun _ _ _ h=>h) ?_
        focus (omega)
        clear F a;intro a F
        refine XA (k:=50) (i:=50) rfl F rfl rfl (fun w H=>rLr underlying37 rfl ?si F rfl (V5 H 13 rfl pl12 (by omega) (j:=0) rfl rfl)) H (fun _ _ _ h=>h) ?_
        case si=>exact XC sizeOf37
        clear F a;intro a F
        refine XA (k:=51) (i:=51) rfl F rfl rfl (fun w H=>rLr underlying37 rfl ?si F rfl (H.whole 29 rfl)) H (fun _ _ _ h=>h) ?_
        case si=>exact XC sizeOf37
        clear F a;intro a F;refine Xx (k:=52) (i:=52) rfl (by kernel_rfl) F (XS call8 F rfl rfl (Uj q1 qa _ (VS (H.sel [14,15,16,17] rfl rfl) (Nk hq1)) (VS (H.sel [30,31,32,33] rfl rfl) has)) ?_);rintro e w ⟨rfl,hb⟩;replace H:=H.grow hb;clear hb;refine ⟨_,rfl,?_⟩;clear F a;intro a F;refine XF (by kernel_rfl) H ?_;refine Xt 53 rfl F rfl (fun w=>rPk F rfl rfl) H qq0 (Xu 54 rfl rfl (fun a F w=>rMv F rfl) H qq0 ?_);clear F a;intro a F
        refine F.split 190 rfl ?_ ?_ <;> (clear F;intro h190 F)
        ·
         refine Xt 55 rfl F rfl (fun w=>rMv F rfl) H qq0 ?_;clear F a;intro a F
         refine Xv (k:=56) (i:=56) rfl F rfl (fun w=>rIx (j:=1) underlying48 sizeOf37 F rfl rfl ?_) H (fun _ _ _ h=>h) ?_
         focus (omega)
         clear F a;intro a F
         refine XA (k:=57) (i:=57) rfl F rfl rfl (fun w H=>rLr underlying37 rfl ?si F rfl (V5 H 13 rfl pl12 (by omega) (j:=1) rfl rfl)) H (fun _ _ _ h=>h) ?_
         case si=>exact XC sizeOf37
         clear F a;intro a F
         refine XA (k:=58) (i:=58) rfl F rfl rfl (fun w H=>rLr underlying37 rfl ?si F rfl (H.whole 23 rfl)) H (fun _ _ _ h=>h) ?_
         case si=>exact XC sizeOf37
         clear F a;intro a F;refine Xx (k:=59) (i:=59) rfl (by kernel_rfl) F (XS call8 F rfl rfl (Uj q2 qb _ (VS (H.sel [18,19,20,21] rfl rfl) (Nk hq2)) (VS (H.sel [24,25,26,27] rfl rfl) hbs)) ?_);rintro e w ⟨rfl,hb⟩;replace H:=H.grow hb;clear hb;refine ⟨_,rfl,?_⟩;clear F a;intro a F;refine XF (by kernel_rfl) H ?_;refine Xt 60 rfl F rfl (fun w=>rPk F rfl rfl) H qq0 (Xu 61 rfl rfl (fun a F w=>rMv F rfl) H qq0 ?_);clear F a;intro a F
         refine F.split 197 rfl ?_ ?_ <;> (clear F;intro h197 F)
         ·
          refine Xt 62 rfl F rfl (fun w=>rMv F rfl) H qq0 ?_;clear F a;intro a F;refine Xx (k:=63) (i:=63) rfl (by kernel_rfl) F (oBs H underlying23 sizeOf5 zeroValue5 rfl F rfl rfl rfl rfl ?_);clear F a H;intro b199 a w F H;refine XF (by kernel_rfl) H ?_;refine Xx (k:=64) (i:=64) rfl (by kernel_rfl) F (XS call9 F rfl rfl (Wn A8 _ C8 2 [0,3] [0,3] _ (H.rowsAt 4 rfl (fun r hr=>Nw hr) (by omega)) (GU (H.whole 0 rfl))) ?_);rintro e w ⟨rfl,hb⟩;replace H:=H.grow hb;clear hb;refine ⟨_,rfl,?_⟩;clear F a;intro a F;refine XF (by kernel_rfl) H ?_;refine Xt 65 rfl F rfl (fun w=>rPk F rfl rfl) H qq0 (Xu 66 rfl rfl (fun a F w=>rAs F rfl) H qq0 ?_);clear F a;intro a F;refine eNil (k:=67) (by kernel_rfl) ?_;refine hK15 _ _ ?_;clear hK15;refine wp_ret ?_;refine bRet results5 F rfl ?_
          exact ⟨X1 (by rfl),H.below⟩
         exact ZU (by rw [hqb];exact Br hq2) h197
        exact ZU (by rw [hqa];exact Bs hq1) h190
       replace h183:=Yi h183
       omega
      exact ZU (by rw [hac];rfl) h177
     exact ZU (by rw [har];rfl) h170
    replace h163:=Yi h163
    exact absurd hrg h163
   exact ZU (by rw [hdat];rfl) h157
  exact ZU (by decide) h150
 exact ZU (by decide) h142
-- PlA
set_option maxRecDepth 100000
theorem CQ (r:RunP) (d:Nat) (v:UInt8):Yw (r.wReg d v)=Yw r:=rfl
theorem CR (r:RunP) (d n:Nat):Yw (r.wDep d n)=Yw r:=rfl
theorem US (r:RunP) (n:Nat):Yw (r.wControl n)=Yw r:=rfl
theorem D7 (r:RunP) (n:Nat):Yw (r.wPc n)=Yw r:=rfl
theorem D8 (r:RunP) (d n:Nat):Yw (r.wData d n)=Yw r:=rfl
theorem D9 (r:RunP) (d n:Nat):Yw (r.wCtrl d n)=Yw r:=rfl
theorem CS (r:RunP) (d n:Nat):Yw (r.wAtt d n)=Yw r:=rfl
theorem Qh (d v:UInt8) (n:Nat) (r:RunP):Yw (setP d v n r)=Yw r:=by unfold setP;rw [CR,CQ]
theorem Xbv (r:RunP) (e:Ev):Yw ((r.wEv r.many e).wMany (r.many+1))=Yw r++[e]:=by
 unfold Yw RunP.wEv RunP.wMany
 show (List.range (r.many+1)).map (YO r.ev r.many e)=_
 rw [List.range_succ,List.map_append,List.map_cons,List.map_nil]
 have h1:YO r.ev r.many e r.many=e:=by unfold YO;rw [if_pos rfl]
 have h2:(List.range r.many).map (YO r.ev r.many e)=(List.range r.many).map r.ev:=List.map_congr_left fun i hi=>by
   have:=List.mem_range.1 hi
   unfold YO
   rw [if_neg (by omega)]
 rw [h1,h2]
theorem Vb (kind loc val mode:UInt8) (n:Nat) (r:RunP):Yw (Yy kind loc val mode n r)=Yw r++[⟨kind,loc,val,mode,UInt8.ofNat r.pc,UInt8.ofNat r.many⟩]:=Xbv r _
theorem Qj (x:Ins) (old val:UInt8) (n:Nat) (r:RunP):Yw (Zu x old val n r)=Yw r++[⟨1,x.loc,old,3,UInt8.ofNat r.pc,UInt8.ofNat r.many⟩,⟨2,x.loc,val,3,UInt8.ofNat r.pc,UInt8.ofNat (r.many+1)⟩]:=by
 unfold Zu
 rw [Qh,CS,Vb,Vb,VF,ZW,List.append_assoc]
 rfl
def Xbk (x:Ins) (v:UInt8) (r:RunP):List Ev:=
 if x.op=1 then [⟨1,x.loc,v,x.mode,UInt8.ofNat r.pc,UInt8.ofNat r.many⟩]
 else if x.op=2 then [⟨2,x.loc,Yc x.aR x.aN r,x.mode,UInt8.ofNat r.pc,UInt8.ofNat r.many⟩]
 else if x.op=3 then []
 else if x.op=4 then [⟨1,x.loc,v,3,UInt8.ofNat r.pc,UInt8.ofNat r.many⟩,⟨2,x.loc,Yc x.aR x.aN r,3,UInt8.ofNat r.pc,UInt8.ofNat (r.many+1)⟩]
 else if x.op=5 then [⟨1,x.loc,v,3,UInt8.ofNat r.pc,UInt8.ofNat r.many⟩,⟨2,x.loc,v+Yc x.aR x.aN r,3,UInt8.ofNat r.pc,UInt8.ofNat (r.many+1)⟩]
 else if x.op=6 then (if v ≠ Yc x.aR x.aN r then [⟨1,x.loc,v,3,UInt8.ofNat r.pc,UInt8.ofNat r.many⟩] else [⟨1,x.loc,v,3,UInt8.ofNat r.pc,UInt8.ofNat r.many⟩,⟨2,x.loc,Yc x.bR x.bN r,3,UInt8.ofNat r.pc,UInt8.ofNat (r.many+1)⟩])
 else if x.op=7 then [⟨3,0,0,x.mode,UInt8.ofNat r.pc,UInt8.ofNat r.many⟩]
 else []
theorem Qi (x:Ins) (v:UInt8) (r:RunP):Yw (X8 x v r)=Yw r++Xbk x v r:=by
 unfold X8
 rw [D7]
 unfold YX Xbk
 split
 · unfold QU;rw [Qh,Vb]
 · split
   · unfold Ge;rw [Vb]
   · split
     · unfold Z2;rw [Qh,List.append_nil]
     · split
       · unfold NP;rw [Qj]
       · split
         · unfold Vo;rw [D8,Qj]
         · split
           · unfold Nl
             split
             · rw [Qh,Vb]
             · rw [D9,Qj]
           · split
             · unfold GJ;rw [Vb]
             · unfold ZX
               split
               · rw [D7,US,List.append_nil]
               · rw [US,List.append_nil]
-- PlB
set_option maxRecDepth 100000
def wrEv (m:By) (e:Ev):By:=if e.kind=2 then put m e.loc.toNat e.val else m
def Xas (m:By) (evs:List Ev):By:=evs.foldl wrEv m
def rdL (evs:List Ev):List UInt8:=(evs.filter (fun e=>e.kind == 1)).map (fun e=>e.val)
theorem N6 (m:By) (a b:List Ev):Xas m (a++b)=Xas (Xas m a) b:=List.foldl_append
theorem Uv (a b:List Ev):rdL (a++b)=rdL a++rdL b:=by unfold rdL;rw [List.filter_append,List.map_append]
inductive Alone (m0:By) (l:List Ins):RunP→List UInt8→RunP→Prop where
 | stop {r:RunP}:l[r.pc]? = none→Alone m0 l r [] r
 | read {r z:RunP} {x:Ins} {vs:List UInt8}:l[r.pc]? = some x→XU x.op=true→Alone m0 l (X8 x (Xas m0 (Yw r) x.loc.toNat) r) vs z→Alone m0 l r (Xas m0 (Yw r) x.loc.toNat :: vs) z
 | pass {r z:RunP} {x:Ins} {vs:List UInt8}:l[r.pc]? = some x→XU x.op=false→Alone m0 l (X8 x 0 r) vs z→Alone m0 l r vs z
theorem GF {l:List Ins} {r:RunP} {x:Ins} (hx:l[r.pc]? = some x) (hr:XU x.op=false) (vs:List UInt8):goP l vs r=goP l vs (X8 x 0 r):=by
 cases vs with
 | nil=>unfold goP;rw [Zz hx hr]
 | cons v vs=>unfold goP;rw [Zz hx hr]
theorem XcE {l:List Ins} {r:RunP} {x:Ins} (hx:l[r.pc]? = some x):Y0 l r=x:=by unfold Y0;rw [hx];rfl
theorem GE {l:List Ins} {r:RunP} {x:Ins} (hx:l[r.pc]? = some x) (hr:XU x.op=true) (v:UInt8) (vs:List UInt8):goP l (v :: vs) r=goP l vs (X8 x v r):=by
 have hw:X2 l r=true:=(Wo hx).trans hr
 have e:XD l r=r:=XV (.inl hw)
 rw [CN (by rw [e];exact hw),e,XcE hx]
theorem DW {l:List Ins} {r:RunP} {x:Ins} (hx:l[r.pc]? = some x) (hr:XU x.op=true):goP l [] r = .wants:=by
 have hw:X2 l r=true:=(Wo hx).trans hr
 have e:XD l r=r:=XV (.inl hw)
 exact Qa (by rw [e];exact hw)
theorem Qb {l:List Ins} {r:RunP} (hx:l[r.pc]? = none):goP l [] r = .done r:=by
 have e:XD l r=r:=XV (.inr hx)
 rw [Mg (by rw [e];exact Ga hx),e]
theorem Alone.done {m0:By} {l:List Ins} {r z:RunP} {vs:List UInt8} (h:Alone m0 l r vs z):goP l vs r = .done z:=by
 induction h with
 | stop hx=>exact Qb hx
 | read hx hr _ ih=>rw [GE hx hr];exact ih
 | pass hx hr _ ih=>rw [GF hx hr];exact ih
theorem MS {op:UInt8} (h:XU op=true):op=1∨op=4∨op=5∨op=6:=by
 unfold XU at h
 simp only [Bool.or_eq_true,beq_iff_eq] at h
 rcases h with ((h | h) | h) | h
 · exact .inl h
 · exact .inr (.inl h)
 · exact .inr (.inr (.inl h))
 · exact .inr (.inr (.inr h))
theorem QS {x:Ins} (h:XU x.op=true) (v:UInt8) (r:RunP):∃ e rest,Xbk x v r=e :: rest∧e.kind=1∧e.loc=x.loc∧e.val=v∧(∀ e' ∈ rest,e'.kind=2∧e'.loc=x.loc):=by
 unfold Xbk
 rcases MS h with h | h | h | h
 · rw [if_pos h];exact ⟨_,_,rfl,rfl,rfl,rfl,fun _ h=>by simp at h⟩
 · rw [h];exact ⟨_,_,rfl,rfl,rfl,rfl,fun e he=>by obtain rfl:=List.mem_singleton.1 he;exact ⟨rfl,rfl⟩⟩
 · rw [h];exact ⟨_,_,rfl,rfl,rfl,rfl,fun e he=>by obtain rfl:=List.mem_singleton.1 he;exact ⟨rfl,rfl⟩⟩
 · rw [h]
   by_cases hv:v ≠ Yc x.aR x.aN r
   · exact ⟨⟨1,x.loc,v,3,UInt8.ofNat r.pc,UInt8.ofNat r.many⟩,[],if_pos hv,rfl,rfl,rfl,fun _ h=>by simp at h⟩
   · exact ⟨⟨1,x.loc,v,3,UInt8.ofNat r.pc,UInt8.ofNat r.many⟩,[⟨2,x.loc,Yc x.bR x.bN r,3,UInt8.ofNat r.pc,UInt8.ofNat (r.many+1)⟩],if_neg hv,rfl,rfl,rfl,fun e he=>by obtain rfl:=List.mem_singleton.1 he;exact ⟨rfl,rfl⟩⟩
theorem M4 {x:Ins} (h:XU x.op=false) (v:UInt8) (r:RunP):∀ e ∈ Xbk x v r,e.kind ≠ 1∧(e.loc=x.loc∨e.loc=0):=by
 have h1:x.op ≠ 1:=fun e=>by rw [e] at h;cases h
 have h4:x.op ≠ 4:=fun e=>by rw [e] at h;cases h
 have h5:x.op ≠ 5:=fun e=>by rw [e] at h;cases h
 have h6:x.op ≠ 6:=fun e=>by rw [e] at h;cases h
 intro e he
 unfold Xbk at he
 simp only [h1,h4,h5,h6,if_false] at he
 split at he
 · obtain rfl:=List.mem_singleton.1 he;exact ⟨(show (2:UInt8) ≠ 1 by decide),.inl rfl⟩
 · split at he
   · simp at he
   · split at he
     · obtain rfl:=List.mem_singleton.1 he;exact ⟨(show (3:UInt8) ≠ 1 by decide),.inr rfl⟩
     · simp at he
theorem MT {evs:List Ev} (h:∀ e ∈ evs,e.kind ≠ 1):rdL evs=[]:=by
 unfold rdL
 rw [List.filter_eq_nil_iff.2 fun e he=>by simpa using h e he]
 rfl
theorem Xa9 {x:Ins} (h:XU x.op=false) (v:UInt8) (r:RunP):rdL (Yw (X8 x v r))=rdL (Yw r):=by
 have h0:rdL (Xbk x v r)=[]:=MT fun e he=>(M4 h v r e he).1
 rw [Qi,Uv,h0,List.append_nil]
theorem Xa8 {x:Ins} (h:XU x.op=true) (v:UInt8) (r:RunP):rdL (Yw (X8 x v r))=rdL (Yw r)++[v]:=by
 obtain ⟨e,rest,he,h1,_,h3,h4⟩:=QS h v r
 have h0:rdL rest=[]:=MT fun e' he'=>by rw [(h4 e' he').1];decide
 rw [Qi,Uv,he,show e :: rest=[e]++rest from rfl,Uv,h0,List.append_nil]
 congr 1
 unfold rdL
 rw [List.filter_cons_of_pos (by simpa using h1)]
 show [e.val]=[v]
 rw [h3]
def Xal (evs:List Ev):Prop:=∀ e ∈ evs,e.loc.toNat < 6
theorem M7 {l:List Ins} {r:RunP} {x:Ins} (v:UInt8) (hl:XH 6 l=true) (hx:l[r.pc]? = some x) (h:Xal (Yw r)):Xal (Yw (X8 x v r)):=fun e he=>by
 have h6:=(Vi hl hx).loc
 rw [Qi] at he
 rcases List.mem_append.1 he with he | he
 · exact h e he
 · cases hr:XU x.op with
   | true=>
     obtain ⟨e1,rest,e2,_,h2,_,h4⟩:=QS hr v r
     rw [e2] at he
     rcases List.mem_cons.1 he with he | he
     · rw [he,h2];exact h6
     · rw [(h4 e he).2];exact h6
   | false=>
     rcases (M4 hr v r e he).2 with e1 | e1
     · rw [e1];exact h6
     · rw [e1];decide
def GoodE (m0:By) (evs:List Ev):Prop:=∀ i e,evs[i]? = some e→e.kind=1→e.val=Xas m0 (evs.take i) e.loc.toNat
theorem GoodE.append {m0:By} {a b:List Ev} (ha:GoodE m0 a) (hb:GoodE (Xas m0 a) b):GoodE m0 (a++b):=fun i e hi hk=>by
 rcases Nat.lt_or_ge i a.length with h | h
 · rw [List.getElem?_append_left h] at hi
   rw [List.take_append_of_le_length (by omega)]
   exact ha i e hi hk
 · rw [List.getElem?_append_right h] at hi
   rw [List.take_append,List.take_of_length_le h,N6]
   exact hb _ e hi hk
theorem Alone.loc {m0:By} {l:List Ins} {r z:RunP} {vs:List UInt8} (hl:XH 6 l=true) (h:Alone m0 l r vs z):Xal (Yw r)→Xal (Yw z):=by
 induction h with
 | stop hx=>exact id
 | read hx hr _ ih=>intro hg;exact ih (M7 _ hl hx hg)
 | pass hx hr _ ih=>intro hg;exact ih (M7 _ hl hx hg)
theorem Alone.len {m0:By} {l:List Ins} {r z:RunP} {vs:List UInt8} (h:Alone m0 l r vs z):vs.length≤l.length - r.pc:=by
 induction h with
 | stop hx=>simp
 | @read r z x vs hx hr _ ih=>
   have:=(List.getElem?_eq_some_iff.1 hx).1
   have:=Y2 x (Xas m0 (Yw r) x.loc.toNat) r
   rw [List.length_cons];omega
 | @pass r z x vs hx hr _ ih=>
   have:=Y2 x 0 r
   omega
end Go.Proofs.YtagnefpgidbhnaaGreatDoor
