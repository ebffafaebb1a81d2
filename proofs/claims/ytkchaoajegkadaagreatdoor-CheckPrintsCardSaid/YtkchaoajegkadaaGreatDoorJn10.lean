/-
  WALK2. Package parse: Deep. Conditions: the condition lies in memory.
-/
import Derived.Test.YtkchaoajegkadaaGreatDoorJn6
import Derived.Test.YtkchaoajegkadaaGreatDoorJn9
set_option linter.unusedSimpArgs false
set_option linter.unusedVariables false
namespace Go.Proofs.YtkchaoajegkadaaGreatDoor
-- PrO
open Go.RowKit
set_option maxRecDepth 100000
set_option maxHeartbeats 2000000 in
theorem pdeep_any (h:Nat):∀ (cs:List Value) (c:Cnd) (w0:World),CondAt w0 h cs c→depC c≤9223372036854775807 →
   Calls Tryz.prog 58 #[.agg cs.toArray] w0 fun e w'=>e = .returned (.int .i64 ((depC c:Nat):Int))∧Below w0.heap.size w0 w':=by
 induction h with
 | zero=>intro cs c w0 hC;exact hC.elim
 | succ h ih=>
   intro cs c w0 hC hd
   obtain ⟨k,t,n,v,kids⟩:=c
   obtain ⟨A,C,rfl,hkl,hK⟩:=hC
   rw [depC] at hd
   have H:=Own.start w0 none
   refine enterF Tryz.func58 rfl Tryz.ntmps58 rfl (fun a F=>?_);refine cSR fun K1 hK1=>?_;refine sBx H F rfl rfl rfl ?_;clear F a H;intro b1 a w F H;refine sAs F rfl rfl rfl (qNK hK1 (qSR fun K2 hK2=>qAs rfl rfl rfl (qNK hK2 ?_)));clear hK1 hK2;clear F a;intro a F;refine cSeq (fun K3 hK3=>?_);refine cSR fun K4 hK4=>sFa (f:=4) (k:=4) Tryz.underlying27 rfl Tryz.sizeOf25 rfl rfl F rfl rfl rfl (qLd Tryz.isAgg25 rfl rfl rfl (H.cell 0 rfl rfl) (qLen Tryz.underlying25 rfl rfl rfl (qMv rfl rfl rfl (qNK hK4 ?_))));clear hK4;clear F a;intro a F;refine wp_block ?_
   refine cLoopR [7,8] (fun m ups w=>∃ j d:Nat,m=kids.length - j∧ups=[(3,.int .i64 ((d:Nat):Int)),(9,.int .i64 ((j:Nat):Int))]∧j≤kids.length∧max d (depC.depL (kids.drop j))=depC.depL kids∧Own w0 none w [.blk b1 [Go.Proofs.YtkchaoajegkadaaGreatDoor.b8 k,Go.Proofs.YtkchaoajegkadaaGreatDoor.b8 t,Go.Proofs.YtkchaoajegkadaaGreatDoor.b8 n,Go.Proofs.YtkchaoajegkadaaGreatDoor.b8 v,.slice A kids.length C] 27]) F (kids.length) [(3,.int .i64 ((0:Nat):Int)),(9,.int .i64 ((0:Nat):Int))] (by repeat (first | exact SubR.nil | (apply SubR.cons;· rfl))) ?_ ?_ ?_
   · exact ⟨0,0,rfl,rfl,by omega,by simp,H⟩
   · repeat (first | exact trivial | refine Le.cons rfl ?_)
   clear F
   clear H
   intro m ups a w hI F
   obtain ⟨j,d,rfl,rfl,hj,ht,H⟩:=hI
   refine cSR fun K5 hK5=>sBin F rfl rfl rfl rfl bLss (qNK hK5 ?_);clear hK5;clear F a;intro a F;refine cSeq (fun K6 hK6=>?_)
   refine cIf F rfl (fun h10=>?_) (fun h10=>?_)
   ·
    replace h10:=of_decide_eq_true h10
    have hjl:j < kids.length:=by omega
    obtain ⟨kid,hx⟩:∃ x,kids[j]? = some x:=⟨_,List.getElem?_eq_getElem hjl⟩
    have hdr:kids.drop j=kid :: kids.drop (j+1):=by
      obtain ⟨_,rfl⟩:=List.getElem?_eq_some_iff.1 hx
      exact List.drop_eq_getElem_cons hjl
    rw [hdr,depC.depL] at ht
    obtain ⟨b',off',cs',rfl,hR',hC'⟩:=hK j kid hx
    obtain ⟨k0,k1,k2,k3,A0,m0,C0,rfl⟩:=condShape hC'
    refine wp_skip (hK6 _ _ ?_);clear hK6;refine cSeq (fun K7 hK7=>?_);refine wp_block ?_;refine cSR fun K8 hK8=>?_
    refine sIx Tryz.underlying25 Tryz.sizeOf27 F rfl rfl rfl rfl ?_ ?_
    focus (first | omega | decide | (simp;omega))
    clear F a;intro a F
    refine sLr Tryz.underlying27 rfl ?si F rfl rfl rfl (H.argR hR') ?_
    case si=>exact info_size Tryz.sizeOf27
    clear F a;intro a F;refine sAl H Tryz.zeroValue27 F rfl rfl ?_;clear F a H;intro b5 a w F H
    refine sSr H 0 ?si F rfl rfl rfl ?s1 rfl rfl ?_
    case si=>exact info_size Tryz.sizeOf27
    case s1=>first | rfl | (repeat (first | exact one_nil | (apply one_cons;· first | rfl | assumption | exact one_bif rfl rfl)))
    clear H;intro w H;refine nK hK8 (cReg (sMv F rfl rfl rfl ?_));clear hK8;clear F a;intro a F
    refine sLr Tryz.underlying27 rfl ?si F rfl rfl rfl (H.whole 0 rfl) ?_
    case si=>exact info_size Tryz.sizeOf27
    clear F a;intro a F;refine sCall Tryz.call58 F rfl rfl rfl (ih _ kid _ (CondAt.grown H.grown rfl _ _ _ hC') (by omega)) ?_;rintro e w ⟨rfl,hb⟩;replace H:=H.grow hb;clear hb;refine ⟨_,rfl,?_⟩;clear F a;intro a F;refine sMaxN F rfl rfl rfl rfl (qAs rfl rfl rfl (qNK hK7 (qReg ?_)));clear hK7;clear F a;intro a F
    refine sBin F rfl rfl rfl rfl (bAddN (j:=1) ?_) ?_
    focus omega
    clear F a;intro a F;refine sMv F rfl rfl rfl ?_;clear F a;intro a F;refine sNil ?_
    exact ⟨_,by omega,_,⟨j+1,max d (depC kid),rfl,rfl,by omega,by rw [← ht,Nat.max_assoc],H.tail⟩,F.to (by repeat (first | exact trivial | refine Le.cons rfl ?_))⟩
   replace h10:=of_decide_eq_false h10;rw [List.drop_eq_nil_of_le (by omega)] at ht
   have hd2:d=depC.depL kids:=by rw [← ht];simp [depC.depL]
   subst hd2;refine wp_exit ?_;refine hK3 _ _ (cSR fun K9 hK9=>sMv F rfl rfl rfl ?_);clear hK3;clear F a;intro a F
   refine sBin F rfl rfl rfl rfl (bAddN (j:=1) ?_) ?_
   focus omega
   clear F a;intro a F;refine sAs F rfl rfl rfl (qNK hK9 ?_);clear hK9;clear F a;intro a F;refine wp_ret ?_;refine bRet Tryz.results58 F rfl ?_
   exact ⟨rfl,H.below⟩
-- PrRX
open Go.Proofs.Tryz
open Go.RowKit
set_option maxRecDepth 100000
theorem eq_nat {a b:Nat}:(((a:Int) == (b:Int))=true ↔ a=b)∧(((a:Int) == (b:Int))=false ↔ a ≠ b):=by
 refine ⟨?_,?_⟩
 · rw [beq_iff_eq];omega
 · rw [beq_eq_false_iff_ne];omega
theorem no_text {w:ByteArray}:(!(w.toList == (⟨#[]⟩:ByteArray).toList)) = !decide (w.toList=[]):=by
 rw [show (⟨#[]⟩:ByteArray).toList=[] from lit_toList []]
 cases w.toList <;> rfl
theorem ptest_any {W w0:World} {rs:List Res} {c:PX} (hc:c.Ok) {A:Option Addr} {C bp:Nat} {S:Nat→Prop} {s:PS} {B:Option Addr} {D:Nat} (q:QL) {L I T K a1 a2 a3 a4 a5 qy:Value} (hp:s.pos≤999000) (H:Own W none w0 (.blk bp (parC c A C s B D [.string q.name,L,I,T,K,a1,a2,a3,a4,a5,.int .i64 (q.wh:Int),qy]) 66 :: .held S A 3 (rowsT c.ts) :: .nms W c.fixed B D s.names :: rs)) :
   Calls Tryz.prog 96 #[.pointer (some ⟨bp,0,none⟩)] w0 fun e w'=>Ans W rs (testL c q s) (fun v t e w'=>e = .returned (.tuple #[])∧v = { q with name:=v.name,wh:=v.wh }∧Own W none w' (.blk bp (parC c A C t B D [.string v.name,L,I,T,K,a1,a2,a3,a4,a5,.int .i64 (v.wh:Int),qy]) 66 :: .held S A 3 (rowsT c.ts) :: .nms W c.fixed B D t.names :: rs)) e w':=by
 refine enterF func96 rfl ntmps96 rfl (fun a F=>?_);refine cSR fun K1 hK1=>sMv F rfl rfl rfl (qMv rfl rfl rfl (qNc rfl rfl rfl (qFa (f:=4) (k:=15) underlying66 rfl sizeOf3 rfl rfl rfl rfl rfl (qLd isAgg3 rfl rfl rfl (H.cell 0 rfl rfl) (qBin rfl rfl rfl rfl bEql ?_)))));clear F a;intro a F;refine sCallP call64 F rfl rfl rfl (pneed_any _ hc (s:=s) (by (try simp only [PS.next]);omega) H) ?_;rintro e w hq9
 rcases hq9.cases with ⟨p9,e9,hn8,rfl,H⟩ | ⟨v8,t8,hr8,rfl,H⟩
 ·
  refine .inl ⟨_,rfl,?_⟩
  exact And.intro F.nod (Ans.no (by obtain ⟨h1,rfl,rfl⟩:=need_no hn8;unfold testL;rw [if_neg ((eq_nat (b:=0)).2.1 h1)];rfl) H.tail)
 obtain ⟨hk,rfl⟩:=need_ok hr8;have hw:q.wh=0:=(eq_nat (b:=0)).1.1 hk
 refine .inr ⟨_,rfl,?_⟩
 clear F a;intro a F;refine nK hK1 (cSR fun K2 hK2=>sMv F rfl rfl rfl (qNc rfl rfl rfl (qFa (f:=0) (k:=0) underlying66 rfl sizeOf64 rfl rfl rfl rfl rfl ?_)));clear hK1;clear F a;intro a F;refine sCall call102 F rfl rfl rfl (pstep_any hc (by (try simp only [PS.next]);omega) H) ?_;rintro e w ⟨rfl,H⟩;refine ⟨_,rfl,?_⟩;clear F a;intro a F;refine nK hK2 (cSR fun K3 hK3=>sMv F rfl rfl rfl (qMv rfl rfl rfl (qNc rfl rfl rfl (qFa (f:=0) (k:=0) underlying66 rfl sizeOf64 rfl rfl rfl rfl rfl ?_))));clear hK2;clear F a;intro a F;refine sCall call54 F rfl rfl rfl (pword_any hc (by (try simp only [PS.next]);omega) H) ?_;rintro e w ⟨rfl,H⟩;refine ⟨_,rfl,?_⟩;clear F a;intro a F;refine sBin F rfl rfl rfl rfl bStrNe ?_;clear F a;intro a F;refine sCallP call64 F rfl rfl rfl (pneed_any _ hc (s:=s.next) (by (try simp only [PS.next]);omega) H) ?_;rintro e w hq9
 rcases hq9.cases with ⟨p9,e9,hn19,rfl,H⟩ | ⟨v19,t19,hr19,rfl,H⟩
 ·
  refine .inl ⟨_,rfl,?_⟩
  exact And.intro F.nod (Ans.no (by obtain ⟨h1,rfl,rfl⟩:=need_no hn19;rw [no_text] at h1;unfold testL;rw [if_pos hw,if_pos (by simpa using h1)];rfl) H.tail)
 obtain ⟨hk2,rfl⟩:=need_ok hr19;rw [no_text] at hk2;have hne:¬ (c.word s.next.pos).toList=[]:=by simpa using hk2
 refine .inr ⟨_,rfl,?_⟩
 clear F a;intro a F;refine nK hK3 (cSR fun K4 hK4=>sMv F rfl rfl rfl (qMv rfl rfl rfl (qNc rfl rfl rfl (qFa (f:=0) (k:=0) underlying66 rfl sizeOf64 rfl rfl rfl rfl rfl ?_))));clear hK3;clear F a;intro a F;refine sCall call54 F rfl rfl rfl (pword_any hc (by (try simp only [PS.next]);omega) H) ?_;rintro e w ⟨rfl,H⟩;refine ⟨_,rfl,?_⟩;clear F a;intro a F;refine sNc F rfl rfl rfl (qFa (f:=3) (k:=5) underlying66 rfl sizeOf29 rfl rfl rfl rfl rfl (qFa (f:=0) (k:=5) underlying29 rfl sizeOf9 rfl rfl rfl rfl rfl ?_));clear F a;intro a F;refine sSt H 0 sizeOf9 F rfl rfl rfl rfl rfl rfl ?_;clear H;intro w H;refine nK hK4 (cSR fun K5 hK5=>sMv F rfl rfl rfl (qNc rfl rfl rfl (qFa (f:=0) (k:=0) underlying66 rfl sizeOf64 rfl rfl rfl rfl rfl ?_)));clear hK4;clear F a;intro a F;refine sCall call102 F rfl rfl rfl (pstep_any (s:=s.next) hc (by (try simp only [PS.next]);omega) H) ?_;rintro e w ⟨rfl,H⟩;refine ⟨_,rfl,?_⟩;clear F a;intro a F;refine nK hK5 (cReg (sMv F rfl rfl rfl (qNc rfl rfl rfl (qFa (f:=4) (k:=15) underlying66 rfl sizeOf3 rfl rfl rfl rfl rfl ?_))));clear hK5;clear F a;intro a F;refine sSt H 0 sizeOf3 F rfl rfl rfl rfl rfl rfl ?_;clear H;intro w H;refine sNil ?_
 first | refine bEnd results96 F ?_ | (simp only [Exit.then,Exit.inBlock,if_true];(repeat (first | rw [if_pos rfl] | rw [if_neg (by decide)]));refine bEnd results96 F ?_)
 exact Ans.ok (v:={ q with name:=c.word s.next.pos,wh:=1 }) (by unfold testL;rw [if_pos hw,if_neg hne]) ⟨rfl,rfl,H⟩
end Go.Proofs.YtkchaoajegkadaaGreatDoor
namespace Go.Proofs.YtkchaoajegkadaaGreatDoor
open Go.Proofs.Tryz
open Go.RowKit
set_option maxRecDepth 100000
def AskW (c:PX) (i:Nat) (k:UInt8):Prop:=k=1∧c.kw i [115,111,109,101]=true∨k=2∧c.kw i [110,111,110,101]=true∨k=3∧c.kw i [97,108,108]=true
theorem kw_text {c:PX} {i:Nat} {l:List UInt8} (h:c.kw i l=true):(c.word i).toList=l:=eq_of_beq h
set_option maxHeartbeats 4000000 in
theorem pask_any (k:UInt8) {W w0:World} {rs:List Res} {c:PX} (hc:c.Ok) (hm:c.ts.length≤900000) {A:Option Addr} {C bp:Nat} {S:Nat→Prop} {s:PS} {B:Option Addr} {D:Nat} (q:QL) {L I K aq a1 a2 a3 a4 a5 qy:Value} (hp:s.pos < c.ts.length) (hnl:s.names.length≤c.lim) (H:Own W none w0 (.blk bp (parC c A C s B D [.string q.name,L,I,K,aq,a1,a2,a3,a4,a5,.int .i64 (q.wh:Int),qy]) 66 :: .held S A 3 (rowsT c.ts) :: .nms W c.fixed B D s.names :: rs)) (hk:AskW c s.pos k) :
   Calls Tryz.prog 99 #[.pointer (some ⟨bp,0,none⟩)] w0 fun e w'=>Ans W rs (askL c k q s) (fun v t e w'=>e = .returned (.tuple #[])∧v = { q with ask:=v.ask,cond:=v.cond,wh:=v.wh,query:=v.query }∧∃ T h b1 b2 b3 b4 b5 B D,h≤2000000∧Own W none w' (.tree T h [b1,b2,b3,b4,b5] v.cond :: .blk bp (parC c A C t B D [.string v.name,L,I,K,b8 v.ask,b1,b2,b3,b4,b5,.int .i64 (v.wh:Int),.int .i64 (v.query:Int)]) 66 :: .held S A 3 (rowsT c.ts) :: .nms W c.fixed B D t.names :: rs)) e w':=by
 refine enterF func99 rfl ntmps99 rfl (fun a F=>?_);refine cSR fun K1 hK1=>sMv F rfl rfl rfl (qMv rfl rfl rfl (qNc rfl rfl rfl (qFa (f:=4) (k:=15) underlying66 rfl sizeOf3 rfl rfl rfl rfl rfl (qLd isAgg3 rfl rfl rfl (H.cell 0 rfl rfl) (qBin rfl rfl rfl rfl bEql ?_)))));clear F a;intro a F;refine sCallP call64 F rfl rfl rfl (pneed_any _ hc (s:=s) (by (try simp only [PS.next]);omega) H) ?_;rintro e w hq9
 rcases hq9.cases with ⟨p9,e9,hn8,rfl,H⟩ | ⟨v8,t8,hr8,rfl,H⟩
 ·
  refine .inl ⟨_,rfl,?_⟩
  exact And.intro F.nod (Ans.no (by obtain ⟨h1,rfl,rfl⟩:=need_no hn8;unfold askL;rw [if_neg ((eq_nat (b:=3)).2.1 h1)];rfl) H.tail)
 obtain ⟨hk0,rfl⟩:=need_ok hr8;have hw:q.wh=3:=(eq_nat (b:=3)).1.1 hk0
 refine .inr ⟨_,rfl,?_⟩
 clear F a;intro a F;refine nK hK1 (cSR fun K2 hK2=>sMv F rfl rfl rfl (qMv rfl rfl rfl (qNc rfl rfl rfl (qFa (f:=0) (k:=0) underlying66 rfl sizeOf64 rfl rfl rfl rfl rfl ?_))));clear hK1;clear F a;intro a F;refine sCall call52 F rfl rfl rfl (pplace_any hc (by (try simp only [PS.next]);omega) H) ?_;rintro e w ⟨rfl,H⟩;refine ⟨_,rfl,?_⟩;clear F a;intro a F;refine sNc F rfl rfl rfl (qFa (f:=5) (k:=16) underlying66 rfl sizeOf3 rfl rfl rfl rfl rfl ?_);clear F a;intro a F;refine sSt H 0 sizeOf3 F rfl rfl rfl rfl rfl rfl ?_;clear H;intro w H;refine nK hK2 ?_;clear hK2;refine cSeq (fun K3 hK3=>?_);refine cSR fun K4 hK4=>sMv F rfl rfl rfl (qNc rfl rfl rfl (qFa (f:=0) (k:=0) underlying66 rfl sizeOf64 rfl rfl rfl rfl rfl ?_));clear F a;intro a F;refine sCall call54 F rfl rfl rfl (pword_any (s:=s) hc (by (try simp only [PS.next]);omega) H) ?_;rintro e w ⟨rfl,H⟩;refine ⟨_,rfl,?_⟩;clear F a;intro a F;refine nK hK4 ?_;clear hK4;refine wp_block ?_;refine cSR fun K5 hK5=>sBin F rfl rfl rfl rfl bStrEq (qAs rfl rfl rfl (qNK hK5 ?_));clear hK5;clear F a;intro a F
 refine cIf F rfl (fun h20=>?_) (fun h20=>?_)
 ·
  replace h20:=beqT h20
  have h20:=h20.trans (lit_toList [115,111,109,101])
  obtain rfl:k=1:=by
    rcases hk with ⟨h,_⟩ | ⟨_,h⟩ | ⟨_,h⟩
    · exact h
    · rw [kw_text h] at h20;exact absurd h20 (by decide)
    · rw [kw_text h] at h20;exact absurd h20 (by decide)
  refine cReg (sMv F rfl rfl rfl (qNc rfl rfl rfl (qFa (f:=3) (k:=5) underlying66 rfl sizeOf29 rfl rfl rfl rfl rfl (qFa (f:=4) (k:=9) underlying29 rfl sizeOf5 rfl rfl rfl rfl rfl ?_))));clear F a;intro a F;refine sSt H 0 sizeOf5 F rfl rfl rfl rfl rfl rfl ?_;clear H;intro w H;refine nK hK3 (cSR fun K6 hK6=>sMv F rfl rfl rfl (qNc rfl rfl rfl (qFa (f:=0) (k:=0) underlying66 rfl sizeOf64 rfl rfl rfl rfl rfl ?_)));clear hK3;clear F a;intro a F;refine sCall call102 F rfl rfl rfl (pstep_any (s:=s) hc (by (try simp only [PS.next]);omega) H) ?_;rintro e w ⟨rfl,H⟩;refine ⟨_,rfl,?_⟩;clear F a;intro a F;refine nK hK6 (cSR fun K7 hK7=>sMv F rfl rfl rfl (qMv rfl rfl rfl ?_));clear hK6;clear F a;intro a F;refine sCallP call69 F rfl rfl rfl (pcond_any (s:=s.next) (n:=c.ts.length+1) hc hm hp hnl (by show c.ts.length < s.pos+1+(c.ts.length+1);omega) H) ?_;rintro e w hq9
  rcases hq9.cases with ⟨p9,e9,hn44,rfl,H⟩ | ⟨v44,t44,hr44,cs44,T44,rfl,B44,D44,H⟩
  ·
   refine .inl ⟨_,rfl,?_⟩
   exact And.intro F.nod (Ans.no (by unfold askL;rw [if_pos hw,hn44];rfl) H)
  obtain ⟨k0,t0,n0,v0,A0,m0,C0,rfl⟩:=condShape (H.pred 0 _ rfl:TreeIn T44 _ _ cs44 v44).at
  refine .inr ⟨_,rfl,?_⟩
  clear F a;intro a F;refine sNc F rfl rfl rfl (qFa (f:=3) (k:=5) underlying66 rfl sizeOf29 rfl rfl rfl rfl rfl (qFa (f:=5) (k:=10) underlying29 rfl sizeOf27 rfl rfl rfl rfl rfl ?_));clear F a;intro a F
  refine sSr H 1 ?si F rfl rfl rfl ?s1 rfl rfl ?_
  case si=>exact info_size sizeOf27
  case s1=>first | rfl | (repeat (first | exact one_nil | (apply one_cons;· first | rfl | assumption | exact one_bif rfl rfl)))
  clear H;intro w H;refine nK hK7 (cReg (sMv F rfl rfl rfl (qNc rfl rfl rfl (qFa (f:=4) (k:=15) underlying66 rfl sizeOf3 rfl rfl rfl rfl rfl ?_))));clear hK7;clear F a;intro a F;refine sSt H 1 sizeOf3 F rfl rfl rfl rfl rfl rfl ?_;clear H;intro w H;refine sNil ?_
  first | refine bEnd results99 F ?_ | (simp only [Exit.then,Exit.inBlock,if_true];(repeat (first | rw [if_pos rfl] | rw [if_neg (by decide)]));refine bEnd results99 F ?_)
  first | exact Ans.ok (v:={ q with ask:=1,cond:=v44,wh:=4,query:=c.place s.pos }) (by unfold askL;rw [if_pos hw,hr44];rfl) ⟨rfl,rfl,_,_,_,_,_,_,_,_,_,by omega,H⟩ | exact Ans.ok (v:={ q with ask:=2,cond:=v44,wh:=4,query:=c.place s.pos }) (by unfold askL;rw [if_pos hw,hr44];rfl) ⟨rfl,rfl,_,_,_,_,_,_,_,_,_,by omega,H⟩ | exact Ans.ok (v:={ q with ask:=3,cond:=v44,wh:=4,query:=c.place s.pos }) (by unfold askL;rw [if_pos hw,hr44];rfl) ⟨rfl,rfl,_,_,_,_,_,_,_,_,_,by omega,H⟩
 replace h20:=beqF h20;refine cSR fun K8 hK8=>sBin F rfl rfl rfl rfl bStrEq (qAs rfl rfl rfl (qNK hK8 ?_));clear hK8;clear F a;intro a F
 refine cIf F rfl (fun h26=>?_) (fun h26=>?_)
 ·
  replace h26:=beqT h26
  have h26:=h26.trans (lit_toList [110,111,110,101])
  obtain rfl:k=2:=by
    rcases hk with ⟨_,h⟩ | ⟨h,_⟩ | ⟨_,h⟩
    · rw [kw_text h] at h26;exact absurd h26 (by decide)
    · exact h
    · rw [kw_text h] at h26;exact absurd h26 (by decide)
  refine cReg (sMv F rfl rfl rfl (qNc rfl rfl rfl (qFa (f:=3) (k:=5) underlying66 rfl sizeOf29 rfl rfl rfl rfl rfl (qFa (f:=4) (k:=9) underlying29 rfl sizeOf5 rfl rfl rfl rfl rfl ?_))));clear F a;intro a F;refine sSt H 0 sizeOf5 F rfl rfl rfl rfl rfl rfl ?_;clear H;intro w H;refine nK hK3 (cSR fun K9 hK9=>sMv F rfl rfl rfl (qNc rfl rfl rfl (qFa (f:=0) (k:=0) underlying66 rfl sizeOf64 rfl rfl rfl rfl rfl ?_)));clear hK3;clear F a;intro a F;refine sCall call102 F rfl rfl rfl (pstep_any (s:=s) hc (by (try simp only [PS.next]);omega) H) ?_;rintro e w ⟨rfl,H⟩;refine ⟨_,rfl,?_⟩;clear F a;intro a F;refine nK hK9 (cSR fun K10 hK10=>sMv F rfl rfl rfl (qMv rfl rfl rfl ?_));clear hK9;clear F a;intro a F;refine sCallP call69 F rfl rfl rfl (pcond_any (s:=s.next) (n:=c.ts.length+1) hc hm hp hnl (by show c.ts.length < s.pos+1+(c.ts.length+1);omega) H) ?_;rintro e w hq9
  rcases hq9.cases with ⟨p9,e9,hn44,rfl,H⟩ | ⟨v44,t44,hr44,cs44,T44,rfl,B44,D44,H⟩
  ·
   refine .inl ⟨_,rfl,?_⟩
   exact And.intro F.nod (Ans.no (by unfold askL;rw [if_pos hw,hn44];rfl) H)
  obtain ⟨k0,t0,n0,v0,A0,m0,C0,rfl⟩:=condShape (H.pred 0 _ rfl:TreeIn T44 _ _ cs44 v44).at
  refine .inr ⟨_,rfl,?_⟩
  clear F a;intro a F;refine sNc F rfl rfl rfl (qFa (f:=3) (k:=5) underlying66 rfl sizeOf29 rfl rfl rfl rfl rfl (qFa (f:=5) (k:=10) underlying29 rfl sizeOf27 rfl rfl rfl rfl rfl ?_));clear F a;intro a F
  refine sSr H 1 ?si F rfl rfl rfl ?s1 rfl rfl ?_
  case si=>exact info_size sizeOf27
  case s1=>first | rfl | (repeat (first | exact one_nil | (apply one_cons;· first | rfl | assumption | exact one_bif rfl rfl)))
  clear H;intro w H;refine nK hK10 (cReg (sMv F rfl rfl rfl (qNc rfl rfl rfl (qFa (f:=4) (k:=15) underlying66 rfl sizeOf3 rfl rfl rfl rfl rfl ?_))));clear hK10;clear F a;intro a F;refine sSt H 1 sizeOf3 F rfl rfl rfl rfl rfl rfl ?_;clear H;intro w H;refine sNil ?_
  first | refine bEnd results99 F ?_ | (simp only [Exit.then,Exit.inBlock,if_true];(repeat (first | rw [if_pos rfl] | rw [if_neg (by decide)]));refine bEnd results99 F ?_)
  first | exact Ans.ok (v:={ q with ask:=1,cond:=v44,wh:=4,query:=c.place s.pos }) (by unfold askL;rw [if_pos hw,hr44];rfl) ⟨rfl,rfl,_,_,_,_,_,_,_,_,_,by omega,H⟩ | exact Ans.ok (v:={ q with ask:=2,cond:=v44,wh:=4,query:=c.place s.pos }) (by unfold askL;rw [if_pos hw,hr44];rfl) ⟨rfl,rfl,_,_,_,_,_,_,_,_,_,by omega,H⟩ | exact Ans.ok (v:={ q with ask:=3,cond:=v44,wh:=4,query:=c.place s.pos }) (by unfold askL;rw [if_pos hw,hr44];rfl) ⟨rfl,rfl,_,_,_,_,_,_,_,_,_,by omega,H⟩
 replace h26:=beqF h26;refine cSR fun K11 hK11=>sBin F rfl rfl rfl rfl bStrEq (qAs rfl rfl rfl (qNK hK11 ?_));clear hK11;clear F a;intro a F
 refine cIf F rfl (fun h32=>?_) (fun h32=>?_)
 ·
  replace h32:=beqT h32
  have h32:=h32.trans (lit_toList [97,108,108])
  obtain rfl:k=3:=by
    rcases hk with ⟨_,h⟩ | ⟨_,h⟩ | ⟨h,_⟩
    · rw [kw_text h] at h32;exact absurd h32 (by decide)
    · rw [kw_text h] at h32;exact absurd h32 (by decide)
    · exact h
  refine cReg (sMv F rfl rfl rfl (qNc rfl rfl rfl (qFa (f:=3) (k:=5) underlying66 rfl sizeOf29 rfl rfl rfl rfl rfl (qFa (f:=4) (k:=9) underlying29 rfl sizeOf5 rfl rfl rfl rfl rfl ?_))));clear F a;intro a F;refine sSt H 0 sizeOf5 F rfl rfl rfl rfl rfl rfl ?_;clear H;intro w H;refine nK hK3 (cSR fun K12 hK12=>sMv F rfl rfl rfl (qNc rfl rfl rfl (qFa (f:=0) (k:=0) underlying66 rfl sizeOf64 rfl rfl rfl rfl rfl ?_)));clear hK3;clear F a;intro a F;refine sCall call102 F rfl rfl rfl (pstep_any (s:=s) hc (by (try simp only [PS.next]);omega) H) ?_;rintro e w ⟨rfl,H⟩;refine ⟨_,rfl,?_⟩;clear F a;intro a F;refine nK hK12 (cSR fun K13 hK13=>sMv F rfl rfl rfl (qMv rfl rfl rfl ?_));clear hK12;clear F a;intro a F;refine sCallP call69 F rfl rfl rfl (pcond_any (s:=s.next) (n:=c.ts.length+1) hc hm hp hnl (by show c.ts.length < s.pos+1+(c.ts.length+1);omega) H) ?_;rintro e w hq9
  rcases hq9.cases with ⟨p9,e9,hn44,rfl,H⟩ | ⟨v44,t44,hr44,cs44,T44,rfl,B44,D44,H⟩
  ·
   refine .inl ⟨_,rfl,?_⟩
   exact And.intro F.nod (Ans.no (by unfold askL;rw [if_pos hw,hn44];rfl) H)
  obtain ⟨k0,t0,n0,v0,A0,m0,C0,rfl⟩:=condShape (H.pred 0 _ rfl:TreeIn T44 _ _ cs44 v44).at
  refine .inr ⟨_,rfl,?_⟩
  clear F a;intro a F;refine sNc F rfl rfl rfl (qFa (f:=3) (k:=5) underlying66 rfl sizeOf29 rfl rfl rfl rfl rfl (qFa (f:=5) (k:=10) underlying29 rfl sizeOf27 rfl rfl rfl rfl rfl ?_));clear F a;intro a F
  refine sSr H 1 ?si F rfl rfl rfl ?s1 rfl rfl ?_
  case si=>exact info_size sizeOf27
  case s1=>first | rfl | (repeat (first | exact one_nil | (apply one_cons;· first | rfl | assumption | exact one_bif rfl rfl)))
  clear H;intro w H;refine nK hK13 (cReg (sMv F rfl rfl rfl (qNc rfl rfl rfl (qFa (f:=4) (k:=15) underlying66 rfl sizeOf3 rfl rfl rfl rfl rfl ?_))));clear hK13;clear F a;intro a F;refine sSt H 1 sizeOf3 F rfl rfl rfl rfl rfl rfl ?_;clear H;intro w H;refine sNil ?_
  first | refine bEnd results99 F ?_ | (simp only [Exit.then,Exit.inBlock,if_true];(repeat (first | rw [if_pos rfl] | rw [if_neg (by decide)]));refine bEnd results99 F ?_)
  first | exact Ans.ok (v:={ q with ask:=1,cond:=v44,wh:=4,query:=c.place s.pos }) (by unfold askL;rw [if_pos hw,hr44];rfl) ⟨rfl,rfl,_,_,_,_,_,_,_,_,_,by omega,H⟩ | exact Ans.ok (v:={ q with ask:=2,cond:=v44,wh:=4,query:=c.place s.pos }) (by unfold askL;rw [if_pos hw,hr44];rfl) ⟨rfl,rfl,_,_,_,_,_,_,_,_,_,by omega,H⟩ | exact Ans.ok (v:={ q with ask:=3,cond:=v44,wh:=4,query:=c.place s.pos }) (by unfold askL;rw [if_pos hw,hr44];rfl) ⟨rfl,rfl,_,_,_,_,_,_,_,_,_,by omega,H⟩
 replace h32:=beqF h32
 rcases hk with ⟨_,h⟩ | ⟨_,h⟩ | ⟨_,h⟩
 · exact (h20 ((kw_text h).trans (lit_toList [115,111,109,101]).symm)).elim
 · exact (h26 ((kw_text h).trans (lit_toList [110,111,110,101]).symm)).elim
 · exact (h32 ((kw_text h).trans (lit_toList [97,108,108]).symm)).elim
end Go.Proofs.YtkchaoajegkadaaGreatDoor
namespace Go.Proofs.YtkchaoajegkadaaGreatDoor
open Go.Proofs.Tryz
open Go.RowKit
set_option maxRecDepth 100000
theorem pins_any (k:Nat) {W w0:World} {rs:List Res} {c:PX} (hc:c.Ok) {A:Option Addr} {C bp:Nat} {S:Nat→Prop} {s:PS} {B:Option Addr} {D:Nat} {X:List Value} (hp:s.pos≤998000) (hnl:s.names.length≤c.lim) (H:Own W none w0 (.blk bp (parC c A C s B D X) 66 :: .held S A 3 (rowsT c.ts) :: .nms W c.fixed B D s.names :: rs)) :
   CallsF Tryz.prog (insF k) [.pointer (some ⟨bp,0,none⟩)] w0 (fun e w'=>Ans W rs (insP c k s) (fun v t e w'=>e = .returned (.agg v.cells.toArray)∧∃ B D,Own W none w' (.blk bp (parC c A C t B D X) 66 :: .held S A 3 (rowsT c.ts) :: .nms W c.fixed B D t.names :: rs)) e w'):=by
 unfold insF insP
 by_cases h0:k=0
 · rw [if_pos h0,if_pos h0]
   exact ⟨_,[],[],rfl,call136,pfence_any hc (by omega) hnl H⟩
 rw [if_neg h0,if_neg h0]
 by_cases h1:k=1
 · rw [if_pos h1,if_pos h1]
   exact ⟨_,[],[],rfl,call137,pskip_any hc (by omega) hnl H⟩
 rw [if_neg h1,if_neg h1]
 by_cases h2:k=2
 · rw [if_pos h2,if_pos h2]
   exact ⟨_,[],[],rfl,call117,passign_any hc (by omega) hnl H⟩
 rw [if_neg h2,if_neg h2]
 exact ⟨_,[],[],rfl,call118,pstore_any hc (by omega) hnl H⟩
-- PrV
open Go.Proofs.Tryz
open Go.RowKit
set_option maxRecDepth 100000
def iniC (l:List UInt8):List (List Value):=l.map fun x=>[b8 x]
theorem iniC_snoc (l:List UInt8) (v:UInt8):iniC l++[[b8 v]]=iniC (l++[v]):=by simp [iniC]
theorem iniC_length (l:List UInt8):(iniC l).length=l.length:=by simp [iniC]
section
variable {c:PX} {f:Nat} {q:QL} {s:PS}
theorem init_twice {k:Nat} (h:idxOf (c.word s.pos) s.names 0=some k):initL c (f+1) q s=failP c s 51:=by show (match idxOf (c.word s.pos) s.names 0 with | some _=>_ | none=>_)=_;rw [h]
theorem init_one (h:idxOf (c.word s.pos) s.names 0=none):initL c (f+1) q s=(locP c s).bind fun _ s1=>(signP c [61] s1).bind fun _ s2=>(numQ c s2).bind fun v s3=>
     if c.kind s3.pos=4 then .ok { q with init:=q.init++[v],wh:=2 } s3 else initL c f { q with init:=q.init++[v] } s3:=by show (match idxOf (c.word s.pos) s.names 0 with | some _=>_ | none=>_)=_;rw [h]
end
set_option maxHeartbeats 16000000 in
theorem pinit_any {W w0:World} {rs:List Res} {c:PX} (hc:c.Ok) (hm:c.ts.length≤900000) {A:Option Addr} {C bp:Nat} {S:Nat→Prop} {s:PS} {B:Option Addr} {D:Nat} (q:QL) {IA:Option Addr} {IC:Nat} {L K aq a1 a2 a3 a4 a5 qy:Value} (hp:s.pos < c.ts.length) (hnl:s.names.length≤c.lim) (hil:q.init.length≤s.names.length)
   (H:Own W none w0 (.blk bp (parC c A C s B D [.string q.name,L,.slice IA q.init.length IC,K,aq,a1,a2,a3,a4,a5,.int .i64 (q.wh:Int),qy]) 66 :: .held S A 3 (rowsT c.ts) :: .nms W c.fixed B D s.names :: .rws 5 1 (.slice IA q.init.length IC) (iniC q.init) :: rs)) :
   Calls Tryz.prog 97 #[.pointer (some ⟨bp,0,none⟩)] w0 fun e w'=>Ans W rs (if q.wh=1 then initL c (c.ts.length+1) q s.next else failP c s 50) (fun v t e w'=>e = .returned (.tuple #[])∧v = { q with init:=v.init,wh:=v.wh }∧∃ B D IA IC,Own W none w' (.blk bp (parC c A C t B D [.string q.name,L,.slice IA v.init.length IC,K,aq,a1,a2,a3,a4,a5,.int .i64 (v.wh:Int),qy]) 66 :: .held S A 3 (rowsT c.ts) :: .nms W c.fixed B D t.names :: .rws 5 1 (.slice IA v.init.length IC) (iniC v.init) :: rs)) e w':=by
 have hfew:=hc.few
 have hlim:=c.lim_le
 refine enterF func97 rfl ntmps97 rfl (fun a F=>?_);refine cSR fun K1 hK1=>sMv F rfl rfl rfl (qMv rfl rfl rfl (qNc rfl rfl rfl (qFa (f:=4) (k:=15) underlying66 rfl sizeOf3 rfl rfl rfl rfl rfl (qLd isAgg3 rfl rfl rfl (H.cell 0 rfl rfl) (qBin rfl rfl rfl rfl bEql ?_)))));clear F a;intro a F;refine sCallP call64 F rfl rfl rfl (pneed_any _ hc (s:=s) (by (try simp only [PS.next]);omega) H) ?_;rintro e w hq9
 rcases hq9.cases with ⟨p9,e9,hn9,rfl,H⟩ | ⟨v9,t9,hr9,rfl,H⟩
 ·
  refine .inl ⟨_,rfl,?_⟩
  exact And.intro F.nod (Ans.no (by obtain ⟨h1,rfl,rfl⟩:=need_no hn9;rw [if_neg ((eq_nat (b:=1)).2.1 h1)];rfl) H.tail.tail)
 obtain ⟨hk0,rfl⟩:=need_ok hr9;have hw:q.wh=1:=(eq_nat (b:=1)).1.1 hk0
 refine .inr ⟨_,rfl,?_⟩
 clear F a;intro a F;refine nK hK1 (cSR fun K2 hK2=>sMv F rfl rfl rfl (qNc rfl rfl rfl (qFa (f:=0) (k:=0) underlying66 rfl sizeOf64 rfl rfl rfl rfl rfl ?_)));clear hK1;clear F a;intro a F;refine sCall call102 F rfl rfl rfl (pstep_any hc (by (try simp only [PS.next]);omega) H) ?_;rintro e w ⟨rfl,H⟩;refine ⟨_,rfl,?_⟩;clear F a;intro a F;refine nK hK2 ?_;clear hK2;refine cSeq (fun K3 hK3=>?_);refine cSR fun K4 hK4=>sAs F rfl rfl rfl (qNK hK4 ?_);clear hK4;clear F a;intro a F;refine wp_block ?_
 refine cLoopR [0] (fun m ups w=>∃ (g:Nat) (mo:Bool) (ini:List UInt8) (u:PS) (JA:Option Addr) (JC:Nat) (Bu:Option Addr) (Du:Nat),m=(bif mo then g+1 else 0)∧ups=[(2,.bool mo)]∧(mo=true→initL c g { q with init:=ini } u=initL c (c.ts.length+1) q s.next∧c.ts.length < u.pos+g)∧(mo=false→initL c (c.ts.length+1) q s.next = .ok { q with init:=ini,wh:=2 } u)∧u.pos≤c.ts.length∧u.names.length≤c.lim∧ini.length≤u.pos+1000∧Own W none w (.blk bp (parC c A C u Bu Du [.string q.name,L,.slice JA ini.length JC,K,aq,a1,a2,a3,a4,a5,.int .i64 (q.wh:Int),qy]) 66 :: .held S A 3 (rowsT c.ts) :: .nms W c.fixed Bu Du u.names :: .rws 5 1 (.slice JA ini.length JC) (iniC ini) :: rs)) F (c.ts.length+1+1) [(2,.bool true)] (by repeat (first | exact SubR.nil | (apply SubR.cons;· rfl))) ?_ ?_ ?_
 · exact ⟨c.ts.length+1,true,q.init,s.next,IA,IC,B,D,rfl,rfl,(fun _=>⟨rfl,by show c.ts.length < s.pos+1+(c.ts.length+1);omega⟩),(fun e=>by cases e),hp,hnl,by show q.init.length≤s.pos+1+1000;omega,H⟩
 · repeat (first | exact trivial | refine Le.cons rfl ?_)
 clear F
 clear H
 intro m ups a w hI F
 obtain ⟨g,mo,ini,u,JA,JC,Bu,Du,rfl,rfl,hT,hF,hul,hu6,hil2,H⟩:=hI
 refine cSeq (fun K5 hK5=>?_);refine cSR fun K6 hK6=>sMv F rfl rfl rfl (qNK hK6 ?_);clear hK6;clear F a;intro a F
 refine cIf F rfl (fun h14=>?_) (fun h14=>?_)
 ·
  obtain rfl:mo=true:=h14
  obtain ⟨heq,hg⟩:=hT rfl
  obtain ⟨g,rfl⟩:∃ k,g=k+1:=⟨g - 1,by omega⟩
  refine wp_skip (hK5 _ _ ?_);clear hK5;refine cSeq (fun K7 hK7=>?_);refine wp_block ?_;refine cSeq (fun K8 hK8=>?_);refine cSeq (fun K9 hK9=>?_);refine cRegRO (by kernel_rfl) H ?_;replace H:=H.drew;refine eTF 0 rfl (by kernel_rfl) F rfl rfl rfl (fun w=>rMv F rfl) H qq0 (qT 1 rfl (by kernel_rfl) rfl rfl rfl rfl (fun a F w H=>rNc F rfl) H qq0 (qTF 2 rfl (by kernel_rfl) rfl rfl rfl (fun a F w=>rFa (f:=1) (k:=3) underlying66 rfl sizeOf22 rfl rfl F rfl) H qq0 (qT 3 rfl (by kernel_rfl) rfl rfl rfl rfl (fun a F w H=>rLd isAgg22 F rfl (H.cell 0 rfl rfl)) H qq0 (qTF 4 rfl (by kernel_rfl) rfl rfl rfl (fun a F w=>rMv F rfl) H qq0 (qT 5 rfl (by kernel_rfl) rfl rfl rfl rfl (fun a F w H=>rNc F rfl) H qq0 (qTF 6 rfl (by kernel_rfl) rfl rfl rfl (fun a F w=>rFa (f:=0) (k:=0) underlying66 rfl sizeOf64 rfl rfl F rfl) H qq0 ?_))))));clear F a;intro a F;refine eOne (k:=7) (i:=7) rfl (by kernel_rfl) F rfl (oCall call54 F rfl rfl (pword_any (s:=u) hc (by (try simp only [PS.next]);omega) H) ?_);rintro e w ⟨rfl,H⟩;refine ⟨_,rfl,?_⟩;clear F a;intro a F;refine eKeep H ?_;refine eOne (k:=8) (i:=8) rfl (by kernel_rfl) F rfl (oCall call128 F rfl rfl (contains_any Bu Du u.names (c.word u.pos) _ (nmsAt H 2 rfl) (by omega)) ?_);rintro e w ⟨rfl,hb⟩;replace H:=H.grow hb;clear hb;refine ⟨_,rfl,?_⟩;clear F a;intro a F;refine ePartO (by kernel_rfl) H ?_;refine eNil (k:=9) (by kernel_rfl) ?_;refine hK9 _ _ ?_;clear hK9
  refine cIf F rfl (fun h28=>?_) (fun h28=>?_)
  ·
   obtain ⟨kk,hix⟩:∃ k,idxOf (c.word u.pos) u.names 0=some k:=Option.isSome_iff_exists.1 h28
   refine cReg (sMv F rfl rfl rfl (qNc rfl rfl rfl (qFa (f:=0) (k:=0) underlying66 rfl sizeOf64 rfl rfl rfl rfl rfl ?_)));clear F a;intro a F;refine sCall call52 F rfl rfl rfl (pplace_any (s:=u) hc (by (try simp only [PS.next]);omega) H) ?_;rintro e w ⟨rfl,H⟩;refine ⟨_,rfl,?_⟩;clear F a;intro a F;refine sCallP call59 F rfl rfl rfl (fail_any _ 51 H) ?_;rintro e w ⟨rfl,H⟩
   refine .inl ⟨_,rfl,?_⟩
   exact And.intro F.nod (Ans.no (by rw [if_pos hw,← heq,init_twice hix];rfl) H.tail.tail.tail.tail)
  have hix:idxOf (c.word u.pos) u.names 0=none:=by simpa using h28
  refine wp_skip (hK8 _ _ (cSR fun K10 hK10=>sMv F rfl rfl rfl (qMv rfl rfl rfl (qNc rfl rfl rfl (qFa (f:=1) (k:=3) underlying66 rfl sizeOf22 rfl rfl rfl rfl rfl (qLd isAgg22 rfl rfl rfl (H.cell 0 rfl rfl) ?_))))));clear hK8;clear F a;intro a F;refine sCallP call133 F rfl rfl rfl (ploc_any (s:=u) hc (by (try simp only [PS.next]);omega) hu6 H) ?_;rintro e w hq9
  rcases hq9.cases with ⟨p9,e9,hn39,rfl,H⟩ | ⟨v39,t39,hr39,rfl,B39,D39,H⟩
  ·
   refine .inl ⟨_,rfl,?_⟩
   exact And.intro F.nod (Ans.no (by rw [if_pos hw,← heq,init_one hix,hn39];rfl) H.tail)
  obtain ⟨hn6,hp39⟩:=loc_six hu6 v39 t39 hr39;have hlt:u.pos < c.ts.length:=by have:=(locP_all v39 t39 hr39).1.le;omega
  refine .inr ⟨_,rfl,?_⟩
  clear F a;intro a F;refine nK hK10 (cSR fun K11 hK11=>sMv F rfl rfl rfl (qNc rfl rfl rfl (qFa (f:=0) (k:=0) underlying66 rfl sizeOf64 rfl rfl rfl rfl rfl ?_)));clear hK10;clear F a;intro a F;refine sCallP call134 F rfl rfl rfl (psign_any [61] hc (by (try simp only [PS.next]);omega) H) ?_;rintro e w hq9
  rcases hq9.cases with ⟨p9,e9,hn43,rfl,H⟩ | ⟨v43,t43,hr43,rfl,H⟩
  ·
   refine .inl ⟨_,rfl,?_⟩
   exact And.intro F.nod (Ans.no (by rw [if_pos hw,← heq,init_one hix,hr39];show (signP c [61] t39).bind _=_;rw [hn43];rfl) H.tail.tail)
  obtain ⟨hg43,rfl⟩:=signP_all v43 t43 hr43;have hle43:=hg43.le
  refine .inr ⟨_,rfl,?_⟩
  clear F a;intro a F;refine nK hK11 ?_;clear hK11;refine cRegR (by kernel_rfl) (fun w=>∃ cs,Blk w bp cs 66∧cs[7]? = some (.slice JA ini.length JC)) ?_;replace H:=H.drew;refine eTF 0 rfl (by kernel_rfl) F rfl rfl rfl (fun w=>rMv F rfl) (⟨_,H.blk 0 rfl,rfl⟩) qq0 (qTF 1 rfl (by kernel_rfl) rfl rfl rfl (fun a F w=>rMv F rfl) (⟨_,H.blk 0 rfl,rfl⟩) qq0 (qT 2 rfl (by kernel_rfl) rfl rfl rfl rfl (fun a F w H=>rNc F rfl) (⟨_,H.blk 0 rfl,rfl⟩) qq0 (qTF 3 rfl (by kernel_rfl) rfl rfl rfl (fun a F w=>rFa (f:=3) (k:=5) underlying66 rfl sizeOf29 rfl rfl F rfl) (⟨_,H.blk 0 rfl,rfl⟩) qq0 (qTF 4 rfl (by kernel_rfl) rfl rfl rfl (fun a F w=>rFa (f:=2) (k:=7) underlying29 rfl sizeOf23 rfl rfl F rfl) (⟨_,H.blk 0 rfl,rfl⟩) qq0 (qT 5 rfl (by kernel_rfl) rfl rfl rfl rfl (fun a F w H=>rLd isAgg23 F rfl (Exists.elim H fun cs h=>h.1.cell 7 h.2)) (⟨_,H.blk 0 rfl,rfl⟩) qq0 (qTF 6 rfl (by kernel_rfl) rfl rfl rfl (fun a F w=>rMv F rfl) (⟨_,H.blk 0 rfl,rfl⟩) qq0 (qT 7 rfl (by kernel_rfl) rfl rfl rfl rfl (fun a F w H=>rNc F rfl) (⟨_,H.blk 0 rfl,rfl⟩) qq0 (qTF 8 rfl (by kernel_rfl) rfl rfl rfl (fun a F w=>rFa (f:=0) (k:=0) underlying66 rfl sizeOf64 rfl rfl F rfl) (⟨_,H.blk 0 rfl,rfl⟩) qq0 ?_))))))));clear F a;intro a F;refine eOne (k:=9) (i:=9) rfl (by kernel_rfl) F rfl (oCallP call135 F rfl rfl (pnum_any (s:=t39.next) hc (by (try simp only [PS.next]);omega) H) ?_);rintro e w hq9
  rcases hq9.cases with ⟨p9,e9,hn53,rfl,H⟩ | ⟨v53,t53,hr53,rfl,H⟩
  ·
   refine .inl ⟨_,rfl,?_⟩
   exact And.intro F.nod (Ans.no (by rw [if_pos hw,← heq,init_one hix,hr39];show (signP c [61] t39).bind _=_;rw [hr43];show (numQ c t39.next).bind _=_;rw [hn53];rfl) H.tail.tail)
  obtain ⟨hg53,rfl⟩:=numQ_all v53 t53 hr53;have hle53:=hg53.le
  refine .inr ⟨_,rfl,?_⟩
  clear F a;intro a F;refine eKeep (⟨_,H.blk 0 rfl,rfl⟩) ?_;refine eOne (k:=10) (i:=10) rfl (by kernel_rfl) F rfl (oBs1 H underlying23 sizeOf5 zeroValue5 rfl F rfl rfl rfl ?_);clear F a H;intro b54 a w F H;refine eKeep (⟨_,H.blk 1 rfl,rfl⟩) ?_
  refine eOne (k:=11) (i:=11) rfl (by kernel_rfl) F rfl (oApp1 (bytes:=1) H 4 underlying23 typeInfo5 rfl rfl rfl rfl rfl rfl F rfl rfl rfl rfl (H.whole 0 rfl) rfl ?s1 ?s2 ?_)
  case s1=>first | rfl | (repeat (first | exact one_nil | (apply one_cons;· first | rfl | assumption | exact one_bif rfl rfl)))
  case s2=>(simp only [iniC,List.length_map];omega)
  clear F a H;intro A55 c55 a w F H;refine ePartO (by kernel_rfl) H ?_;refine eT 12 rfl (by kernel_rfl) F rfl rfl rfl rfl (fun w H=>rNc F rfl) H qq0 (qTF 13 rfl (by kernel_rfl) rfl rfl rfl (fun a F w=>rFa (f:=3) (k:=5) underlying66 rfl sizeOf29 rfl rfl F rfl) H qq0 (qTF 14 rfl (by kernel_rfl) rfl rfl rfl (fun a F w=>rFa (f:=2) (k:=7) underlying29 rfl sizeOf23 rfl rfl F rfl) H qq0 ?_));clear F a;intro a F;refine eOne (k:=15) (i:=15) rfl (by kernel_rfl) F rfl (oSt H 1 sizeOf23 F rfl rfl rfl rfl rfl ?_);clear H;intro w H;refine ePartO (by kernel_rfl) H ?_;refine eNil (k:=16) (by kernel_rfl) ?_;rw [iniC_snoc,iniC_length] at H
  replace H:Own W none w (.blk bp (parC c A C t39.next.next B39 D39 [.string q.name,L,.slice A55 (ini++[v53]).length c55,K,aq,a1,a2,a3,a4,a5,.int .i64 (q.wh:Int),qy]) 66 :: .held S A 3 (rowsT c.ts) :: .nms W c.fixed B39 D39 t39.names :: .rws 5 1 (.slice A55 (ini++[v53]).length c55) (iniC (ini++[v53])) :: rs):=H.tail
  refine hK7 _ _ (cReg (sMv F rfl rfl rfl (qNc rfl rfl rfl (qFa (f:=0) (k:=0) underlying66 rfl sizeOf64 rfl rfl rfl rfl rfl ?_))));clear hK7;clear F a;intro a F;refine sCall call101 F rfl rfl rfl (pends_any (s:=t39.next.next) hc (by (try simp only [PS.next]);omega) H) ?_;rintro e w ⟨rfl,H⟩;refine ⟨_,rfl,?_⟩;clear F a;intro a F;refine sNot F rfl rfl rfl (qAs rfl rfl rfl ?_);clear F a;intro a F;refine sNil ?_
  have hstep:initL c (g+1) { q with init:=ini } u=if c.kind t39.next.next.pos=4 then .ok { q with init:=ini++[v53],wh:=2 } t39.next.next else initL c g { q with init:=ini++[v53] } t39.next.next:=by
    rw [init_one hix,hr39]
    show (signP c [61] t39).bind _=_
    rw [hr43]
    show (numQ c t39.next).bind _=_
    rw [hr53]
    rfl
  rw [hstep] at heq
  by_cases h4:c.kind t39.next.next.pos=4
  · rw [if_pos h4] at heq
    rw [show decide (c.kind t39.next.next.pos=4)=true from decide_eq_true h4] at F
    exact ⟨_,Nat.succ_pos _,_,⟨0,false,ini++[v53],t39.next.next,_,_,_,_,rfl,rfl,(fun e=>by cases e),(fun _=>heq.symm),by simp only [PS.next];simp only [PS.next] at hle53;omega,hn6,by rw [List.length_append,List.length_singleton];simp only [PS.next];omega,H⟩,F.to (by repeat (first | exact trivial | refine Le.cons rfl ?_))⟩
  · rw [if_neg h4] at heq
    rw [show decide (c.kind t39.next.next.pos=4)=false from decide_eq_false h4] at F
    exact ⟨_,Nat.lt_succ_self _,_,⟨g,true,ini++[v53],t39.next.next,_,_,_,_,rfl,rfl,(fun _=>⟨heq,by simp only [PS.next];omega⟩),(fun e=>by cases e),by simp only [PS.next];simp only [PS.next] at hle53;omega,hn6,by rw [List.length_append,List.length_singleton];simp only [PS.next];omega,H⟩,F.to (by repeat (first | exact trivial | refine Le.cons rfl ?_))⟩
 obtain rfl:mo=false:=h14
 have hdone:=hF rfl
 refine wp_exit ?_;refine hK3 _ _ (cReg (sMv F rfl rfl rfl (qNc rfl rfl rfl (qFa (f:=4) (k:=15) underlying66 rfl sizeOf3 rfl rfl rfl rfl rfl ?_))));clear hK3;clear F a;intro a F;refine sSt H 0 sizeOf3 F rfl rfl rfl rfl rfl rfl ?_;clear H;intro w H;refine sNil ?_
 first | refine bEnd results97 F ?_ | (simp only [Exit.then,Exit.inBlock,if_true];(repeat (first | rw [if_pos rfl] | rw [if_neg (by decide)]));refine bEnd results97 F ?_)
 exact Ans.ok (v:={ q with init:=ini,wh:=2 }) (by rw [if_pos hw];exact hdone) ⟨rfl,rfl,_,_,_,_,H⟩
end Go.Proofs.YtkchaoajegkadaaGreatDoor
