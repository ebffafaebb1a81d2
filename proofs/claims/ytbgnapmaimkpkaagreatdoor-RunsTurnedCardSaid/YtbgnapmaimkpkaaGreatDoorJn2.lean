/-
  WALK2. Package buffer: moves, Moves, Over. Conditions: the program lies in memory; the buffers are not overfull.
-/
import Derived.Test.YtbgnapmaimkpkaaGreatDoorBfC
set_option linter.unusedSimpArgs false
set_option linter.unusedVariables false
namespace Go.Proofs.YtbgnapmaimkpkaaGreatDoor
-- BfD
open Go.Proofs.Tryz
open Go.RowKit
set_option maxRecDepth 100000
theorem wrapO (n:Nat):IntKind.u8.wrap (n:Int)=((UInt8.ofNat n).toNat:Int):=by
 have e:IntKind.u8.wrap (n:Int)=(n:Int) % 256:=by simp [IntKind.wrap,IntKind.signed,IntKind.bits]
 rw [e]
 simp
theorem eTbo:EqT Tryz.prog 1 4 [.bool] false:=eqBool underlying4
theorem eTp:EqT Tryz.prog 2 86 [.u8,.bool,.u8] true:=by
 have h:=eqStruct (P:=Tryz.prog) (D:=1) (kss:=[([.u8],false),([.bool],false),([.u8],false)]) underlying86 (by kernel_rfl)
   ⟨rfl,by decide,sizeOf5,isAgg5,fun _=>rfl,eT8,rfl,by decide,sizeOf4,isAgg4,fun _=>rfl,eTbo,rfl,by decide,sizeOf5,isAgg5,fun _=>rfl,eT8,trivial⟩
 exact h
theorem fitsX (x:Pss):Fits [.u8,.bool,.u8] x.cells:=⟨⟨_,rfl⟩,⟨_,rfl⟩,⟨_,rfl⟩,trivial⟩
theorem ceqX (x y:Pss):ceq x.cells y.cells=decide (x=y):=by
 obtain ⟨a,b,c⟩:=x
 obtain ⟨d,e,f⟩:=y
 rw [Bool.eq_iff_iff]
 simp [Pss.cells,ceq,cellEq,b8,Int.ofNat_inj,UInt8.toNat_inj]
theorem bEqX {a b:Operand} {x y:Pss}:BinR Tryz.prog .eql 86 a b (.agg x.cells.toArray) (.agg y.cells.toArray) (.bool (decide (x=y))):=by
 have h:=bEqT (x':=a) (y':=b) eTp (by kernel_rfl) (by decide) (fitsX x) (fitsX y)
 rw [ceqX] at h
 exact h
theorem bNeX {a b:Operand} {x y:Pss}:BinR Tryz.prog .neq 86 a b (.agg x.cells.toArray) (.agg y.cells.toArray) (.bool (!decide (x=y))):=by
 have h:=bNeT (x':=a) (y':=b) eTp (by kernel_rfl) (by decide) (fitsX x) (fitsX y)
 rw [ceqX] at h
 exact h
def lastL (m:UInt8) (s:By) (t i:Nat):UInt8:=if m=3∧0 < i then bLoc s t (i - 1) else 0
theorem drainAt_t {m:UInt8} {s:By} {t i:Nat} (h:m=3):drainAt m s t i=⟨UInt8.ofNat t,true,bLoc s t i⟩:=by rw [drainAt,if_pos h]
theorem drainAt_f {m:UInt8} {s:By} {t i:Nat} (h:m ≠ 3):drainAt m s t i=⟨UInt8.ofNat t,true,0⟩:=by rw [drainAt,if_neg h]
theorem lastL_f {m:UInt8} {s:By} {t i:Nat} (h:m ≠ 3):lastL m s t i=0:=if_neg (fun hh=>h hh.1)
theorem drain_eta {m:UInt8} {s:By} {t i:Nat}:drainAt m s t i=⟨UInt8.ofNat t,true,lastL m s t (i+1)⟩:=by
 by_cases h:m=3
 · rw [drainAt_t h,lastL,if_pos ⟨h,by omega⟩];rfl
 · rw [drainAt_f h,lastL_f h]
theorem drains_yes {m:UInt8} {s:By} {t i:Nat} (h:(i:Int)=0∨(!decide (drainAt m s t i=drainAt m s t (i - 1)))=true):drains m s t (i+1)=drains m s t i++[drainAt m s t i]:=by
 rw [drains,if_pos]
 rcases h with h | h
 · exact .inl (by omega)
 · refine .inr ?_
   have hn:drainAt m s t i ≠ drainAt m s t (i - 1):=by simpa using h
   by_cases hm:m=3
   · refine ⟨hm,fun e=>hn ?_⟩
     rw [drainAt_t hm,drainAt_t hm,e]
   · exact absurd (by rw [drainAt_f hm,drainAt_f hm]) hn
theorem drains_no {m:UInt8} {s:By} {t i:Nat} (hi:0 < i) (h:(!decide (drainAt m s t i=drainAt m s t (i - 1)))=false):drains m s t (i+1)=drains m s t i:=by
 have he:drainAt m s t i=drainAt m s t (i - 1):=by simpa using h
 rw [drains,if_neg]
 rintro (h1 | ⟨hm,h2⟩)
 · omega
 · rw [drainAt_t hm,drainAt_t hm] at he
   exact h2 (congrArg Pss.l he)
def preT (p:Prg) (m:UInt8) (s:By) (t:Nat):List Pss:=movesN p m s t++(if enabledM p m s t=true then [⟨UInt8.ofNat t,false,0⟩] else [])
theorem preT_tm {p:Prg} {m:UInt8} {s:By} {t:Nat} (h:enabledM p m s t=true):(preT p m s t).map Pss.cells=(movesN p m s t).map Pss.cells++[(Pss.mk (UInt8.ofNat t) false 0).cells]:=by rw [preT,if_pos h];simp
theorem preT_fm {p:Prg} {m:UInt8} {s:By} {t:Nat} (h:enabledM p m s t=false):movesN p m s t=preT p m s t:=by rw [preT,if_neg (by rw [h];simp)];simp
theorem drains_last (m:UInt8) (s:By) (t:Nat):∀ i,∃ l,drains m s t (i+1)=l++[drainAt m s t i]
 | 0=>⟨[],rfl⟩
 | i+1=>by
   rw [drains]
   split
   · exact ⟨_,rfl⟩
   · rename_i h
     obtain ⟨l,hl⟩:=drains_last m s t i
     refine ⟨l,?_⟩
     rw [hl]
     unfold drainAt
     by_cases hm:m=3
     · have:bLoc s t (i+1)=bLoc s t i:=Decidable.not_not.1 fun hn=>h (.inr ⟨hm,hn⟩)
       rw [if_pos hm,if_pos hm,this]
     · rw [if_neg hm,if_neg hm]
theorem drains_last' {m:UInt8} {s:By} {t i:Nat} (hi:0 < i) (pre:List Pss):(pre++drains m s t i)[(pre++drains m s t i).length - 1]? = some (drainAt m s t (i - 1)):=by
 obtain ⟨l,hl⟩:=drains_last m s t (i - 1)
 rw [show i - 1+1=i by omega] at hl;rw [hl,← List.append_assoc,← List.getLast?_eq_getElem?,List.getLast?_concat]
theorem drains_map {m:UInt8} {s:By} {t i:Nat} {pre:List Pss} (h:drains m s t (i+1)=drains m s t i++[drainAt m s t i]):(pre++drains m s t (i+1)).map Pss.cells=(pre++drains m s t i).map Pss.cells++[(drainAt m s t i).cells]:=by
 rw [h];simp
theorem drains_len (m:UInt8) (s:By) (t:Nat):∀ i,(drains m s t i).length≤i
 | 0=>Nat.le_refl _
 | i+1=>by
   have:=drains_len m s t i
   rw [drains]
   split
   · rw [List.length_append];simp;omega
   · omega
theorem movesN_len {p:Prg} {m:UInt8} {s:By} (hm:∀ t,t < 4→manyB s t≤12):∀ n,n≤4→(movesN p m s n).length≤13 * n
 | 0,_=>Nat.le_refl _
 | n+1,h=>by
   have h1:=movesN_len (p:=p) (m:=m) hm n (by omega)
   have h2:=drains_len m s n (manyB s n)
   have h3:=hm n (by omega)
   rw [movesN,movesT,List.length_append,List.length_append]
   split <;> simp <;> omega
theorem rowX (l:List Pss):∀ r ∈ l.map Pss.cells,r.length=3:=fun r hr=>by
 obtain ⟨x,_,rfl⟩:=List.mem_map.1 hr
 rfl
set_option maxHeartbeats 4000000 in
theorem movesM_any (cs:List Value) (p:Prg) (w0:World) (hP:ProgAt w0 cs p) (hn:p.threads.length≤4) (mc:UInt8) (s:By) (hm:∀ t,t < 4→manyB s t≤12) :
   Calls Tryz.prog 52 #[.agg cs.toArray,Go.Proofs.YtbgnapmaimkpkaaGreatDoor.b8 mc,.agg (bs 142 s).toArray] w0 fun e w'=>∃ A c,e = .returned (.slice A (movesM p mc s).length c)∧Own w0 none w' [.rws 86 3 (.slice A (movesM p mc s).length c) ((movesM p mc s).map Pss.cells)]:=by
 have H:=Own.start w0 none
 have hP0:=hP
 obtain ⟨LA,LC,IA,IC,TA,TC,h,ccs,hp⟩:=hP
 obtain ⟨c1,c2,c3,c4,c5,rfl⟩:=len5 (condAt_len hp.cond)
 have hcs:=hp.cs
 subst hcs;refine enterF func52 rfl ntmps52 rfl (fun a F=>?_);refine cSR fun K1 hK1=>?_;refine sBx H F rfl rfl rfl ?_;clear F a H;intro b3 a w F H;refine sBxB H F rfl rfl rfl ?_;clear F a H;intro b5 a w F H;refine sAs F rfl rfl rfl (qNK hK1 (qSR fun K2 hK2=>qAs rfl rfl rfl ?_));clear hK1;clear F a;intro a F
 replace H:=H.nilRws 86 3
 refine nK hK2 ?_;clear hK2;refine cSeq (fun K3 hK3=>?_);refine cSR fun K4 hK4=>sFa (f:=3) (k:=3) underlying29 rfl sizeOf24 rfl rfl F rfl rfl rfl (qLd isAgg24 rfl rfl rfl (H.cell 2 rfl rfl) (qLen underlying24 rfl rfl rfl (qMv rfl rfl rfl (qNK hK4 ?_))));clear hK4;clear F a;intro a F;refine wp_block ?_
 refine cLoopR [1,3,5,13] (fun m ups w=>∃ (j:Nat) (A:Option Addr) (c:Nat),m=p.threads.length - j∧ups=[(7,.slice A (movesN p mc s j).length c),(14,.int .i64 ((j:Nat):Int))]∧j≤p.threads.length∧Own w0 none w [.rws 86 3 (.slice A (movesN p mc s j).length c) ((movesN p mc s j).map Pss.cells),.blk b5 (bs 142 s) 70,.blk b3 ([.string p.name,.slice LA p.locs.length LC,.slice IA p.init.length IC,.slice TA p.threads.length TC,b8 p.ask]++[c1,c2,c3,c4,c5]) 29]) F (p.threads.length) [(7,.slice none 0 0),(14,.int .i64 ((0:Nat):Int))] (by repeat (first | exact SubR.nil | (apply SubR.cons;· rfl))) ?_ ?_ ?_
 · exact ⟨0,none,0,rfl,rfl,by omega,H.sel [0,1,2] rfl rfl⟩
 · repeat (first | exact trivial | refine Le.cons rfl ?_)
 clear F
 clear H
 intro m ups a w hI F
 obtain ⟨j,A,c,rfl,rfl,hj,H⟩:=hI
 refine cSR fun K5 hK5=>sBin F rfl rfl rfl rfl bLss (qNK hK5 ?_);clear hK5;clear F a;intro a F;refine cSeq (fun K6 hK6=>?_)
 refine cIf F rfl (fun h15=>?_) (fun h15=>?_)
 ·
  replace h15:=of_decide_eq_true h15
  have hjl:j < p.threads.length:=by omega
  obtain ⟨q,hq⟩:∃ q,p.threads[j]? = some q:=⟨_,List.getElem?_eq_getElem hjl⟩
  have hml:=movesN_len (p:=p) (m:=mc) hm j (by omega)
  have hmj:=hm j (by omega)
  have hmd:manyB s j=(s (138+j)).toNat:=rfl
  refine wp_skip (hK6 _ _ ?_);clear hK6;refine cSeq (fun K7 hK7=>?_);refine wp_block ?_;refine cSR fun K8 hK8=>sMv F rfl rfl rfl (qAs rfl rfl rfl (qNK hK8 (qSR fun K9 hK9=>qMv rfl rfl rfl (qCv underlying3 underlying5 rfl rfl rfl (wrapO _) (qBd (cs:=(Pss.mk (UInt8.ofNat j) false 0).cells) (places:=[(0,1),(1,1),(2,1)]) zeroValue86 underlying86 (by kernel_rfl) rfl rfl rfl rfl ?_)))));clear hK8;clear F a;intro a F;refine sAl H zeroValue86 F rfl rfl ?_;clear F a H;intro b9 a w F H
  refine sSr H 0 ?si F rfl rfl rfl ?s1 rfl rfl ?_
  case si=>exact info_size sizeOf86
  case s1=>first | rfl | (repeat (first | exact one_nil | (apply one_cons;· first | rfl | assumption | exact one_bif rfl rfl)))
  clear H;intro w H;refine nK hK9 ?_;clear hK9
  refine cSeqJ [1,3,5,8,9,13,14] (fun ups w=>∃ (A2:Option Addr) (k2:Nat),ups=[(7,.slice A2 (preT p mc s j).length k2)]∧Own w0 none w [.rws 86 3 (.slice A2 (preT p mc s j).length k2) ((preT p mc s j).map Pss.cells),.blk b9 (Pss.mk (UInt8.ofNat j) false 0).cells 86,.blk b5 (bs 142 s) 70,.blk b3 ([.string p.name,.slice LA p.locs.length LC,.slice IA p.init.length IC,.slice TA p.threads.length TC,b8 p.ask]++[c1,c2,c3,c4,c5]) 29]) F (by repeat (first | exact SubR.nil | (apply SubR.cons;· rfl))) ?_ ?_
  ·
   refine cSR fun K10 hK10=>?_
   refine sLr underlying29 rfl ?si F rfl rfl rfl (H.whole 3 rfl) ?_
   case si=>exact info_size sizeOf29
   clear F a;intro a F;refine sMv F rfl rfl rfl (qLrB underlying70 rfl sizeOf70 rfl rfl rfl (H.whole 2 rfl) (qMv rfl rfl rfl ?_));clear F a;intro a F;refine sCall call106 F rfl rfl rfl (enabledM_any _ p _ (hP0.own H) mc s j q (by omega) hq) ?_;rintro e w ⟨rfl,hb⟩;replace H:=H.grow hb;clear hb;refine ⟨_,rfl,?_⟩;clear F a;intro a F;refine nK hK10 ?_;clear hK10
   refine cIf F rfl (fun h24=>?_) (fun h24=>?_)
   ·
    refine cReg (sMv F rfl rfl rfl ?_);clear F a;intro a F
    refine sLr underlying86 rfl ?si F rfl rfl rfl (H.whole 0 rfl) ?_
    case si=>exact info_size sizeOf86
    clear F a;intro a F;refine sBsA H underlying58 sizeOf86 zeroValue86 rfl F rfl rfl rfl rfl rfl ?_;clear F a H;intro b27 a w F H
    refine sApp1 (bytes:=3) H 2 underlying58 typeInfo86 rfl rfl rfl rfl rfl rfl F rfl rfl rfl rfl rfl (H.whole 0 rfl) rfl ?s1 ?s2 ?_
    case s1=>first | rfl | (repeat (first | exact one_nil | (apply one_cons;· first | rfl | assumption | exact one_bif rfl rfl)))
    case s2=>(rw [List.length_map];omega)
    clear F a H;intro A28 c28 a w F H;refine sAs F rfl rfl rfl ?_;clear F a;intro a F;refine sNil ?_
    first
      | (have eR:(preT p mc s j).map Pss.cells=(movesN p mc s j).map Pss.cells++[(Pss.mk (UInt8.ofNat j) false 0).cells]:=preT_tm h24
         have eL:(preT p mc s j).length=((movesN p mc s j).map Pss.cells++[(Pss.mk (UInt8.ofNat j) false 0).cells]).length:=by rw [← eR,List.length_map]
         rw [eR,eL]
         exact ⟨_,⟨A28,c28,rfl,H.sel [2,1,3,4] rfl rfl⟩,F.to (by repeat (first | exact trivial | refine Le.cons rfl ?_))⟩)
      | (have e:movesN p mc s j=preT p mc s j:=preT_fm h24
         rw [e] at H F
         exact ⟨_,⟨A,c,rfl,H.sel [2,1,3,4] rfl rfl⟩,F.to (by repeat (first | exact trivial | refine Le.cons rfl ?_))⟩)
   refine wp_skip ?_
   first
     | (have eR:(preT p mc s j).map Pss.cells=(movesN p mc s j).map Pss.cells++[(Pss.mk (UInt8.ofNat j) false 0).cells]:=preT_tm h24
        have eL:(preT p mc s j).length=((movesN p mc s j).map Pss.cells++[(Pss.mk (UInt8.ofNat j) false 0).cells]).length:=by rw [← eR,List.length_map]
        rw [eR,eL]
        exact ⟨_,⟨A28,c28,rfl,H.sel [1,0,2,3] rfl rfl⟩,F.to (by repeat (first | exact trivial | refine Le.cons rfl ?_))⟩)
     | (have e:movesN p mc s j=preT p mc s j:=preT_fm h24
        rw [e] at H F
        exact ⟨_,⟨A,c,rfl,H.sel [1,0,2,3] rfl rfl⟩,F.to (by repeat (first | exact trivial | refine Le.cons rfl ?_))⟩)
  clear F H
  intro ups a w hI F
  obtain ⟨A2,k2,rfl,H⟩:=hI
  refine cSR fun K11 hK11=>sFa (f:=1) (k:=1) underlying86 rfl sizeOf4 rfl rfl F rfl rfl rfl ?_;clear F a;intro a F;refine sSt H 1 sizeOf4 F rfl rfl rfl rfl rfl rfl ?_;clear H;intro w H;refine nK hK11 (cSR fun K12 hK12=>sMv F rfl rfl rfl (qFa (f:=3) (k:=138) underlying70 rfl sizeOf68 rfl rfl rfl rfl rfl ?_));clear hK11;clear F a;intro a F
  refine sIa1 underlying68 sizeOf5 F rfl rfl rfl rfl ?_ ?_
  focus (first | omega | decide | (simp;omega))
  clear F a;intro a F;refine sLd isAgg5 F rfl rfl rfl (H.cellB 2 rfl (by omega)) (qCv underlying5 underlying3 rfl rfl rfl (wrapB _) (qMv rfl rfl rfl (qNK hK12 ?_)));clear hK12;clear F a;intro a F;refine wp_block ?_
  refine cLoopR [1,3,5,8,9,13,14,34] (fun m ups w=>∃ (i:Nat) (A3:Option Addr) (k3:Nat),m=manyB s j - i∧ups=[(7,.slice A3 (preT p mc s j++drains mc s j i).length k3),(35,.int .i64 ((i:Nat):Int))]∧i≤manyB s j∧Own w0 none w [.rws 86 3 (.slice A3 (preT p mc s j++drains mc s j i).length k3) ((preT p mc s j++drains mc s j i).map Pss.cells),.blk b9 (Pss.mk (UInt8.ofNat j) true (lastL mc s j i)).cells 86,.blk b5 (bs 142 s) 70,.blk b3 ([.string p.name,.slice LA p.locs.length LC,.slice IA p.init.length IC,.slice TA p.threads.length TC,b8 p.ask]++[c1,c2,c3,c4,c5]) 29]) F (manyB s j) [(7,.slice A2 (preT p mc s j).length k2),(35,.int .i64 ((0:Nat):Int))] (by repeat (first | exact SubR.nil | (apply SubR.cons;· rfl))) ?_ ?_ ?_
  · exact ⟨0,A2,k2,rfl,by rw [show preT p mc s j++drains mc s j 0=preT p mc s j from List.append_nil _],by omega,by rw [show preT p mc s j++drains mc s j 0=preT p mc s j from List.append_nil _,show lastL mc s j 0=0 from if_neg (fun h=>absurd h.2 (by omega))];exact H.sel [0,1,2,3] rfl rfl⟩
  · repeat (first | exact trivial | refine Le.cons rfl ?_)
  clear F
  clear H
  intro m ups a w hI F
  obtain ⟨i,A3,k3,rfl,rfl,hi,H⟩:=hI
  have hpl:(preT p mc s j).length≤13 * j+1:=by unfold preT;rw [List.length_append];split <;> simp <;> omega
  have hdl:=drains_len mc s j i
  have hLn:(preT p mc s j++drains mc s j i).length≤13 * j+1+i:=by rw [List.length_append];omega
  refine cSR fun K13 hK13=>sBin F rfl rfl rfl rfl bLss (qNK hK13 ?_);clear hK13;clear F a;intro a F;refine cSeq (fun K14 hK14=>?_)
  refine cIf F rfl (fun h36=>?_) (fun h36=>?_)
  ·
   replace h36:=of_decide_eq_true h36;refine wp_skip (hK14 _ _ ?_);clear hK14;refine cSeq (fun K15 hK15=>?_);refine wp_block ?_;refine cSR fun K16 hK16=>sMv F rfl rfl rfl (qAs rfl rfl rfl (qNK hK16 ?_));clear hK16;clear F a;intro a F
   refine cSeqJ [1,3,5,7,8,9,10,13,14,34,35] (fun ups w=>ups=[]∧Own w0 none w [.rws 86 3 (.slice A3 (preT p mc s j++drains mc s j i).length k3) ((preT p mc s j++drains mc s j i).map Pss.cells),.blk b9 (drainAt mc s j i).cells 86,.blk b5 (bs 142 s) 70,.blk b3 ([.string p.name,.slice LA p.locs.length LC,.slice IA p.init.length IC,.slice TA p.threads.length TC,b8 p.ask]++[c1,c2,c3,c4,c5]) 29]) F (by repeat (first | exact SubR.nil | (apply SubR.cons;· rfl))) ?_ ?_
   ·
    refine cSR fun K17 hK17=>sMv F rfl rfl rfl (qBin rfl rfl rfl rfl (bEqlB (y:=3)) (qNK hK17 ?_));clear hK17;clear F a;intro a F
    refine cIf F rfl (fun h39=>?_) (fun h39=>?_)
    ·
     replace h39:=beqT h39;refine cReg (sMv F rfl rfl rfl (qMv rfl rfl rfl (qFa (f:=2) (k:=42) underlying70 rfl sizeOf67 rfl rfl rfl rfl rfl ?_)));clear F a;intro a F
     refine sIa underlying67 sizeOf66 F rfl rfl rfl rfl ?_ ?_
     focus (first | omega | decide | (simp;omega))
     clear F a;intro a F
     refine sIa underlying66 sizeOf65 F rfl rfl rfl rfl ?_ ?_
     focus (first | omega | decide | (simp;omega))
     clear F a;intro a F;refine sFaZ (f:=0) underlying65 rfl sizeOf5 rfl rfl F rfl rfl rfl (qLd isAgg5 rfl rfl rfl (H.cellB 2 rfl (by omega)) (qFa (f:=2) (k:=2) underlying86 rfl sizeOf5 rfl rfl rfl rfl rfl ?_));clear F a;intro a F;refine sSt H 1 sizeOf5 F rfl rfl rfl rfl rfl rfl ?_;clear H;intro w H;refine sNil ?_
     first
       | (rw [drainAt_t h39]
          exact ⟨[],⟨rfl,H.sel [0,1,2,3] rfl rfl⟩,F.to (by repeat (first | exact trivial | refine Le.cons rfl ?_))⟩)
       | (rw [lastL_f h39] at H
          rw [drainAt_f h39]
          exact ⟨[],⟨rfl,H.sel [0,1,2,3] rfl rfl⟩,F.to (by repeat (first | exact trivial | refine Le.cons rfl ?_))⟩)
    replace h39:=beqF h39;refine wp_skip ?_
    first
      | (rw [drainAt_t h39]
         exact ⟨[],⟨rfl,H.sel [0,1,2,3] rfl rfl⟩,F.to (by repeat (first | exact trivial | refine Le.cons rfl ?_))⟩)
      | (rw [lastL_f h39] at H
         rw [drainAt_f h39]
         exact ⟨[],⟨rfl,H.sel [0,1,2,3] rfl rfl⟩,F.to (by repeat (first | exact trivial | refine Le.cons rfl ?_))⟩)
   clear F H
   intro ups a w hI F
   obtain ⟨rfl,H⟩:=hI
   refine cSeq (fun K18 hK18=>?_);refine cRegRO (by kernel_rfl) H ?_;replace H:=H.drew;refine eTF 0 rfl (by kernel_rfl) F rfl rfl rfl (fun w=>rMv F rfl) H qq0 (qTF 1 rfl (by kernel_rfl) rfl rfl rfl (fun a F w=>rBin F rfl rfl bEql) H qq0 (qTF 2 rfl (by kernel_rfl) rfl rfl rfl (fun a F w=>rMv F rfl) H qq0 ?_));clear F a;intro a F
   refine F.split 50 rfl ?_ ?_ <;> (clear F;intro h50 F)
   ·
    replace h50:=beqT h50;refine eSF 3 rfl (by kernel_rfl) F rfl rfl rfl H qq0 (qSF 4 rfl (by kernel_rfl) rfl rfl rfl H qq0 (qSF 5 rfl (by kernel_rfl) rfl rfl rfl H qq0 (qSF 6 rfl (by kernel_rfl) rfl rfl rfl H qq0 (qSF 7 rfl (by kernel_rfl) rfl rfl rfl H qq0 (qSF 8 rfl (by kernel_rfl) rfl rfl rfl H qq0 (qSF 9 rfl (by kernel_rfl) rfl rfl rfl H qq0 (qSF 10 rfl (by kernel_rfl) rfl rfl rfl H qq0 (qTF 11 rfl (by kernel_rfl) rfl rfl rfl (fun a F w=>rPk F rfl rfl) H qq0 ?_))))))));clear F a;intro a F;refine eNil (k:=12) (by kernel_rfl) ?_;refine hK18 _ _ ?_;clear hK18;refine cIfT F rfl ?_;refine cReg (sMv F rfl rfl rfl ?_);clear F a;intro a F
    refine sLr underlying86 rfl ?si F rfl rfl rfl (H.whole 1 rfl) ?_
    case si=>exact info_size sizeOf86
    clear F a;intro a F;refine sBsA H underlying58 sizeOf86 zeroValue86 rfl F rfl rfl rfl rfl rfl ?_;clear F a H;intro b62 a w F H
    refine sApp1 (bytes:=3) H 1 underlying58 typeInfo86 rfl rfl rfl rfl rfl rfl F rfl rfl rfl rfl rfl (H.whole 0 rfl) rfl ?s1 ?s2 ?_
    case s1=>first | rfl | (repeat (first | exact one_nil | (apply one_cons;· first | rfl | assumption | exact one_bif rfl rfl)))
    case s2=>(rw [List.length_map];omega)
    clear F a H;intro A63 c63 a w F H;refine sAs F rfl rfl rfl (qNK hK15 (qReg ?_));clear hK15;clear F a;intro a F
    refine sBin F rfl rfl rfl rfl (bAddN (j:=1) ?_) ?_
    focus omega
    clear F a;intro a F;refine sMv F rfl rfl rfl ?_;clear F a;intro a F;refine sNil ?_
    (have e9:(drainAt mc s j i).cells=(Pss.mk (UInt8.ofNat j) true (lastL mc s j (i+1))).cells:=congrArg Pss.cells drain_eta
     first
      | (have eD:drains mc s j (i+1)=drains mc s j i++[drainAt mc s j i]:=drains_yes (.inl h50)
         have eR:=drains_map (pre:=preT p mc s j) eD
         have eL:(preT p mc s j++drains mc s j (i+1)).length=((preT p mc s j++drains mc s j i).map Pss.cells++[(drainAt mc s j i).cells]).length:=by rw [← eR,List.length_map]
         refine ⟨_,by omega,_,⟨i+1,A63,c63,rfl,rfl,by omega,?_⟩,?_⟩
         · rw [eR,eL,← e9];exact H.sel [1,2,3,4] rfl rfl
         · rw [eL];exact F.to (by repeat (first | exact trivial | refine Le.cons rfl ?_)))
      | (have eD:drains mc s j (i+1)=drains mc s j i++[drainAt mc s j i]:=drains_yes (.inr h59)
         have eR:=drains_map (pre:=preT p mc s j) eD
         have eL:(preT p mc s j++drains mc s j (i+1)).length=((preT p mc s j++drains mc s j i).map Pss.cells++[(drainAt mc s j i).cells]).length:=by rw [← eR,List.length_map]
         refine ⟨_,by omega,_,⟨i+1,A63,c63,rfl,rfl,by omega,?_⟩,?_⟩
         · rw [eR,eL,← e9];exact H.sel [1,2,3,4] rfl rfl
         · rw [eL];exact F.to (by repeat (first | exact trivial | refine Le.cons rfl ?_)))
      | (have e:drains mc s j (i+1)=drains mc s j i:=drains_no hi0 h59
         refine ⟨_,by omega,_,⟨i+1,some ⟨bL,oL,none⟩,k3,rfl,rfl,by omega,?_⟩,?_⟩
         · rw [e,← e9];exact H.sel [1,2,3,4] rfl rfl
         · rw [e];exact F.to (by repeat (first | exact trivial | refine Le.cons rfl ?_))))
   replace h50:=beqF h50
   have hi0:0 < i:=by omega
   have hlast:=drains_last' (m:=mc) (s:=s) (t:=j) hi0 (preT p mc s j)
   obtain ⟨bL,oL,rfl,hLx⟩:=H.rowsAt 0 rfl (rowX _) (by decide) _ _ (by rw [List.getElem?_map,hlast];rfl)
   have hL1:=(List.getElem?_eq_some_iff.1 hlast).1
   have hrow:∀ w,Own w0 none w [.rws 86 3 (.slice (some ⟨bL,oL,none⟩) (preT p mc s j++drains mc s j i).length k3) ((preT p mc s j++drains mc s j i).map Pss.cells),.blk b9 (drainAt mc s j i).cells 86,.blk b5 (bs 142 s) 70,.blk b3 ([.string p.name,.slice LA p.locs.length LC,.slice IA p.init.length IC,.slice TA p.threads.length TC,b8 p.ask]++[c1,c2,c3,c4,c5]) 29]→w.rangeAt bL (oL+((preT p mc s j++drains mc s j i).length - 1) * 3) (drainAt mc s j (i - 1)).cells:=fun w H=>by
    obtain ⟨_,_,he,hq⟩:=H.rowsAt 0 rfl (rowX _) (by decide) _ _ (by rw [List.getElem?_map,hlast];rfl)
    cases he
    exact hq
   refine eTake (k:=3) (i:=3) rfl (by kernel_rfl) F rfl rfl rfl rfl (fun w H=>rLr underlying86 rfl ?si F rfl (H.whole 1 rfl)) H (fun _ _ _ h=>h) ?_
   case si=>exact info_size sizeOf86
   clear F a;intro a F;refine eTF 4 rfl (by kernel_rfl) F rfl rfl rfl (fun w=>rMv F rfl) H qq0 (qTF 5 rfl (by kernel_rfl) rfl rfl rfl (fun a F w=>rMv F rfl) H qq0 (qT 6 rfl (by kernel_rfl) rfl rfl rfl rfl (fun a F w H=>rLen underlying58 F rfl) H qq0 ?_));clear F a;intro a F
   refine eTakeF (k:=7) (i:=7) rfl (by kernel_rfl) F rfl rfl rfl (fun w=>rBin F rfl rfl (bSubN (j:=1) ?_ ?_)) H (fun _ _ _ h=>h) ?_
   focus omega
   focus omega
   clear F a;intro a F
   refine eTakeF (k:=8) (i:=8) rfl (by kernel_rfl) F rfl rfl rfl (fun w=>rIx underlying58 sizeOf86 F rfl rfl ?_) H (fun _ _ _ h=>h) ?_
   focus (first | omega | decide | (simp;omega))
   clear F a;intro a F
   refine eTake (k:=9) (i:=9) rfl (by kernel_rfl) F rfl rfl rfl rfl (fun w H=>rLr underlying86 rfl ?si F rfl (hrow _ H)) H (fun _ _ _ h=>h) ?_
   case si=>exact info_size sizeOf86
   clear F a;intro a F;refine eTF 10 rfl (by kernel_rfl) F rfl rfl rfl (fun w=>rBin F rfl rfl (bNeX (x:=drainAt mc s j i) (y:=drainAt mc s j (i - 1)))) H qq0 (qTF 11 rfl (by kernel_rfl) rfl rfl rfl (fun a F w=>rPk F rfl rfl) H qq0 ?_);clear F a;intro a F;refine eNil (k:=12) (by kernel_rfl) ?_;refine hK18 _ _ ?_;clear hK18
   refine cIf F rfl (fun h59=>?_) (fun h59=>?_)
   ·
    refine cReg (sMv F rfl rfl rfl ?_);clear F a;intro a F
    refine sLr underlying86 rfl ?si F rfl rfl rfl (H.whole 1 rfl) ?_
    case si=>exact info_size sizeOf86
    clear F a;intro a F;refine sBsA H underlying58 sizeOf86 zeroValue86 rfl F rfl rfl rfl rfl rfl ?_;clear F a H;intro b62 a w F H
    refine sApp1 (bytes:=3) H 1 underlying58 typeInfo86 rfl rfl rfl rfl rfl rfl F rfl rfl rfl rfl rfl (H.whole 0 rfl) rfl ?s1 ?s2 ?_
    case s1=>first | rfl | (repeat (first | exact one_nil | (apply one_cons;· first | rfl | assumption | exact one_bif rfl rfl)))
    case s2=>(rw [List.length_map];omega)
    clear F a H;intro A63 c63 a w F H;refine sAs F rfl rfl rfl (qNK hK15 (qReg ?_));clear hK15;clear F a;intro a F
    refine sBin F rfl rfl rfl rfl (bAddN (j:=1) ?_) ?_
    focus omega
    clear F a;intro a F;refine sMv F rfl rfl rfl ?_;clear F a;intro a F;refine sNil ?_
    (have e9:(drainAt mc s j i).cells=(Pss.mk (UInt8.ofNat j) true (lastL mc s j (i+1))).cells:=congrArg Pss.cells drain_eta
     first
      | (have eD:drains mc s j (i+1)=drains mc s j i++[drainAt mc s j i]:=drains_yes (.inl h50)
         have eR:=drains_map (pre:=preT p mc s j) eD
         have eL:(preT p mc s j++drains mc s j (i+1)).length=((preT p mc s j++drains mc s j i).map Pss.cells++[(drainAt mc s j i).cells]).length:=by rw [← eR,List.length_map]
         refine ⟨_,by omega,_,⟨i+1,A63,c63,rfl,rfl,by omega,?_⟩,?_⟩
         · rw [eR,eL,← e9];exact H.sel [1,2,3,4] rfl rfl
         · rw [eL];exact F.to (by repeat (first | exact trivial | refine Le.cons rfl ?_)))
      | (have eD:drains mc s j (i+1)=drains mc s j i++[drainAt mc s j i]:=drains_yes (.inr h59)
         have eR:=drains_map (pre:=preT p mc s j) eD
         have eL:(preT p mc s j++drains mc s j (i+1)).length=((preT p mc s j++drains mc s j i).map Pss.cells++[(drainAt mc s j i).cells]).length:=by rw [← eR,List.length_map]
         refine ⟨_,by omega,_,⟨i+1,A63,c63,rfl,rfl,by omega,?_⟩,?_⟩
         · rw [eR,eL,← e9];exact H.sel [1,2,3,4] rfl rfl
         · rw [eL];exact F.to (by repeat (first | exact trivial | refine Le.cons rfl ?_)))
      | (have e:drains mc s j (i+1)=drains mc s j i:=drains_no hi0 h59
         refine ⟨_,by omega,_,⟨i+1,some ⟨bL,oL,none⟩,k3,rfl,rfl,by omega,?_⟩,?_⟩
         · rw [e,← e9];exact H.sel [1,2,3,4] rfl rfl
         · rw [e];exact F.to (by repeat (first | exact trivial | refine Le.cons rfl ?_))))
   refine wp_skip (hK15 _ _ (cReg ?_));clear hK15
   refine sBin F rfl rfl rfl rfl (bAddN (j:=1) ?_) ?_
   focus omega
   clear F a;intro a F;refine sMv F rfl rfl rfl ?_;clear F a;intro a F;refine sNil ?_
   (have e9:(drainAt mc s j i).cells=(Pss.mk (UInt8.ofNat j) true (lastL mc s j (i+1))).cells:=congrArg Pss.cells drain_eta
    first
     | (have eD:drains mc s j (i+1)=drains mc s j i++[drainAt mc s j i]:=drains_yes (.inl h50)
        have eR:=drains_map (pre:=preT p mc s j) eD
        have eL:(preT p mc s j++drains mc s j (i+1)).length=((preT p mc s j++drains mc s j i).map Pss.cells++[(drainAt mc s j i).cells]).length:=by rw [← eR,List.length_map]
        refine ⟨_,by omega,_,⟨i+1,A63,c63,rfl,rfl,by omega,?_⟩,?_⟩
        · rw [eR,eL,← e9];exact H.sel [0,1,2,3] rfl rfl
        · rw [eL];exact F.to (by repeat (first | exact trivial | refine Le.cons rfl ?_)))
     | (have eD:drains mc s j (i+1)=drains mc s j i++[drainAt mc s j i]:=drains_yes (.inr h59)
        have eR:=drains_map (pre:=preT p mc s j) eD
        have eL:(preT p mc s j++drains mc s j (i+1)).length=((preT p mc s j++drains mc s j i).map Pss.cells++[(drainAt mc s j i).cells]).length:=by rw [← eR,List.length_map]
        refine ⟨_,by omega,_,⟨i+1,A63,c63,rfl,rfl,by omega,?_⟩,?_⟩
        · rw [eR,eL,← e9];exact H.sel [0,1,2,3] rfl rfl
        · rw [eL];exact F.to (by repeat (first | exact trivial | refine Le.cons rfl ?_)))
     | (have e:drains mc s j (i+1)=drains mc s j i:=drains_no hi0 h59
        refine ⟨_,by omega,_,⟨i+1,some ⟨bL,oL,none⟩,k3,rfl,rfl,by omega,?_⟩,?_⟩
        · rw [e,← e9];exact H.sel [0,1,2,3] rfl rfl
        · rw [e];exact F.to (by repeat (first | exact trivial | refine Le.cons rfl ?_))))
  replace h36:=of_decide_eq_false h36
  obtain rfl:i=manyB s j:=by omega
  have e:preT p mc s j++drains mc s j (manyB s j)=movesN p mc s (j+1):=by rw [preT,movesN,movesT,List.append_assoc]
  rw [e] at H F;refine wp_exit ?_;refine hK7 _ _ (cReg ?_);clear hK7
  refine sBin F rfl rfl rfl rfl (bAddN (j:=1) ?_) ?_
  focus omega
  clear F a;intro a F;refine sMv F rfl rfl rfl ?_;clear F a;intro a F;refine sNil ?_
  exact ⟨_,by omega,_,⟨j+1,A3,k3,rfl,rfl,by omega,H.sel [0,2,3] rfl rfl⟩,F.to (by repeat (first | exact trivial | refine Le.cons rfl ?_))⟩
 replace h15:=of_decide_eq_false h15;refine wp_exit ?_;refine hK3 _ _ (cSR fun K19 hK19=>sMv F rfl rfl rfl (qAs rfl rfl rfl (qNK hK19 ?_)));clear hK3 hK19;clear F a;intro a F;refine wp_ret ?_;refine bRet results52 F rfl ?_
 obtain rfl:j=p.threads.length:=by omega
 exact ⟨A,c,rfl,H.pick 0 rfl⟩
-- BfE
open Go.Proofs.Tryz
open Go.RowKit
set_option maxRecDepth 100000
structure RightM (p:Prg) (m:UInt8) (s:By):Prop where
 known:knownM m=true
 bare:rightS p (bareP s)=true
 fits:∀ t,t < 4→fitsP p m s t=true
theorem rightM_iff {p:Prg} {m:UInt8} {s:By}:rightM p m s=true ↔ RightM p m s:=by
 unfold rightM
 rw [Bool.and_eq_true,Bool.and_eq_true,allB_iff]
 exact ⟨fun h=>⟨h.1.1,h.1.2,h.2⟩,fun h=>⟨⟨h.known,h.bare⟩,h.fits⟩⟩
theorem bare_pc {s:By} {t:Nat} (ht:t < 4):bareP s (t * 9)=s (t * 9):=if_pos (by omega)
section
variable {p:Prg} {m:UInt8} {s:By}
theorem RightM.prog (h:RightM p m s):rightErr p=0:=right_of h.bare
theorem RightM.pc (h:RightM p m s) {t:Nat} {l:List Ins} (ht:t < 4) (hl:p.threads[t]? = some l):(s (t * 9)).toNat≤l.length:=by
 have h1:=h.bare
 unfold rightS stateOk at h1
 simp only [Bool.and_eq_true] at h1
 have h2:=(allB_iff.1 h1.2.1.1) t ht
 rw [threadSt_some hl,bare_pc ht] at h2
 exact of_decide_eq_true h2
theorem RightM.most (h:RightM p m s) {t:Nat} (ht:t < 4):manyB s t≤mostB p m s t:=by
 have h1:=h.fits t ht
 unfold fitsP at h1
 rw [Bool.and_eq_true] at h1
 exact of_decide_eq_true h1.1
theorem RightM.slot (h:RightM p m s) {t i:Nat} (ht:t < 4) (hi:i < 12):slotOk p m s t i=true:=by
 have h1:=h.fits t ht
 unfold fitsP at h1
 rw [Bool.and_eq_true] at h1
 exact allB_iff.1 h1.2 i hi
theorem RightM.many (h:RightM p m s) {t:Nat} (ht:t < 4):manyB s t≤12∧(manyB s t ≠ 0→m ≠ 1∧∃ l,p.threads[t]? = some l∧manyB s t≤(s (t * 9)).toNat∧(s (t * 9)).toNat≤l.length):=by
 have h1:=h.most ht
 unfold mostB at h1
 split at h1
 · rename_i hc
   have hl:p.threads[t]? = some p.threads[t]:=List.getElem?_eq_getElem hc.2
   have h2:=h.pc ht hl
   have h3:=(valid h.prog).long t _ hl
   exact ⟨by omega,fun _=>⟨hc.1,_,hl,h1,h2⟩⟩
 · exact ⟨by omega,fun h=>absurd h (by omega)⟩
theorem RightM.loc (h:RightM p m s) {t i:Nat} (ht:t < 4) (hi:i < manyB s t):(bLoc s t i).toNat < p.locs.length:=by
 have h1:=h.slot ht (show i < 12 by have:=(h.many ht).1;omega)
 unfold slotOk at h1
 rw [if_neg (by omega),Bool.and_eq_true] at h1
 exact of_decide_eq_true h1.1
end
set_option maxHeartbeats 2000000 in
theorem movesR_any (cs:List Value) (p:Prg) (w0:World) (hP:ProgAt w0 cs p) (hN:NeedsAt w0) (mc:UInt8) (s:By) :
   Calls Tryz.prog 27 #[.agg cs.toArray,Go.Proofs.YtbgnapmaimkpkaaGreatDoor.b8 mc,.agg (bs 142 s).toArray] w0 fun e w'=>∃ A c,e = .returned (.slice A (movesR p mc s).length c)∧Own w0 none w' [.rws 86 3 (.slice A (movesR p mc s).length c) ((movesR p mc s).map Pss.cells)]:=by
 have H:=Own.start w0 none
 obtain ⟨d1,d2,d3,d4,d5,d6,d7,d8,d9,d10,rfl⟩:=hP.len10
 refine enterF func27 rfl ntmps27 rfl (fun a F=>?_);refine cSR fun K1 hK1=>?_;refine sBx H F rfl rfl rfl ?_;clear F a H;intro b3 a w F H;refine sBxB H F rfl rfl rfl ?_;clear F a H;intro b5 a w F H;refine sAs F rfl rfl rfl (qNK hK1 ?_);clear hK1;clear F a;intro a F;refine cSeq (fun K2 hK2=>?_);refine cSR fun K3 hK3=>?_
 refine sLr underlying29 rfl ?si F rfl rfl rfl (H.whole 1 rfl) ?_
 case si=>exact info_size sizeOf29
 clear F a;intro a F;refine sMv F rfl rfl rfl (qLrB underlying70 rfl sizeOf70 rfl rfl rfl (H.whole 0 rfl) ?_);clear F a;intro a F;refine sCall call51 F rfl rfl rfl (rightM_any _ p _ (hP.own H) (hN.own H) mc s) ?_;rintro e w ⟨rfl,hb⟩;replace H:=H.grow hb;clear hb;refine ⟨_,rfl,?_⟩;clear F a;intro a F;refine sNot F rfl rfl rfl (qNK hK3 ?_);clear hK3;clear F a;intro a F
 refine cIf F rfl (fun h11=>?_) (fun h11=>?_)
 ·
  replace h11:=notT h11;refine cSR fun K4 hK4=>sAs F rfl rfl rfl (qNK hK4 ?_);clear hK4;clear F a;intro a F;refine wp_ret ?_;simp only [Exit.then];refine bRet results27 F rfl ?_
  first
    | (have e:movesR p mc s=[]:=by rw [movesR,h11];rfl
       rw [e]
       exact ⟨none,0,rfl,(H.sel [] rfl rfl).nilRws _ _⟩)
    | (have e:movesR p mc s=movesM p mc s:=by rw [movesR,h11];rfl
       rw [e]
       exact ⟨A,c,rfl,H.pick 0 rfl⟩)
 replace h11:=notF h11
 have hr:=rightM_iff.1 h11
 refine wp_skip (hK2 _ _ (cSR fun K5 hK5=>?_));clear hK2
 refine sLr underlying29 rfl ?si F rfl rfl rfl (H.whole 1 rfl) ?_
 case si=>exact info_size sizeOf29
 clear F a;intro a F;refine sMv F rfl rfl rfl (qLrB underlying70 rfl sizeOf70 rfl rfl rfl (H.whole 0 rfl) ?_);clear F a;intro a F;refine sCall call52 F rfl rfl rfl (movesM_any _ p _ (hP.own H) ((valid hr.prog).thr4) mc s (fun t ht=>(hr.many ht).1)) ?_;rintro e w ⟨A,c,rfl,H2⟩;replace H:=H.join H2;clear H2;refine ⟨_,rfl,?_⟩;clear F a;intro a F;refine sAs F rfl rfl rfl (qNK hK5 ?_);clear hK5;clear F a;intro a F;refine wp_ret ?_;refine bRet results27 F rfl ?_
 first
   | (have e:movesR p mc s=[]:=by rw [movesR,h11];rfl
      rw [e]
      exact ⟨none,0,rfl,(H.sel [] rfl rfl).nilRws _ _⟩)
   | (have e:movesR p mc s=movesM p mc s:=by rw [movesR,h11];rfl
      rw [e]
      exact ⟨A,c,rfl,H.pick 0 rfl⟩)
theorem indexX_any (A:Option Addr) (C:Nat) (l:List Pss) (x:Pss) (w0:World) (hR:RowsAt w0 A 3 (l.map Pss.cells)) (hl:l.length≤9223372036854775807) :
   Calls Tryz.prog 107 #[.slice A l.length C,.agg x.cells.toArray] w0 fun e w'=>∃ n:Int,e = .returned (.int .i64 n)∧(0≤n ↔ x ∈ l)∧Below w0.heap.size w0 w':=by
 have H:=Own.start w0 none
 refine enterF func107 rfl ntmps107 rfl (fun a F=>?_);refine cSR fun K1 hK1=>?_;refine sBx H F rfl rfl rfl ?_;clear F a H;intro b3 a w F H;refine sAs F rfl rfl rfl (qNK hK1 ?_);clear hK1;clear F a;intro a F;refine cSeq (fun K2 hK2=>?_);refine cSR fun K3 hK3=>sMv F rfl rfl rfl (qLen underlying58 rfl rfl rfl (qMv rfl rfl rfl (qNK hK3 ?_)));clear hK3;clear F a;intro a F;refine wp_block ?_
 refine cLoopR [0,3,7] (fun m ups w=>∃ j:Nat,m=l.length - j∧ups=[(8,.int .i64 ((j:Nat):Int))]∧j≤l.length∧(∀ i y,i < j→l[i]? = some y→x ≠ y)∧Own w0 none w [.blk b3 x.cells 86]) F (l.length) [(8,.int .i64 ((0:Nat):Int))] (by repeat (first | exact SubR.nil | (apply SubR.cons;· rfl))) ?_ ?_ ?_
 · exact ⟨0,rfl,rfl,by omega,fun i y hi=>absurd hi (by omega),H.sel [0] rfl rfl⟩
 · repeat (first | exact trivial | refine Le.cons rfl ?_)
 clear F
 clear H
 intro m ups a w hI F
 obtain ⟨j,rfl,rfl,hj,hno,H⟩:=hI
 refine cSR fun K4 hK4=>sBin F rfl rfl rfl rfl bLss (qNK hK4 ?_);clear hK4;clear F a;intro a F;refine cSeq (fun K5 hK5=>?_)
 refine cIf F rfl (fun h9=>?_) (fun h9=>?_)
 ·
  replace h9:=of_decide_eq_true h9
  obtain ⟨y,hy⟩:∃ y,l[j]? = some y:=⟨_,List.getElem?_eq_getElem (by omega)⟩
  obtain ⟨b,o,rfl,hx⟩:=hR j y.cells (by rw [List.getElem?_map,hy];rfl)
  refine wp_skip (hK5 _ _ ?_);clear hK5;refine cSeq (fun K6 hK6=>?_);refine wp_block ?_;refine cSR fun K7 hK7=>sMv F rfl rfl rfl (qAs rfl rfl rfl (qNK hK7 ?_));clear hK7;clear F a;intro a F;refine cSeq (fun K8 hK8=>?_);refine cRegRO (by kernel_rfl) H ?_;replace H:=H.drew
  refine eTake (k:=0) (i:=0) rfl (by kernel_rfl) F rfl rfl rfl rfl (fun w H=>rLr underlying86 rfl ?si F rfl (H.whole 0 rfl)) H (fun _ _ _ h=>h) ?_
  case si=>exact info_size sizeOf86
  clear F a;intro a F;refine eTF 1 rfl (by kernel_rfl) F rfl rfl rfl (fun w=>rMv F rfl) H qq0 (qTF 2 rfl (by kernel_rfl) rfl rfl rfl (fun a F w=>rMv F rfl) H qq0 ?_);clear F a;intro a F
  refine eTakeF (k:=3) (i:=3) rfl (by kernel_rfl) F rfl rfl rfl (fun w=>rIx underlying58 sizeOf86 F rfl rfl ?_) H (fun _ _ _ h=>h) ?_
  focus (first | omega | decide | (simp;omega))
  clear F a;intro a F
  refine eTake (k:=4) (i:=4) rfl (by kernel_rfl) F rfl rfl rfl rfl (fun w H=>rLr underlying86 rfl ?si F rfl (H.argR hx)) H (fun _ _ _ h=>h) ?_
  case si=>exact info_size sizeOf86
  clear F a;intro a F;refine eTF 5 rfl (by kernel_rfl) F rfl rfl rfl (fun w=>rBin F rfl rfl (bEqX (x:=x) (y:=y))) H qq0 ?_;clear F a;intro a F;refine eNil (k:=6) (by kernel_rfl) ?_;refine hK8 _ _ ?_;clear hK8
  refine cIf F rfl (fun h16=>?_) (fun h16=>?_)
  ·
   refine cSR fun K9 hK9=>sMv F rfl rfl rfl (qAs rfl rfl rfl (qNK hK9 ?_));clear hK9;clear F a;intro a F;refine wp_ret ?_;simp only [Exit.inBlock,Exit.then];refine bRet results107 F rfl ?_
   first
     | (have he:x=y:=of_decide_eq_true h16
        exact ⟨_,rfl,⟨fun _=>he ▸ List.mem_of_getElem? hy,fun _=>by omega⟩,H.below⟩)
     | (refine ⟨_,rfl,⟨fun h=>absurd h (by omega),fun h=>?_⟩,H.below⟩
        obtain ⟨i,hi⟩:=List.mem_iff_getElem?.1 h
        exact absurd rfl (hno i x (by have:=(List.getElem?_eq_some_iff.1 hi).1;omega) hi))
  refine wp_skip (hK6 _ _ (cReg ?_));clear hK6
  refine sBin F rfl rfl rfl rfl (bAddN (j:=1) ?_) ?_
  focus omega
  clear F a;intro a F;refine sMv F rfl rfl rfl ?_;clear F a;intro a F;refine sNil ?_
  (have hne:x ≠ y:=of_decide_eq_false h16
   refine ⟨_,by omega,_,⟨j+1,rfl,rfl,by omega,fun i z hi hz=>?_,H.sel [0] rfl rfl⟩,F.to (by repeat (first | exact trivial | refine Le.cons rfl ?_))⟩
   rcases Nat.lt_or_ge i j with h | h
   · exact hno i z h hz
   · obtain rfl:i=j:=by omega
     rw [hy] at hz;cases hz;exact hne)
 replace h9:=of_decide_eq_false h9;refine wp_exit ?_;refine hK2 _ _ (cSR fun K10 hK10=>sAs F rfl rfl rfl (qNK hK10 ?_));clear hK2 hK10;clear F a;intro a F;refine wp_ret ?_;refine bRet results107 F rfl ?_
 first
   | (have he:x=y:=of_decide_eq_true h16
      exact ⟨_,rfl,⟨fun _=>he ▸ List.mem_of_getElem? hy,fun _=>by omega⟩,H.below⟩)
   | (refine ⟨_,rfl,⟨fun h=>absurd h (by omega),fun h=>?_⟩,H.below⟩
      obtain ⟨i,hi⟩:=List.mem_iff_getElem?.1 h
      exact absurd rfl (hno i x (by have:=(List.getElem?_eq_some_iff.1 hi).1;omega) hi))
theorem containsX_any (A:Option Addr) (C:Nat) (l:List Pss) (x:Pss) (w0:World) (hR:RowsAt w0 A 3 (l.map Pss.cells)) (hl:l.length≤9223372036854775807) :
   Calls Tryz.prog 53 #[.slice A l.length C,.agg x.cells.toArray] w0 fun e w'=>e = .returned (.bool (decide (x ∈ l)))∧Below w0.heap.size w0 w':=by
 have H:=Own.start w0 none
 refine enterF func53 rfl ntmps53 rfl (fun a F=>?_);refine cSR fun K1 hK1=>?_;refine sBx H F rfl rfl rfl ?_;clear F a H;intro b3 a w F H;refine sAs F rfl rfl rfl (qNK hK1 (qSR fun K2 hK2=>qMv rfl rfl rfl ?_));clear hK1;clear F a;intro a F
 refine sLr underlying86 rfl ?si F rfl rfl rfl (H.whole 0 rfl) ?_
 case si=>exact info_size sizeOf86
 clear F a;intro a F;refine sCall call107 F rfl rfl rfl (indexX_any A C l x _ (hR.own H) hl) ?_;rintro e w ⟨n,rfl,hn,hb⟩;replace H:=H.grow hb;clear hb;refine ⟨_,rfl,?_⟩;clear F a;intro a F;refine sBin F rfl rfl rfl rfl bGeq (qAs rfl rfl rfl (qNK hK2 ?_));clear hK2;clear F a;intro a F;refine wp_ret ?_;refine bRet results53 F rfl ?_
 exact ⟨by rw [show decide (x ∈ l)=decide ((0:Int)≤n) from decide_eq_decide.2 hn.symm],H.below⟩
end Go.Proofs.YtbgnapmaimkpkaaGreatDoor
