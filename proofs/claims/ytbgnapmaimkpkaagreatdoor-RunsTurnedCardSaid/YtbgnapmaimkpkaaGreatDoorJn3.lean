/-
  WALK2. Package buffer: step. Conditions: the program lies in memory; block 0 holds the table of needs; the state is valid, the move one of its moves.
-/
import Derived.Test.YtbgnapmaimkpkaaGreatDoorJn2
set_option linter.unusedSimpArgs false
set_option linter.unusedVariables false
namespace Go.Proofs.YtbgnapmaimkpkaaGreatDoor
-- BfF
open Go.Proofs.Tryz
open Go.RowKit
set_option maxRecDepth 100000
theorem ofNat_to {t:Nat} (h:t < 4):(UInt8.ofNat t).toNat=t:=by
 rw [UInt8.toNat_ofNat']
 omega
def MoveIs (p:Prg) (m:UInt8) (s:By) (x:Pss) (t:Nat):Prop:=(x=⟨UInt8.ofNat t,false,0⟩∧enabledM p m s t=true)∨(∃ i,i < manyB s t∧x=drainAt m s t i)
theorem mem_drains {m:UInt8} {s:By} {t:Nat} {x:Pss}:∀ {n},x ∈ drains m s t n→∃ i,i < n∧x=drainAt m s t i
 | 0,h=>by simp [drains] at h
 | n+1,h=>by
   rw [drains] at h
   split at h
   · rcases List.mem_append.1 h with h | h
     · obtain ⟨i,hi,e⟩:=mem_drains h
       exact ⟨i,by omega,e⟩
     · exact ⟨n,by omega,by simpa using h⟩
   · obtain ⟨i,hi,e⟩:=mem_drains h
     exact ⟨i,by omega,e⟩
theorem mem_movesT {p:Prg} {m:UInt8} {s:By} {t:Nat} {x:Pss} (h:x ∈ movesT p m s t):MoveIs p m s x t:=by
 unfold movesT at h
 rcases List.mem_append.1 h with h | h
 · split at h
   · rename_i he
     exact .inl ⟨by simpa using h,he⟩
   · simp at h
 · exact .inr (mem_drains h)
theorem mem_movesN {p:Prg} {m:UInt8} {s:By} {x:Pss}:∀ {n},x ∈ movesN p m s n→∃ t,t < n∧MoveIs p m s x t
 | 0,h=>by simp [movesN] at h
 | n+1,h=>by
   rw [movesN] at h
   rcases List.mem_append.1 h with h | h
   · obtain ⟨t,ht,e⟩:=mem_movesN h
     exact ⟨t,by omega,e⟩
   · exact ⟨n,by omega,mem_movesT h⟩
theorem enabledM_at {p:Prg} {m:UInt8} {s:By} {t:Nat} (h:enabledM p m s t=true):∃ l x,p.threads[t]? = some l∧l[(s (t * 9)).toNat]? = some x∧nextI p s t=some x∧readyI x m s t=true:=by
 unfold enabledM at h
 cases hn:nextI p s t with
 | none=>rw [hn] at h;cases h
 | some x=>
   rw [hn] at h
   have hn2:=hn
   unfold nextI at hn2
   cases hl:p.threads[t]? with
   | none=>rw [hl] at hn2;cases hn2
   | some l=>
     rw [hl] at hn2
     exact ⟨l,x,rfl,hn2,rfl,h⟩
theorem addP_congr {m:UInt8} {s st st':By} {t:Nat} (h0:st 0=st' 0) (h1:st 1=st' 1):addP m s t st=addP m s t st':=by
 unfold addP addR
 rw [h0]
 have:∀ (a:By) (o:Nat),lay a o 2 st=lay a o 2 st':=fun a o=>by
   funext i
   unfold lay
   split
   · rename_i h
     rcases (show i - o=0∨i - o=1 by omega) with e | e <;> rw [e]
     · exact h0
     · exact h1
   · rfl
 rw [this]
theorem op_of {p:Prg} {t i:Nat} {l:List Ins} {x:Ins} (h:rightErr p=0) (hl:p.threads[t]? = some l) (hx:l[i]? = some x):x.op=1∨x.op=2∨x.op=3∨x.op=4∨x.op=5∨x.op=6∨x.op=7∨x.op=8:=
 op_cases x.op (ins_cond (inses_at ((valid h).ins t l hl) hx) 0 (by omega))
theorem move_bare {p:Prg} {m:UInt8} {s:By} {t:Nat} {l:List Ins} {x:Ins} (h:RightM p m s) (ht:t < 4) (hl:p.threads[t]? = some l) (hx:l[(s (t * 9)).toNat]? = some x):moveS p (bareP s) (t:Int)=moveP x (bareP s) t:=by
 have hx':l[(bareP s (t * 9)).toNat]? = some x:=by rw [bare_pc ht];exact hx
 have hm:movable p (bareP s) (t:Int)=true:=by
   unfold movable movesP
   rw [h.bare,if_pos rfl,List.any_eq_true]
   refine ⟨t,List.mem_filter.2 ⟨List.mem_range.2 (List.getElem?_eq_some_iff.1 hl).1,?_⟩,by simp⟩
   rw [mayP_at hl]
   exact decide_eq_true (List.getElem?_eq_some_iff.1 hx').1
 unfold moveS
 rw [hm,if_pos rfl,Int.toNat_natCast]
 exact stepP_at hl hx'
theorem far_at {p:Prg} {x:Ins} (h:isLocal x=true∨(isLocal x=false∧isFar x.op∧x.loc.toNat < p.locs.length∧(x.op ≠ 2→x.dst.toNat < 8))) (hL:isLocal x=false):x.loc.toNat < p.locs.length∧(x.op ≠ 2→x.dst.toNat < 8):=by
 rcases h with h | h
 · rw [h] at hL;cases hL
 · exact h.2.2
theorem add_room {p:Prg} {m:UInt8} {s:By} {t:Nat} {l:List Ins} (h:RightM p m s) (ht:t < 4) (hl:p.threads[t]? = some l) (hpc:(s (t * 9)).toNat < l.length) (h12:l.length≤12):manyB s t≤11:=by
 rcases Nat.eq_zero_or_pos (manyB s t) with h0 | h0
 · omega
 · obtain ⟨_,l',hl',h1,_⟩:=(h.many ht).2 (by omega)
   omega
theorem exec_load {m:UInt8} {x:Ins} {s:By} {t:Nat} (h1:x.op=1) (hd:x.dst.toNat < 8) :
   lay s (t * 9) 9 (put (put (cut s (t * 9)) (1+x.dst.toNat) (seenP s t x.loc)) 0 (put (cut s (t * 9)) (1+x.dst.toNat) (seenP s t x.loc) 0+1))=execP m x s t:=by
 have h2:¬ x.op=2:=by rw [h1];decide
 unfold execP farP withP
 rw [if_pos h1,if_neg h2,if_pos hd,show put (cut s (t * 9)) (1+x.dst.toNat) (seenP s t x.loc) 0=cut s (t * 9) 0 from if_neg (by omega)]
theorem exec_sc {m:UInt8} {x:Ins} {s:By} {t:Nat} (h1:¬ x.op=1) (h2:x.op=2) (hm:m=1) :
   lay (put s (36+x.loc.toNat) (worthP x.aR x.aN (cut (cut s (t * 9)) 1))) (t * 9) 9 (put (cut s (t * 9)) 0 (cut s (t * 9) 0+1))=execP m x s t:=by
 unfold execP
 rw [if_neg h1,if_pos h2,if_pos hm]
 rfl
theorem exec_st {m:UInt8} {x:Ins} {s:By} {t:Nat} (h1:¬ x.op=1) (h2:x.op=2) (hm:¬ m=1) :
   lay (addP m s t (put (put zb 0 x.loc) 1 (worthP x.aR x.aN (cut (cut s (t * 9)) 1)))) (t * 9) 9 (put (cut s (t * 9)) 0 (cut s (t * 9) 0+1))=execP m x s t:=by
 unfold execP
 have e:=addP_congr (m:=m) (s:=s) (t:=t) (st:=put (put zb 0 x.loc) 1 (worthP x.aR x.aN (cut (cut s (t * 9)) 1))) (st':=stP x.loc (valA x (cut s (t * 9)))) rfl rfl
 rw [if_neg h1,if_pos h2,if_neg hm,e]
 rfl
theorem exec_local {m:UInt8} {x:Ins} {s:By} {t:Nat} (h1:¬ x.op=1) (h2:¬ x.op=2) (h4:¬ (x.op=4∨x.op=5∨x.op=6)):lay s (t * 9) 9 (localP x (cut s (t * 9)))=execP m x s t:=by
 unfold execP
 rw [if_neg h1,if_neg h2,if_neg h4]
theorem exec_at {m:UInt8} {x:Ins} {s z:By} {t:Nat} (ht:t < 4) (hloc:isLocal x=false→x.loc.toNat < 6) (h1:¬ x.op=1) (h2:¬ x.op=2) (h4:x.op=4∨x.op=5∨x.op=6) (hz:z=moveP x (bareP s) t) (i:Nat) :
   lay (lay s 36 6 (cut z 36)) (t * 9) 9 (cut z (t * 9)) i=execP m x s t i:=by
 have hL:isLocal x=false:=by rcases h4 with h | h | h <;> simp [isLocal,h]
 have hl6:=hloc hL
 have hc:∀ k,k < 9→cut (bareP s) (t * 9) k=cut s (t * 9) k:=fun k hk=>if_pos (by omega)
 have hb:bareP s (36+x.loc.toNat)=s (36+x.loc.toNat):=if_pos (by omega)
 unfold execP
 rw [if_neg h1,if_neg h2,if_pos h4,moveP_at]
 unfold lay
 by_cases hi:t * 9≤i∧i < t * 9+9
 · rw [if_pos hi,if_pos hi]
   unfold cut
   rw [hz,moveP_at,if_pos (by omega),hb,show t * 9+(i - t * 9) - t * 9=i - t * 9 by omega]
   exact thrP_congr hc _ (by omega)
 · rw [if_neg hi,if_neg hi]
   by_cases hm:36≤i∧i < 36+6
   · rw [if_pos hm]
     unfold cut
     rw [show 36+(i - 36)=i by omega,hz,moveP_at,if_neg hi]
     split
     · rw [hb];exact hasP_congr hc
     · exact if_pos (by omega)
   · rw [if_neg hm,if_neg (by omega)]
set_option maxHeartbeats 4000000 in
theorem stepM_any (cs:List Value) (p:Prg) (w0:World) (hP:ProgAt w0 cs p) (hN:NeedsAt w0) (mc:UInt8) (s:By) (x:Pss) (hr:RightM p mc s) (hx:x ∈ movesM p mc s) :
   Calls Tryz.prog 54 #[.agg cs.toArray,Go.Proofs.YtbgnapmaimkpkaaGreatDoor.b8 mc,.agg (bs 142 s).toArray,.agg x.cells.toArray] w0 fun e w'=>e = .returned (.agg (bs 142 (stepM p mc s x)).toArray)∧Below w0.heap.size w0 w':=by
 have H:=Own.start w0 none
 have V:=valid hr.prog
 have hV4:=V.thr4
 have hV6:=V.locs6
 have hP0:=hP
 obtain ⟨LA,LC,IA,IC,TA,TC,h,ccs,hp⟩:=hP
 obtain ⟨c1,c2,c3,c4,c5,rfl⟩:=len5 (condAt_len hp.cond)
 have hcs:=hp.cs
 subst hcs
 obtain ⟨t,htl,hmv⟩:=mem_movesN hx
 have ht4:t < 4:=by omega
 have hto:=ofNat_to ht4
 have hmany:=hr.many ht4
 rcases hmv with ⟨rfl,hen⟩ | ⟨i,hi,rfl⟩
 · obtain ⟨u,rfl⟩:∃ u:UInt8,t=u.toNat:=⟨UInt8.ofNat t,hto.symm⟩
   rw [UInt8.ofNat_toNat] at hx ⊢
   obtain ⟨l,ix,hl,hix,hnx,hrd⟩:=enabledM_at hen
   have hop:=op_of hr.prog hl hix
   have hfi:=fineL hr.prog hl hix
   have hpc:=(List.getElem?_eq_some_iff.1 hix).1
   have hl12:=V.long u.toNat l hl
   have hmv2:=move_bare hr ht4 hl hix
   have hme:manyB s u.toNat=(s (138+u.toNat)).toNat:=rfl
   obtain ⟨bT,oT,BT,CT,rfl,hT1,hT2,hT3⟩:=hp.threads u.toNat l hl
   obtain ⟨bI,oI,rfl,hI⟩:=hT2 (s (u.toNat * 9)).toNat ix.cells (by rw [List.getElem?_map,hix];rfl)
   have hst:stepM p mc s ⟨u,false,0⟩=execP mc ix s u.toNat:=by
     unfold stepM
     rw [if_neg (by simp)]
     simp only [hnx]
   rw [show (Pss.mk u false 0).cells=[Go.Proofs.YtbgnapmaimkpkaaGreatDoor.b8 u,.bool false,Go.Proofs.YtbgnapmaimkpkaaGreatDoor.b8 0] from rfl]
   refine enterF func54 rfl ntmps54 rfl (fun a F=>?_);refine cSR fun K1 hK1=>?_;refine sBx H F rfl rfl rfl ?_;clear F a H;intro b4 a w F H;refine sBxB H F rfl rfl rfl ?_;clear F a H;intro b6 a w F H;refine sBx H F rfl rfl rfl ?_;clear F a H;intro b7 a w F H;refine sAlB H zB70 F rfl rfl ?_;clear F a H;intro b8 a w F H;refine nK hK1 ?_;clear hK1;refine cSeq (fun K2 hK2=>?_);refine cSR fun K3 hK3=>sFa (f:=1) (k:=1) underlying86 rfl sizeOf4 rfl rfl F rfl rfl rfl (qLd isAgg4 rfl rfl rfl (H.cell 1 rfl rfl) (qNK hK3 ?_));clear hK3;clear F a;intro a F
   refine cIf F rfl (fun h16=>?_) (fun h16=>?_)
   ·
    cases h16
   refine wp_skip (hK2 _ _ (cSR fun K4 hK4=>sFa (f:=0) (k:=0) underlying86 rfl sizeOf5 rfl rfl F rfl rfl rfl (qLd isAgg5 rfl rfl rfl (H.cell 1 rfl rfl) (qCv underlying5 underlying3 rfl rfl rfl (wrapB _) (qAs rfl rfl rfl (qNK hK4 (qSR fun K5 hK5=>qMv rfl rfl rfl (qFa (f:=0) (k:=0) underlying70 rfl sizeOf63 rfl rfl rfl rfl rfl ?_))))))));clear hK2 hK4;clear F a;intro a F
   refine sIaZ underlying63 sizeOf62 F rfl rfl rfl rfl ?_ ?_
   focus (first | omega | decide | (simp;omega))
   clear F a;intro a F;refine sLrB underlying62 rfl sizeOf62 F rfl rfl rfl (H.rangeB 2 _ 9 rfl (by omega)) ?_;clear F a;intro a F;refine sAlB H zB62 F rfl rfl ?_;clear F a H;intro b10 a w F H;refine sSrB H 0 sizeOf62 F rfl rfl rfl rfl (by omega) ?_;clear H;intro w H;rw [lay_all] at H;refine nK hK5 ?_;clear hK5;refine cSeq (fun K6 hK6=>?_);refine cRegRO (by kernel_rfl) H ?_;replace H:=H.drew;refine eTF 0 rfl (by kernel_rfl) F rfl rfl rfl (fun w=>rFa (f:=3) (k:=3) underlying29 rfl sizeOf24 rfl rfl F rfl) H qq0 (qT 1 rfl (by kernel_rfl) rfl rfl rfl rfl (fun a F w H=>rLd isAgg24 F rfl (H.cell 4 rfl rfl)) H qq0 (qTF 2 rfl (by kernel_rfl) rfl rfl rfl (fun a F w=>rMv F rfl) H qq0 ?_));clear F a;intro a F
   refine eTakeF (k:=3) (i:=3) rfl (by kernel_rfl) F rfl rfl rfl (fun w=>rIx underlying24 sizeOf33 F rfl rfl ?_) H (fun _ _ _ h=>h) ?_
   focus (first | omega | decide | (simp;omega))
   clear F a;intro a F;refine eT 4 rfl (by kernel_rfl) F rfl rfl rfl rfl (fun w H=>rLd isAgg33 F rfl (H.arg hT1)) H qq0 (qTF 5 rfl (by kernel_rfl) rfl rfl rfl (fun a F w=>rFa (f:=0) (k:=0) underlying62 rfl sizeOf5 rfl rfl F rfl) H qq0 (qT 6 rfl (by kernel_rfl) rfl rfl rfl rfl (fun a F w H=>rLd isAgg5 F rfl (H.cellB 0 rfl (by omega))) H qq0 ?_));clear F a;intro a F
   refine eTakeF (k:=7) (i:=7) rfl (by kernel_rfl) F rfl rfl rfl (fun w=>rIx underlying33 sizeOf37 F rfl rfl ?_) H (fun _ _ _ h=>h) ?_
   focus exact hpc
   clear F a;intro a F
   refine eTake (k:=8) (i:=8) rfl (by kernel_rfl) F rfl rfl rfl rfl (fun w H=>rLr underlying37 rfl ?si F rfl (H.argR hI)) H (fun _ _ _ h=>h) ?_
   case si=>exact info_size sizeOf37
   clear F a;intro a F;refine eOne (k:=9) (i:=9) rfl (by kernel_rfl) F rfl (oAl H zeroValue37 F rfl ?_);clear F a H;intro b11 a w F H;refine eKeep H.tail ?_
   refine eOne (k:=10) (i:=10) rfl (by kernel_rfl) F rfl (oSr H 0 ?si F rfl rfl ?s1 rfl rfl ?_)
   case si=>exact info_size sizeOf37
   case s1=>first | rfl | (repeat (first | exact one_nil | (apply one_cons;· first | rfl | assumption | exact one_bif rfl rfl)))
   clear H;intro w H;refine ePartO (by kernel_rfl) H ?_;refine eNil (k:=11) (by kernel_rfl) ?_;refine hK6 _ _ ?_;clear hK6;refine cSeq (fun K7 hK7=>?_);refine cSR fun K8 hK8=>sFa (f:=0) (k:=0) underlying37 rfl sizeOf5 rfl rfl F rfl rfl rfl (qLd isAgg5 rfl rfl rfl (H.cell 0 rfl rfl) (qNK hK8 ?_));clear hK8;clear F a;intro a F;refine wp_block ?_;refine cSR fun K9 hK9=>sBin F rfl rfl rfl rfl (bEqlB (y:=1)) (qAs rfl rfl rfl (qNK hK9 ?_));clear hK9;clear F a;intro a F
   refine cIf F rfl (fun h45=>?_) (fun h45=>?_)
   ·
    replace h45:=beqT h45
    obtain ⟨hloc,hdst⟩:=far_at hfi (by simp [isLocal,h45])
    replace hdst:=hdst (by rw [h45];decide)
    refine cSeq (fun K10 hK10=>?_);refine cRegRO (by kernel_rfl) H ?_;replace H:=H.drew;refine eTF 0 rfl (by kernel_rfl) F rfl rfl rfl (fun w=>rFa (f:=1) (k:=1) underlying37 rfl sizeOf5 rfl rfl F rfl) H qq0 (qT 1 rfl (by kernel_rfl) rfl rfl rfl rfl (fun a F w H=>rLd isAgg5 F rfl (H.cell 0 rfl rfl)) H qq0 (qT 2 rfl (by kernel_rfl) rfl rfl rfl rfl (fun a F w H=>rLrB underlying70 rfl sizeOf70 F rfl (H.whole 4 rfl)) H qq0 (qTF 3 rfl (by kernel_rfl) rfl rfl rfl (fun a F w=>rMv F rfl) H qq0 (qTF 4 rfl (by kernel_rfl) rfl rfl rfl (fun a F w=>rFa (f:=2) (k:=2) underlying37 rfl sizeOf5 rfl rfl F rfl) H qq0 (qT 5 rfl (by kernel_rfl) rfl rfl rfl rfl (fun a F w H=>rLd isAgg5 F rfl (H.cell 0 rfl rfl)) H qq0 (qTF 7 rfl (by kernel_rfl) rfl rfl rfl (fun a F w=>rFa (f:=1) (k:=1) underlying62 rfl sizeOf43 rfl rfl F rfl) H qq0 ?_))))));clear F a;intro a F;refine eOne (k:=7) (i:=6) rfl (by kernel_rfl) F rfl (oCall call109 F rfl rfl (seen_any s u.toNat ix.loc _ ht4 (by omega)) ?_);rintro e w ⟨rfl,hb⟩;replace H:=H.grow hb;clear hb;refine ⟨_,rfl,?_⟩;clear F a;intro a F;refine eKeep H ?_
    refine eTakeF (k:=8) (i:=8) rfl (by kernel_rfl) F rfl rfl rfl (fun w=>rIa1 underlying43 sizeOf5 F rfl rfl ?_) H (fun _ _ _ h=>h) ?_
    focus (first | omega | decide | (simp;omega))
    clear F a;intro a F;refine eOne (k:=9) (i:=9) rfl (by kernel_rfl) F rfl (oStB H 1 sizeOf5 F rfl rfl rfl (by omega) ?_);clear H;intro w H;refine ePartO (by kernel_rfl) H ?_;refine eNil (k:=10) (by kernel_rfl) ?_;refine hK10 _ _ (cReg (sFa (f:=0) (k:=0) underlying62 rfl sizeOf5 rfl rfl F rfl rfl rfl (qLd isAgg5 rfl rfl rfl (H.cellB 1 rfl (by omega)) (qBin rfl rfl rfl rfl (bAddB (y:=1)) (qFa (f:=0) (k:=0) underlying62 rfl sizeOf5 rfl rfl rfl rfl rfl ?_)))));clear hK10;clear F a;intro a F;refine sStB H 1 sizeOf5 F rfl rfl rfl rfl (by omega) ?_;clear H;intro w H;refine nK hK7 (cSR fun K11 hK11=>sMv F rfl rfl rfl (qLrB underlying62 rfl sizeOf62 rfl rfl rfl (H.whole 1 rfl) (qFa (f:=0) (k:=0) underlying70 rfl sizeOf63 rfl rfl rfl rfl rfl ?_)));clear hK7;clear F a;intro a F
    refine sIaZ underlying63 sizeOf62 F rfl rfl rfl rfl ?_ ?_
    focus (first | omega | decide | (simp;omega))
    clear F a;intro a F;refine sSrB H 4 sizeOf62 F rfl rfl rfl rfl (by omega) ?_;clear H;intro w H;refine nK hK11 (cSR fun K12 hK12=>sLrB underlying70 rfl sizeOf70 F rfl rfl rfl (H.whole 4 rfl) ?_);clear hK11;clear F a;intro a F;refine sSrB H 2 sizeOf70 F rfl rfl rfl rfl (by omega) ?_;clear H;intro w H;rw [lay_all] at H;refine nK hK12 ?_;clear hK12;refine wp_ret ?_;refine bRetB results54 F rfl underlying70 rfl sizeOf70 H 2 rfl ?_
    refine ⟨?_,H.below⟩
    clear F H
    rw [hst]
    first
      | rw [exec_load h45 hdst]
      | rw [exec_sc h45 h60 h72]
      | rw [exec_st h45 h60 h72]
      | exact retB1 fun i _=>exec_at ht4 (fun h=>by have:=(far_at hfi h).1;omega) h45 h60 (by first | exact .inl h86 | exact .inr (.inl h86) | exact .inr (.inr h86)) hmv2 i
      | rw [exec_local h45 h60 (by rintro (h | h | h) <;> contradiction)]
   replace h45:=beqF h45;refine cSR fun K13 hK13=>sBin F rfl rfl rfl rfl (bEqlB (y:=2)) (qAs rfl rfl rfl (qNK hK13 ?_));clear hK13;clear F a;intro a F
   refine cIf F rfl (fun h60=>?_) (fun h60=>?_)
   ·
    replace h60:=beqT h60
    obtain ⟨hloc,_⟩:=far_at hfi (by simp [isLocal,h60])
    refine cSR fun K14 hK14=>sFa (f:=3) (k:=3) underlying37 rfl sizeOf35 rfl rfl F rfl rfl rfl ?_;clear F a;intro a F
    refine sLr underlying35 rfl ?si F rfl rfl rfl (H.range 0 rfl _ 2) ?_
    case si=>exact info_size sizeOf35
    clear F a;intro a F;refine sFa (f:=1) (k:=1) underlying62 rfl sizeOf43 rfl rfl F rfl rfl rfl (qLrB underlying43 rfl sizeOf43 rfl rfl rfl (H.rangeB 1 _ 8 rfl (by omega)) ?_);clear F a;intro a F;refine sCall call110 F rfl rfl rfl (worth_any ix.aR ix.aN _ _) ?_;rintro e w ⟨rfl,hb⟩;replace H:=H.grow hb;clear hb;refine ⟨_,rfl,?_⟩;clear F a;intro a F;refine sAs F rfl rfl rfl (qNK hK14 (qSR fun K15 hK15=>qFa (f:=0) (k:=0) underlying62 rfl sizeOf5 rfl rfl rfl rfl rfl (qLd isAgg5 rfl rfl rfl (H.cellB 1 rfl (by omega)) (qBin rfl rfl rfl rfl (bAddB (y:=1)) (qFa (f:=0) (k:=0) underlying62 rfl sizeOf5 rfl rfl rfl rfl rfl ?_)))));clear hK14;clear F a;intro a F;refine sStB H 1 sizeOf5 F rfl rfl rfl rfl (by omega) ?_;clear H;intro w H;refine nK hK15 (cSR fun K16 hK16=>sMv F rfl rfl rfl (qBin rfl rfl rfl rfl (bEqlB (y:=1)) (qNK hK16 ?_)));clear hK15 hK16;clear F a;intro a F
    refine cIf F rfl (fun h72=>?_) (fun h72=>?_)
    ·
     replace h72:=beqT h72;refine cReg (sFa (f:=2) (k:=2) underlying37 rfl sizeOf5 rfl rfl F rfl rfl rfl (qLd isAgg5 rfl rfl rfl (H.cell 0 rfl rfl) (qMv rfl rfl rfl (qFa (f:=1) (k:=36) underlying70 rfl sizeOf45 rfl rfl rfl rfl rfl ?_))));clear F a;intro a F
     refine sIa1 underlying45 sizeOf5 F rfl rfl rfl rfl ?_ ?_
     focus (first | omega | decide | (simp;omega))
     clear F a;intro a F;refine sStB H 4 sizeOf5 F rfl rfl rfl rfl (by omega) ?_;clear H;intro w H;refine nK hK7 (cSR fun K17 hK17=>sMv F rfl rfl rfl (qLrB underlying62 rfl sizeOf62 rfl rfl rfl (H.whole 1 rfl) (qFa (f:=0) (k:=0) underlying70 rfl sizeOf63 rfl rfl rfl rfl rfl ?_)));clear hK7;clear F a;intro a F
     refine sIaZ underlying63 sizeOf62 F rfl rfl rfl rfl ?_ ?_
     focus (first | omega | decide | (simp;omega))
     clear F a;intro a F;refine sSrB H 4 sizeOf62 F rfl rfl rfl rfl (by omega) ?_;clear H;intro w H;refine nK hK17 (cSR fun K18 hK18=>sLrB underlying70 rfl sizeOf70 F rfl rfl rfl (H.whole 4 rfl) ?_);clear hK17;clear F a;intro a F;refine sSrB H 2 sizeOf70 F rfl rfl rfl rfl (by omega) ?_;clear H;intro w H;rw [lay_all] at H;refine nK hK18 ?_;clear hK18;refine wp_ret ?_;refine bRetB results54 F rfl underlying70 rfl sizeOf70 H 2 rfl ?_
     refine ⟨?_,H.below⟩
     clear F H
     rw [hst]
     first
       | rw [exec_load h45 hdst]
       | rw [exec_sc h45 h60 h72]
       | rw [exec_st h45 h60 h72]
       | exact retB1 fun i _=>exec_at ht4 (fun h=>by have:=(far_at hfi h).1;omega) h45 h60 (by first | exact .inl h86 | exact .inr (.inl h86) | exact .inr (.inr h86)) hmv2 i
       | rw [exec_local h45 h60 (by rintro (h | h | h) <;> contradiction)]
    replace h72:=beqF h72;refine cReg (sMv F rfl rfl rfl (qLrB underlying70 rfl sizeOf70 rfl rfl rfl (H.whole 4 rfl) (qMv rfl rfl rfl (qFa (f:=2) (k:=2) underlying37 rfl sizeOf5 rfl rfl rfl rfl rfl (qLd isAgg5 rfl rfl rfl (H.cell 0 rfl rfl) (qMv rfl rfl rfl (qBdB (places:=[(0,1),(1,1)]) zB65 underlying65 (by kernel_rfl) rfl rfl rfl (FillB.one rfl rfl (FillB.one rfl rfl FillB.nil)) ?_)))))));clear F a;intro a F;refine sCall call111 F rfl rfl rfl (add_any mc s u.toNat _ _ ht4 (add_room hr ht4 hl hpc hl12)) ?_;rintro e w ⟨rfl,hb⟩;replace H:=H.grow hb;clear hb;refine ⟨_,rfl,?_⟩;clear F a;intro a F;refine sSrB H 4 sizeOf70 F rfl rfl rfl rfl (by omega) ?_;clear H;intro w H;rw [lay_all] at H;refine nK hK7 (cSR fun K19 hK19=>sMv F rfl rfl rfl (qLrB underlying62 rfl sizeOf62 rfl rfl rfl (H.whole 1 rfl) (qFa (f:=0) (k:=0) underlying70 rfl sizeOf63 rfl rfl rfl rfl rfl ?_)));clear hK7;clear F a;intro a F
    refine sIaZ underlying63 sizeOf62 F rfl rfl rfl rfl ?_ ?_
    focus (first | omega | decide | (simp;omega))
    clear F a;intro a F;refine sSrB H 4 sizeOf62 F rfl rfl rfl rfl (by omega) ?_;clear H;intro w H;refine nK hK19 (cSR fun K20 hK20=>sLrB underlying70 rfl sizeOf70 F rfl rfl rfl (H.whole 4 rfl) ?_);clear hK19;clear F a;intro a F;refine sSrB H 2 sizeOf70 F rfl rfl rfl rfl (by omega) ?_;clear H;intro w H;rw [lay_all] at H;refine nK hK20 ?_;clear hK20;refine wp_ret ?_;refine bRetB results54 F rfl underlying70 rfl sizeOf70 H 2 rfl ?_
    refine ⟨?_,H.below⟩
    clear F H
    rw [hst]
    first
      | rw [exec_load h45 hdst]
      | rw [exec_sc h45 h60 h72]
      | rw [exec_st h45 h60 h72]
      | exact retB1 fun i _=>exec_at ht4 (fun h=>by have:=(far_at hfi h).1;omega) h45 h60 (by first | exact .inl h86 | exact .inr (.inl h86) | exact .inr (.inr h86)) hmv2 i
      | rw [exec_local h45 h60 (by rintro (h | h | h) <;> contradiction)]
   replace h60:=beqF h60;refine cSeq (fun K21 hK21=>?_);refine cSR fun K22 hK22=>sBin F rfl rfl rfl rfl (bEqlB (y:=4)) (qAs rfl rfl rfl (qNK hK22 ?_));clear hK22;clear F a;intro a F
   refine cIf F rfl (fun h86=>?_) (fun h86=>?_)
   ·
    replace h86:=beqT h86;refine wp_skip (hK21 _ _ ?_);clear hK21
    refine cIf F rfl (fun h86=>?_) (fun h86=>?_)
    ·
     replace h86:=beqT h86;refine cSeq (fun K23 hK23=>?_);refine cRegRO (by kernel_rfl) H ?_;replace H:=H.drew
     refine eTake (k:=0) (i:=0) rfl (by kernel_rfl) F rfl rfl rfl rfl (fun w H=>rLr underlying29 rfl ?si F rfl (H.whole 5 rfl)) H (fun _ _ _ h=>h) ?_
     case si=>exact info_size sizeOf29
     clear F a;intro a F;refine eT 1 rfl (by kernel_rfl) F rfl rfl rfl rfl (fun w H=>rLrB underlying70 rfl sizeOf70 F rfl (H.whole 4 rfl)) H qq0 (qTF 3 rfl (by kernel_rfl) rfl rfl rfl (fun a F w=>rMv F rfl) H qq0 ?_);clear F a;intro a F
     refine eJoin F H [6,8,9,10] 9 [true,true,true,true,true,true,true,true,true,false,false] (fun rs ups w=>∃ b13,ups=[(93,.agg (bs 142 (bareP s)).toArray),(96,.agg (bs 142 (moveS p (bareP s) ((u.toNat:Nat):Int))).toArray),(97,.int .i64 (moveE p (bareP s) ((u.toNat:Nat):Int))),(13,.pointer (some ⟨b13,0,none⟩))]∧Own w0 none w ((.blk b13 (bs 142 zb) 70) :: rs)) (by repeat (first | exact SubR.nil | (apply SubR.cons;· rfl))) ?_ (fun hJ=>?_)
     rotate_left
     ·
      refine eTwo (k:=3) (i:=2) (j:=8) (by kernel_rfl) F rfl rfl rfl rfl ?_ ?_
      ·
       refine oCall call104 F rfl rfl (bare_any s _) ?_;rintro e w ⟨rfl,hb⟩;replace H:=H.grow hb;clear hb;refine ⟨_,rfl,?_⟩;clear F a;intro a F;refine eKeep H ?_
       refine eTwo (k:=4) (i:=4) (j:=8) (by kernel_rfl) F rfl rfl rfl rfl ?_ ?_
       ·
        refine oCall call112 F rfl rfl (move_any _ p _ (hP0.own H) (hN.own H) (bareP s) _) ?_;rintro e w ⟨rfl,hb⟩;replace H:=H.grow hb;clear hb;refine ⟨_,rfl,?_⟩;clear F a;intro a F;refine eKeep H ?_;refine eTF 5 rfl (by kernel_rfl) F rfl rfl rfl (fun w=>rMv F rfl) H qq0 (qTF 6 rfl (by kernel_rfl) rfl rfl rfl (fun a F w=>rExt F rfl rfl) H qq0 (qTF 7 rfl (by kernel_rfl) rfl rfl rfl (fun a F w=>rExt F rfl rfl) H qq0 ?_));clear F a;intro a F;refine eOne (k:=8) (i:=8) rfl (by kernel_rfl) F rfl (oAlB H zB70 F rfl ?_);clear F a H;intro b13 a w F H;refine eKeep H.tail ?_
        exact eGo hJ (by kernel_rfl) _ ⟨b13,rfl,H.sel [0,1,2,3,4,5,6] rfl rfl⟩ (F.to (by repeat (first | exact trivial | refine Le.cons rfl ?_)))
       refine oAlB H zB70 F rfl ?_;clear F a H;intro b13 a w F H;refine eKeep H.tail ?_;refine eOne (k:=5) (i:=4) rfl (by kernel_rfl) F rfl (oCall call112 F rfl rfl (move_any _ p _ (hP0.own H) (hN.own H) (bareP s) _) ?_);rintro e w ⟨rfl,hb⟩;replace H:=H.grow hb;clear hb;refine ⟨_,rfl,?_⟩;clear F a;intro a F;refine eKeep H.tail ?_;refine eTF 5 rfl (by kernel_rfl) F rfl rfl rfl (fun w=>rMv F rfl) H.tail qq0 (qTF 6 rfl (by kernel_rfl) rfl rfl rfl (fun a F w=>rExt F rfl rfl) H.tail qq0 (qTF 7 rfl (by kernel_rfl) rfl rfl rfl (fun a F w=>rExt F rfl rfl) H.tail qq0 ?_));clear F a;intro a F
       exact eGo hJ (by kernel_rfl) _ ⟨b13,rfl,H.sel [0,1,2,3,4,5,6] rfl rfl⟩ (F.to (by repeat (first | exact trivial | refine Le.cons rfl ?_)))
      refine oAlB H zB70 F rfl ?_;clear F a H;intro b13 a w F H;refine eKeep H.tail ?_;refine eOne (k:=4) (i:=2) rfl (by kernel_rfl) F rfl (oCall call104 F rfl rfl (bare_any s _) ?_);rintro e w ⟨rfl,hb⟩;replace H:=H.grow hb;clear hb;refine ⟨_,rfl,?_⟩;clear F a;intro a F;refine eKeep H.tail ?_;refine eOne (k:=5) (i:=4) rfl (by kernel_rfl) F rfl (oCall call112 F rfl rfl (move_any _ p _ (hP0.own H) (hN.own H) (bareP s) _) ?_);rintro e w ⟨rfl,hb⟩;replace H:=H.grow hb;clear hb;refine ⟨_,rfl,?_⟩;clear F a;intro a F;refine eKeep H.tail ?_;refine eTF 5 rfl (by kernel_rfl) F rfl rfl rfl (fun w=>rMv F rfl) H.tail qq0 (qTF 6 rfl (by kernel_rfl) rfl rfl rfl (fun a F w=>rExt F rfl rfl) H.tail qq0 (qTF 7 rfl (by kernel_rfl) rfl rfl rfl (fun a F w=>rExt F rfl rfl) H.tail qq0 ?_));clear F a;intro a F
      exact eGo hJ (by kernel_rfl) _ ⟨b13,rfl,H.sel [0,1,2,3,4,5,6] rfl rfl⟩ (F.to (by repeat (first | exact trivial | refine Le.cons rfl ?_)))
     clear F H;intro ups a w hI F
     obtain ⟨b13,rfl,H⟩:=hI
     refine eOne (k:=9) (i:=9) rfl (by kernel_rfl) F rfl (oSrB H 0 sizeOf70 F rfl rfl rfl (by omega) ?_);clear H;intro w H;rw [lay_all] at H;refine ePartO (by kernel_rfl) H ?_;refine eTF 10 rfl (by kernel_rfl) F rfl rfl rfl (fun w=>rAs F rfl) H qq0 ?_;clear F a;intro a F;refine eNil (k:=11) (by kernel_rfl) ?_;refine hK23 _ _ ?_;clear hK23;refine cRegR (by kernel_rfl) (fun w=>Own w0 none w [.blk b13 (bs 142 (moveS p (bareP s) ((u.toNat:Nat):Int))) 70]) ?_;replace H:=H.drew;refine eTF 0 rfl (by kernel_rfl) F rfl rfl rfl (fun w=>rMv F rfl) (H.sel [0] rfl rfl) qq0 (qTF 1 rfl (by kernel_rfl) rfl rfl rfl (fun a F w=>rFa (f:=0) (k:=0) underlying70 rfl sizeOf63 rfl rfl F rfl) (H.sel [0] rfl rfl) qq0 ?_);clear F a;intro a F
     refine eTakeF (k:=2) (i:=2) rfl (by kernel_rfl) F rfl rfl rfl (fun w=>rIaZ underlying63 sizeOf62 F rfl rfl ?_) (H.sel [0] rfl rfl) (fun _ _ _ h=>h) ?_
     focus (first | omega | decide | (simp;omega))
     clear F a;intro a F;refine eT 3 rfl (by kernel_rfl) F rfl rfl rfl rfl (fun w H=>rLrB underlying62 rfl sizeOf62 F rfl (H.rangeB 0 _ 9 rfl (by omega))) (H.sel [0] rfl rfl) qq0 (qTF 4 rfl (by kernel_rfl) rfl rfl rfl (fun a F w=>rFa (f:=1) (k:=36) underlying70 rfl sizeOf45 rfl rfl F rfl) (H.sel [0] rfl rfl) qq0 (qT 5 rfl (by kernel_rfl) rfl rfl rfl rfl (fun a F w H=>rLrB underlying45 rfl sizeOf45 F rfl (H.rangeB 0 _ 6 rfl (by omega))) (H.sel [0] rfl rfl) qq0 ?_));clear F a;intro a F;refine eOne (k:=6) (i:=6) rfl (by kernel_rfl) F rfl (oSrB H 2 sizeOf62 F rfl rfl rfl (by omega) ?_);clear H;intro w H;rw [lay_all] at H;refine eKeep (H.sel [0] rfl rfl) ?_;refine eTF 7 rfl (by kernel_rfl) F rfl rfl rfl (fun w=>rFa (f:=1) (k:=36) underlying70 rfl sizeOf45 rfl rfl F rfl) (H.sel [0] rfl rfl) qq0 ?_;clear F a;intro a F;refine eOne (k:=8) (i:=8) rfl (by kernel_rfl) F rfl (oSrB H 5 sizeOf45 F rfl rfl rfl (by omega) ?_);clear H;intro w H;refine eKeep (H.sel [0] rfl rfl) ?_;refine eNil (k:=9) (by kernel_rfl) ?_;refine hK7 _ _ (cSR fun K24 hK24=>sMv F rfl rfl rfl (qLrB underlying62 rfl sizeOf62 rfl rfl rfl (H.whole 2 rfl) (qFa (f:=0) (k:=0) underlying70 rfl sizeOf63 rfl rfl rfl rfl rfl ?_)));clear hK7;clear F a;intro a F
     refine sIaZ underlying63 sizeOf62 F rfl rfl rfl rfl ?_ ?_
     focus (first | omega | decide | (simp;omega))
     clear F a;intro a F;refine sSrB H 5 sizeOf62 F rfl rfl rfl rfl (by omega) ?_;clear H;intro w H;refine nK hK24 (cSR fun K25 hK25=>sLrB underlying70 rfl sizeOf70 F rfl rfl rfl (H.whole 5 rfl) ?_);clear hK24;clear F a;intro a F;refine sSrB H 3 sizeOf70 F rfl rfl rfl rfl (by omega) ?_;clear H;intro w H;rw [lay_all] at H;refine nK hK25 ?_;clear hK25;refine wp_ret ?_;refine bRetB results54 F rfl underlying70 rfl sizeOf70 H 3 rfl ?_
     refine ⟨?_,H.below⟩
     clear F H
     rw [hst]
     first
       | rw [exec_load h45 hdst]
       | rw [exec_sc h45 h60 h72]
       | rw [exec_st h45 h60 h72]
       | exact retB1 fun i _=>exec_at ht4 (fun h=>by have:=(far_at hfi h).1;omega) h45 h60 (by first | exact .inl h86 | exact .inr (.inl h86) | exact .inr (.inr h86)) hmv2 i
       | rw [exec_local h45 h60 (by rintro (h | h | h) <;> contradiction)]
    replace h86:=beqF h86;refine cReg ?_
    refine sLr underlying37 rfl ?si F rfl rfl rfl (H.whole 0 rfl) ?_
    case si=>exact info_size sizeOf37
    clear F a;intro a F;refine sLrB underlying62 rfl sizeOf62 F rfl rfl rfl (H.whole 1 rfl) ?_;clear F a;intro a F;refine sCall call113 F rfl rfl rfl (local_any ix _ _) ?_;rintro e w ⟨rfl,hb⟩;replace H:=H.grow hb;clear hb;refine ⟨_,rfl,?_⟩;clear F a;intro a F;refine sMv F rfl rfl rfl (qExt rfl rfl rfl rfl (qExt rfl rfl rfl rfl ?_));clear F a;intro a F;refine sSrB H 1 sizeOf62 F rfl rfl rfl rfl (by omega) ?_;clear H;intro w H;rw [lay_all] at H;refine nK hK7 (cSR fun K26 hK26=>sMv F rfl rfl rfl (qLrB underlying62 rfl sizeOf62 rfl rfl rfl (H.whole 1 rfl) (qFa (f:=0) (k:=0) underlying70 rfl sizeOf63 rfl rfl rfl rfl rfl ?_)));clear hK7;clear F a;intro a F
    refine sIaZ underlying63 sizeOf62 F rfl rfl rfl rfl ?_ ?_
    focus (first | omega | decide | (simp;omega))
    clear F a;intro a F;refine sSrB H 4 sizeOf62 F rfl rfl rfl rfl (by omega) ?_;clear H;intro w H;refine nK hK26 (cSR fun K27 hK27=>sLrB underlying70 rfl sizeOf70 F rfl rfl rfl (H.whole 4 rfl) ?_);clear hK26;clear F a;intro a F;refine sSrB H 2 sizeOf70 F rfl rfl rfl rfl (by omega) ?_;clear H;intro w H;rw [lay_all] at H;refine nK hK27 ?_;clear hK27;refine wp_ret ?_;refine bRetB results54 F rfl underlying70 rfl sizeOf70 H 2 rfl ?_
    refine ⟨?_,H.below⟩
    clear F H
    rw [hst]
    first
      | rw [exec_load h45 hdst]
      | rw [exec_sc h45 h60 h72]
      | rw [exec_st h45 h60 h72]
      | exact retB1 fun i _=>exec_at ht4 (fun h=>by have:=(far_at hfi h).1;omega) h45 h60 (by first | exact .inl h86 | exact .inr (.inl h86) | exact .inr (.inr h86)) hmv2 i
      | rw [exec_local h45 h60 (by rintro (h | h | h) <;> contradiction)]
   replace h86:=beqF h86;refine cSR fun K28 hK28=>sBin F rfl rfl rfl rfl (bEqlB (y:=5)) (qAs rfl rfl rfl (qNK hK28 ?_));clear hK28;clear F a;intro a F
   refine cIf F rfl (fun h86=>?_) (fun h86=>?_)
   ·
    replace h86:=beqT h86;refine wp_skip (hK21 _ _ ?_);clear hK21
    refine cIf F rfl (fun h86=>?_) (fun h86=>?_)
    ·
     replace h86:=beqT h86;refine cSeq (fun K29 hK29=>?_);refine cRegRO (by kernel_rfl) H ?_;replace H:=H.drew
     refine eTake (k:=0) (i:=0) rfl (by kernel_rfl) F rfl rfl rfl rfl (fun w H=>rLr underlying29 rfl ?si F rfl (H.whole 5 rfl)) H (fun _ _ _ h=>h) ?_
     case si=>exact info_size sizeOf29
     clear F a;intro a F;refine eT 1 rfl (by kernel_rfl) F rfl rfl rfl rfl (fun w H=>rLrB underlying70 rfl sizeOf70 F rfl (H.whole 4 rfl)) H qq0 (qTF 3 rfl (by kernel_rfl) rfl rfl rfl (fun a F w=>rMv F rfl) H qq0 ?_);clear F a;intro a F
     refine eJoin F H [6,8,9,10] 9 [true,true,true,true,true,true,true,true,true,false,false] (fun rs ups w=>∃ b13,ups=[(93,.agg (bs 142 (bareP s)).toArray),(96,.agg (bs 142 (moveS p (bareP s) ((u.toNat:Nat):Int))).toArray),(97,.int .i64 (moveE p (bareP s) ((u.toNat:Nat):Int))),(13,.pointer (some ⟨b13,0,none⟩))]∧Own w0 none w ((.blk b13 (bs 142 zb) 70) :: rs)) (by repeat (first | exact SubR.nil | (apply SubR.cons;· rfl))) ?_ (fun hJ=>?_)
     rotate_left
     ·
      refine eTwo (k:=3) (i:=2) (j:=8) (by kernel_rfl) F rfl rfl rfl rfl ?_ ?_
      ·
       refine oCall call104 F rfl rfl (bare_any s _) ?_;rintro e w ⟨rfl,hb⟩;replace H:=H.grow hb;clear hb;refine ⟨_,rfl,?_⟩;clear F a;intro a F;refine eKeep H ?_
       refine eTwo (k:=4) (i:=4) (j:=8) (by kernel_rfl) F rfl rfl rfl rfl ?_ ?_
       ·
        refine oCall call112 F rfl rfl (move_any _ p _ (hP0.own H) (hN.own H) (bareP s) _) ?_;rintro e w ⟨rfl,hb⟩;replace H:=H.grow hb;clear hb;refine ⟨_,rfl,?_⟩;clear F a;intro a F;refine eKeep H ?_;refine eTF 5 rfl (by kernel_rfl) F rfl rfl rfl (fun w=>rMv F rfl) H qq0 (qTF 6 rfl (by kernel_rfl) rfl rfl rfl (fun a F w=>rExt F rfl rfl) H qq0 (qTF 7 rfl (by kernel_rfl) rfl rfl rfl (fun a F w=>rExt F rfl rfl) H qq0 ?_));clear F a;intro a F;refine eOne (k:=8) (i:=8) rfl (by kernel_rfl) F rfl (oAlB H zB70 F rfl ?_);clear F a H;intro b13 a w F H;refine eKeep H.tail ?_
        exact eGo hJ (by kernel_rfl) _ ⟨b13,rfl,H.sel [0,1,2,3,4,5,6] rfl rfl⟩ (F.to (by repeat (first | exact trivial | refine Le.cons rfl ?_)))
       refine oAlB H zB70 F rfl ?_;clear F a H;intro b13 a w F H;refine eKeep H.tail ?_;refine eOne (k:=5) (i:=4) rfl (by kernel_rfl) F rfl (oCall call112 F rfl rfl (move_any _ p _ (hP0.own H) (hN.own H) (bareP s) _) ?_);rintro e w ⟨rfl,hb⟩;replace H:=H.grow hb;clear hb;refine ⟨_,rfl,?_⟩;clear F a;intro a F;refine eKeep H.tail ?_;refine eTF 5 rfl (by kernel_rfl) F rfl rfl rfl (fun w=>rMv F rfl) H.tail qq0 (qTF 6 rfl (by kernel_rfl) rfl rfl rfl (fun a F w=>rExt F rfl rfl) H.tail qq0 (qTF 7 rfl (by kernel_rfl) rfl rfl rfl (fun a F w=>rExt F rfl rfl) H.tail qq0 ?_));clear F a;intro a F
       exact eGo hJ (by kernel_rfl) _ ⟨b13,rfl,H.sel [0,1,2,3,4,5,6] rfl rfl⟩ (F.to (by repeat (first | exact trivial | refine Le.cons rfl ?_)))
      refine oAlB H zB70 F rfl ?_;clear F a H;intro b13 a w F H;refine eKeep H.tail ?_;refine eOne (k:=4) (i:=2) rfl (by kernel_rfl) F rfl (oCall call104 F rfl rfl (bare_any s _) ?_);rintro e w ⟨rfl,hb⟩;replace H:=H.grow hb;clear hb;refine ⟨_,rfl,?_⟩;clear F a;intro a F;refine eKeep H.tail ?_;refine eOne (k:=5) (i:=4) rfl (by kernel_rfl) F rfl (oCall call112 F rfl rfl (move_any _ p _ (hP0.own H) (hN.own H) (bareP s) _) ?_);rintro e w ⟨rfl,hb⟩;replace H:=H.grow hb;clear hb;refine ⟨_,rfl,?_⟩;clear F a;intro a F;refine eKeep H.tail ?_;refine eTF 5 rfl (by kernel_rfl) F rfl rfl rfl (fun w=>rMv F rfl) H.tail qq0 (qTF 6 rfl (by kernel_rfl) rfl rfl rfl (fun a F w=>rExt F rfl rfl) H.tail qq0 (qTF 7 rfl (by kernel_rfl) rfl rfl rfl (fun a F w=>rExt F rfl rfl) H.tail qq0 ?_));clear F a;intro a F
      exact eGo hJ (by kernel_rfl) _ ⟨b13,rfl,H.sel [0,1,2,3,4,5,6] rfl rfl⟩ (F.to (by repeat (first | exact trivial | refine Le.cons rfl ?_)))
     clear F H;intro ups a w hI F
     obtain ⟨b13,rfl,H⟩:=hI
     refine eOne (k:=9) (i:=9) rfl (by kernel_rfl) F rfl (oSrB H 0 sizeOf70 F rfl rfl rfl (by omega) ?_);clear H;intro w H;rw [lay_all] at H;refine ePartO (by kernel_rfl) H ?_;refine eTF 10 rfl (by kernel_rfl) F rfl rfl rfl (fun w=>rAs F rfl) H qq0 ?_;clear F a;intro a F;refine eNil (k:=11) (by kernel_rfl) ?_;refine hK29 _ _ ?_;clear hK29;refine cRegR (by kernel_rfl) (fun w=>Own w0 none w [.blk b13 (bs 142 (moveS p (bareP s) ((u.toNat:Nat):Int))) 70]) ?_;replace H:=H.drew;refine eTF 0 rfl (by kernel_rfl) F rfl rfl rfl (fun w=>rMv F rfl) (H.sel [0] rfl rfl) qq0 (qTF 1 rfl (by kernel_rfl) rfl rfl rfl (fun a F w=>rFa (f:=0) (k:=0) underlying70 rfl sizeOf63 rfl rfl F rfl) (H.sel [0] rfl rfl) qq0 ?_);clear F a;intro a F
     refine eTakeF (k:=2) (i:=2) rfl (by kernel_rfl) F rfl rfl rfl (fun w=>rIaZ underlying63 sizeOf62 F rfl rfl ?_) (H.sel [0] rfl rfl) (fun _ _ _ h=>h) ?_
     focus (first | omega | decide | (simp;omega))
     clear F a;intro a F;refine eT 3 rfl (by kernel_rfl) F rfl rfl rfl rfl (fun w H=>rLrB underlying62 rfl sizeOf62 F rfl (H.rangeB 0 _ 9 rfl (by omega))) (H.sel [0] rfl rfl) qq0 (qTF 4 rfl (by kernel_rfl) rfl rfl rfl (fun a F w=>rFa (f:=1) (k:=36) underlying70 rfl sizeOf45 rfl rfl F rfl) (H.sel [0] rfl rfl) qq0 (qT 5 rfl (by kernel_rfl) rfl rfl rfl rfl (fun a F w H=>rLrB underlying45 rfl sizeOf45 F rfl (H.rangeB 0 _ 6 rfl (by omega))) (H.sel [0] rfl rfl) qq0 ?_));clear F a;intro a F;refine eOne (k:=6) (i:=6) rfl (by kernel_rfl) F rfl (oSrB H 2 sizeOf62 F rfl rfl rfl (by omega) ?_);clear H;intro w H;rw [lay_all] at H;refine eKeep (H.sel [0] rfl rfl) ?_;refine eTF 7 rfl (by kernel_rfl) F rfl rfl rfl (fun w=>rFa (f:=1) (k:=36) underlying70 rfl sizeOf45 rfl rfl F rfl) (H.sel [0] rfl rfl) qq0 ?_;clear F a;intro a F;refine eOne (k:=8) (i:=8) rfl (by kernel_rfl) F rfl (oSrB H 5 sizeOf45 F rfl rfl rfl (by omega) ?_);clear H;intro w H;refine eKeep (H.sel [0] rfl rfl) ?_;refine eNil (k:=9) (by kernel_rfl) ?_;refine hK7 _ _ (cSR fun K30 hK30=>sMv F rfl rfl rfl (qLrB underlying62 rfl sizeOf62 rfl rfl rfl (H.whole 2 rfl) (qFa (f:=0) (k:=0) underlying70 rfl sizeOf63 rfl rfl rfl rfl rfl ?_)));clear hK7;clear F a;intro a F
     refine sIaZ underlying63 sizeOf62 F rfl rfl rfl rfl ?_ ?_
     focus (first | omega | decide | (simp;omega))
     clear F a;intro a F;refine sSrB H 5 sizeOf62 F rfl rfl rfl rfl (by omega) ?_;clear H;intro w H;refine nK hK30 (cSR fun K31 hK31=>sLrB underlying70 rfl sizeOf70 F rfl rfl rfl (H.whole 5 rfl) ?_);clear hK30;clear F a;intro a F;refine sSrB H 3 sizeOf70 F rfl rfl rfl rfl (by omega) ?_;clear H;intro w H;rw [lay_all] at H;refine nK hK31 ?_;clear hK31;refine wp_ret ?_;refine bRetB results54 F rfl underlying70 rfl sizeOf70 H 3 rfl ?_
     refine ⟨?_,H.below⟩
     clear F H
     rw [hst]
     first
       | rw [exec_load h45 hdst]
       | rw [exec_sc h45 h60 h72]
       | rw [exec_st h45 h60 h72]
       | exact retB1 fun i _=>exec_at ht4 (fun h=>by have:=(far_at hfi h).1;omega) h45 h60 (by first | exact .inl h86 | exact .inr (.inl h86) | exact .inr (.inr h86)) hmv2 i
       | rw [exec_local h45 h60 (by rintro (h | h | h) <;> contradiction)]
    replace h86:=beqF h86;refine cReg ?_
    refine sLr underlying37 rfl ?si F rfl rfl rfl (H.whole 0 rfl) ?_
    case si=>exact info_size sizeOf37
    clear F a;intro a F;refine sLrB underlying62 rfl sizeOf62 F rfl rfl rfl (H.whole 1 rfl) ?_;clear F a;intro a F;refine sCall call113 F rfl rfl rfl (local_any ix _ _) ?_;rintro e w ⟨rfl,hb⟩;replace H:=H.grow hb;clear hb;refine ⟨_,rfl,?_⟩;clear F a;intro a F;refine sMv F rfl rfl rfl (qExt rfl rfl rfl rfl (qExt rfl rfl rfl rfl ?_));clear F a;intro a F;refine sSrB H 1 sizeOf62 F rfl rfl rfl rfl (by omega) ?_;clear H;intro w H;rw [lay_all] at H;refine nK hK7 (cSR fun K32 hK32=>sMv F rfl rfl rfl (qLrB underlying62 rfl sizeOf62 rfl rfl rfl (H.whole 1 rfl) (qFa (f:=0) (k:=0) underlying70 rfl sizeOf63 rfl rfl rfl rfl rfl ?_)));clear hK7;clear F a;intro a F
    refine sIaZ underlying63 sizeOf62 F rfl rfl rfl rfl ?_ ?_
    focus (first | omega | decide | (simp;omega))
    clear F a;intro a F;refine sSrB H 4 sizeOf62 F rfl rfl rfl rfl (by omega) ?_;clear H;intro w H;refine nK hK32 (cSR fun K33 hK33=>sLrB underlying70 rfl sizeOf70 F rfl rfl rfl (H.whole 4 rfl) ?_);clear hK32;clear F a;intro a F;refine sSrB H 2 sizeOf70 F rfl rfl rfl rfl (by omega) ?_;clear H;intro w H;rw [lay_all] at H;refine nK hK33 ?_;clear hK33;refine wp_ret ?_;refine bRetB results54 F rfl underlying70 rfl sizeOf70 H 2 rfl ?_
    refine ⟨?_,H.below⟩
    clear F H
    rw [hst]
    first
      | rw [exec_load h45 hdst]
      | rw [exec_sc h45 h60 h72]
      | rw [exec_st h45 h60 h72]
      | exact retB1 fun i _=>exec_at ht4 (fun h=>by have:=(far_at hfi h).1;omega) h45 h60 (by first | exact .inl h86 | exact .inr (.inl h86) | exact .inr (.inr h86)) hmv2 i
      | rw [exec_local h45 h60 (by rintro (h | h | h) <;> contradiction)]
   replace h86:=beqF h86;refine cReg (sBin F rfl rfl rfl rfl (bEqlB (y:=6)) (qAs rfl rfl rfl (qNK hK21 ?_)));clear hK21;clear F a;intro a F
   refine cIf F rfl (fun h86=>?_) (fun h86=>?_)
   ·
    replace h86:=beqT h86;refine cSeq (fun K34 hK34=>?_);refine cRegRO (by kernel_rfl) H ?_;replace H:=H.drew
    refine eTake (k:=0) (i:=0) rfl (by kernel_rfl) F rfl rfl rfl rfl (fun w H=>rLr underlying29 rfl ?si F rfl (H.whole 5 rfl)) H (fun _ _ _ h=>h) ?_
    case si=>exact info_size sizeOf29
    clear F a;intro a F;refine eT 1 rfl (by kernel_rfl) F rfl rfl rfl rfl (fun w H=>rLrB underlying70 rfl sizeOf70 F rfl (H.whole 4 rfl)) H qq0 (qTF 3 rfl (by kernel_rfl) rfl rfl rfl (fun a F w=>rMv F rfl) H qq0 ?_);clear F a;intro a F
    refine eJoin F H [6,8,9,10] 9 [true,true,true,true,true,true,true,true,true,false,false] (fun rs ups w=>∃ b13,ups=[(93,.agg (bs 142 (bareP s)).toArray),(96,.agg (bs 142 (moveS p (bareP s) ((u.toNat:Nat):Int))).toArray),(97,.int .i64 (moveE p (bareP s) ((u.toNat:Nat):Int))),(13,.pointer (some ⟨b13,0,none⟩))]∧Own w0 none w ((.blk b13 (bs 142 zb) 70) :: rs)) (by repeat (first | exact SubR.nil | (apply SubR.cons;· rfl))) ?_ (fun hJ=>?_)
    rotate_left
    ·
     refine eTwo (k:=3) (i:=2) (j:=8) (by kernel_rfl) F rfl rfl rfl rfl ?_ ?_
     ·
      refine oCall call104 F rfl rfl (bare_any s _) ?_;rintro e w ⟨rfl,hb⟩;replace H:=H.grow hb;clear hb;refine ⟨_,rfl,?_⟩;clear F a;intro a F;refine eKeep H ?_
      refine eTwo (k:=4) (i:=4) (j:=8) (by kernel_rfl) F rfl rfl rfl rfl ?_ ?_
      ·
       refine oCall call112 F rfl rfl (move_any _ p _ (hP0.own H) (hN.own H) (bareP s) _) ?_;rintro e w ⟨rfl,hb⟩;replace H:=H.grow hb;clear hb;refine ⟨_,rfl,?_⟩;clear F a;intro a F;refine eKeep H ?_;refine eTF 5 rfl (by kernel_rfl) F rfl rfl rfl (fun w=>rMv F rfl) H qq0 (qTF 6 rfl (by kernel_rfl) rfl rfl rfl (fun a F w=>rExt F rfl rfl) H qq0 (qTF 7 rfl (by kernel_rfl) rfl rfl rfl (fun a F w=>rExt F rfl rfl) H qq0 ?_));clear F a;intro a F;refine eOne (k:=8) (i:=8) rfl (by kernel_rfl) F rfl (oAlB H zB70 F rfl ?_);clear F a H;intro b13 a w F H;refine eKeep H.tail ?_
       exact eGo hJ (by kernel_rfl) _ ⟨b13,rfl,H.sel [0,1,2,3,4,5,6] rfl rfl⟩ (F.to (by repeat (first | exact trivial | refine Le.cons rfl ?_)))
      refine oAlB H zB70 F rfl ?_;clear F a H;intro b13 a w F H;refine eKeep H.tail ?_;refine eOne (k:=5) (i:=4) rfl (by kernel_rfl) F rfl (oCall call112 F rfl rfl (move_any _ p _ (hP0.own H) (hN.own H) (bareP s) _) ?_);rintro e w ⟨rfl,hb⟩;replace H:=H.grow hb;clear hb;refine ⟨_,rfl,?_⟩;clear F a;intro a F;refine eKeep H.tail ?_;refine eTF 5 rfl (by kernel_rfl) F rfl rfl rfl (fun w=>rMv F rfl) H.tail qq0 (qTF 6 rfl (by kernel_rfl) rfl rfl rfl (fun a F w=>rExt F rfl rfl) H.tail qq0 (qTF 7 rfl (by kernel_rfl) rfl rfl rfl (fun a F w=>rExt F rfl rfl) H.tail qq0 ?_));clear F a;intro a F
      exact eGo hJ (by kernel_rfl) _ ⟨b13,rfl,H.sel [0,1,2,3,4,5,6] rfl rfl⟩ (F.to (by repeat (first | exact trivial | refine Le.cons rfl ?_)))
     refine oAlB H zB70 F rfl ?_;clear F a H;intro b13 a w F H;refine eKeep H.tail ?_;refine eOne (k:=4) (i:=2) rfl (by kernel_rfl) F rfl (oCall call104 F rfl rfl (bare_any s _) ?_);rintro e w ⟨rfl,hb⟩;replace H:=H.grow hb;clear hb;refine ⟨_,rfl,?_⟩;clear F a;intro a F;refine eKeep H.tail ?_;refine eOne (k:=5) (i:=4) rfl (by kernel_rfl) F rfl (oCall call112 F rfl rfl (move_any _ p _ (hP0.own H) (hN.own H) (bareP s) _) ?_);rintro e w ⟨rfl,hb⟩;replace H:=H.grow hb;clear hb;refine ⟨_,rfl,?_⟩;clear F a;intro a F;refine eKeep H.tail ?_;refine eTF 5 rfl (by kernel_rfl) F rfl rfl rfl (fun w=>rMv F rfl) H.tail qq0 (qTF 6 rfl (by kernel_rfl) rfl rfl rfl (fun a F w=>rExt F rfl rfl) H.tail qq0 (qTF 7 rfl (by kernel_rfl) rfl rfl rfl (fun a F w=>rExt F rfl rfl) H.tail qq0 ?_));clear F a;intro a F
     exact eGo hJ (by kernel_rfl) _ ⟨b13,rfl,H.sel [0,1,2,3,4,5,6] rfl rfl⟩ (F.to (by repeat (first | exact trivial | refine Le.cons rfl ?_)))
    clear F H;intro ups a w hI F
    obtain ⟨b13,rfl,H⟩:=hI
    refine eOne (k:=9) (i:=9) rfl (by kernel_rfl) F rfl (oSrB H 0 sizeOf70 F rfl rfl rfl (by omega) ?_);clear H;intro w H;rw [lay_all] at H;refine ePartO (by kernel_rfl) H ?_;refine eTF 10 rfl (by kernel_rfl) F rfl rfl rfl (fun w=>rAs F rfl) H qq0 ?_;clear F a;intro a F;refine eNil (k:=11) (by kernel_rfl) ?_;refine hK34 _ _ ?_;clear hK34;refine cRegR (by kernel_rfl) (fun w=>Own w0 none w [.blk b13 (bs 142 (moveS p (bareP s) ((u.toNat:Nat):Int))) 70]) ?_;replace H:=H.drew;refine eTF 0 rfl (by kernel_rfl) F rfl rfl rfl (fun w=>rMv F rfl) (H.sel [0] rfl rfl) qq0 (qTF 1 rfl (by kernel_rfl) rfl rfl rfl (fun a F w=>rFa (f:=0) (k:=0) underlying70 rfl sizeOf63 rfl rfl F rfl) (H.sel [0] rfl rfl) qq0 ?_);clear F a;intro a F
    refine eTakeF (k:=2) (i:=2) rfl (by kernel_rfl) F rfl rfl rfl (fun w=>rIaZ underlying63 sizeOf62 F rfl rfl ?_) (H.sel [0] rfl rfl) (fun _ _ _ h=>h) ?_
    focus (first | omega | decide | (simp;omega))
    clear F a;intro a F;refine eT 3 rfl (by kernel_rfl) F rfl rfl rfl rfl (fun w H=>rLrB underlying62 rfl sizeOf62 F rfl (H.rangeB 0 _ 9 rfl (by omega))) (H.sel [0] rfl rfl) qq0 (qTF 4 rfl (by kernel_rfl) rfl rfl rfl (fun a F w=>rFa (f:=1) (k:=36) underlying70 rfl sizeOf45 rfl rfl F rfl) (H.sel [0] rfl rfl) qq0 (qT 5 rfl (by kernel_rfl) rfl rfl rfl rfl (fun a F w H=>rLrB underlying45 rfl sizeOf45 F rfl (H.rangeB 0 _ 6 rfl (by omega))) (H.sel [0] rfl rfl) qq0 ?_));clear F a;intro a F;refine eOne (k:=6) (i:=6) rfl (by kernel_rfl) F rfl (oSrB H 2 sizeOf62 F rfl rfl rfl (by omega) ?_);clear H;intro w H;rw [lay_all] at H;refine eKeep (H.sel [0] rfl rfl) ?_;refine eTF 7 rfl (by kernel_rfl) F rfl rfl rfl (fun w=>rFa (f:=1) (k:=36) underlying70 rfl sizeOf45 rfl rfl F rfl) (H.sel [0] rfl rfl) qq0 ?_;clear F a;intro a F;refine eOne (k:=8) (i:=8) rfl (by kernel_rfl) F rfl (oSrB H 5 sizeOf45 F rfl rfl rfl (by omega) ?_);clear H;intro w H;refine eKeep (H.sel [0] rfl rfl) ?_;refine eNil (k:=9) (by kernel_rfl) ?_;refine hK7 _ _ (cSR fun K35 hK35=>sMv F rfl rfl rfl (qLrB underlying62 rfl sizeOf62 rfl rfl rfl (H.whole 2 rfl) (qFa (f:=0) (k:=0) underlying70 rfl sizeOf63 rfl rfl rfl rfl rfl ?_)));clear hK7;clear F a;intro a F
    refine sIaZ underlying63 sizeOf62 F rfl rfl rfl rfl ?_ ?_
    focus (first | omega | decide | (simp;omega))
    clear F a;intro a F;refine sSrB H 5 sizeOf62 F rfl rfl rfl rfl (by omega) ?_;clear H;intro w H;refine nK hK35 (cSR fun K36 hK36=>sLrB underlying70 rfl sizeOf70 F rfl rfl rfl (H.whole 5 rfl) ?_);clear hK35;clear F a;intro a F;refine sSrB H 3 sizeOf70 F rfl rfl rfl rfl (by omega) ?_;clear H;intro w H;rw [lay_all] at H;refine nK hK36 ?_;clear hK36;refine wp_ret ?_;refine bRetB results54 F rfl underlying70 rfl sizeOf70 H 3 rfl ?_
    refine ⟨?_,H.below⟩
    clear F H
    rw [hst]
    first
      | rw [exec_load h45 hdst]
      | rw [exec_sc h45 h60 h72]
      | rw [exec_st h45 h60 h72]
      | exact retB1 fun i _=>exec_at ht4 (fun h=>by have:=(far_at hfi h).1;omega) h45 h60 (by first | exact .inl h86 | exact .inr (.inl h86) | exact .inr (.inr h86)) hmv2 i
      | rw [exec_local h45 h60 (by rintro (h | h | h) <;> contradiction)]
   replace h86:=beqF h86;refine cReg ?_
   refine sLr underlying37 rfl ?si F rfl rfl rfl (H.whole 0 rfl) ?_
   case si=>exact info_size sizeOf37
   clear F a;intro a F;refine sLrB underlying62 rfl sizeOf62 F rfl rfl rfl (H.whole 1 rfl) ?_;clear F a;intro a F;refine sCall call113 F rfl rfl rfl (local_any ix _ _) ?_;rintro e w ⟨rfl,hb⟩;replace H:=H.grow hb;clear hb;refine ⟨_,rfl,?_⟩;clear F a;intro a F;refine sMv F rfl rfl rfl (qExt rfl rfl rfl rfl (qExt rfl rfl rfl rfl ?_));clear F a;intro a F;refine sSrB H 1 sizeOf62 F rfl rfl rfl rfl (by omega) ?_;clear H;intro w H;rw [lay_all] at H;refine nK hK7 (cSR fun K37 hK37=>sMv F rfl rfl rfl (qLrB underlying62 rfl sizeOf62 rfl rfl rfl (H.whole 1 rfl) (qFa (f:=0) (k:=0) underlying70 rfl sizeOf63 rfl rfl rfl rfl rfl ?_)));clear hK7;clear F a;intro a F
   refine sIaZ underlying63 sizeOf62 F rfl rfl rfl rfl ?_ ?_
   focus (first | omega | decide | (simp;omega))
   clear F a;intro a F;refine sSrB H 4 sizeOf62 F rfl rfl rfl rfl (by omega) ?_;clear H;intro w H;refine nK hK37 (cSR fun K38 hK38=>sLrB underlying70 rfl sizeOf70 F rfl rfl rfl (H.whole 4 rfl) ?_);clear hK37;clear F a;intro a F;refine sSrB H 2 sizeOf70 F rfl rfl rfl rfl (by omega) ?_;clear H;intro w H;rw [lay_all] at H;refine nK hK38 ?_;clear hK38;refine wp_ret ?_;refine bRetB results54 F rfl underlying70 rfl sizeOf70 H 2 rfl ?_
   refine ⟨?_,H.below⟩
   clear F H
   rw [hst]
   first
     | rw [exec_load h45 hdst]
     | rw [exec_sc h45 h60 h72]
     | rw [exec_st h45 h60 h72]
     | exact retB1 fun i _=>exec_at ht4 (fun h=>by have:=(far_at hfi h).1;omega) h45 h60 (by first | exact .inl h86 | exact .inr (.inl h86) | exact .inr (.inr h86)) hmv2 i
     | rw [exec_local h45 h60 (by rintro (h | h | h) <;> contradiction)]
 · have hst:stepM p mc s (drainAt mc s t i)=drainP mc s t (drainAt mc s t i).l:=by
     unfold stepM drainAt
     rw [if_pos rfl]
     show drainP mc s (UInt8.ofNat t).toNat _=_
     rw [hto]
   refine enterF func54 rfl ntmps54 rfl (fun a F=>?_);refine cSR fun K1 hK1=>?_;refine sBx H F rfl rfl rfl ?_;clear F a H;intro b4 a w F H;refine sBxB H F rfl rfl rfl ?_;clear F a H;intro b6 a w F H;refine sBx H F rfl rfl rfl ?_;clear F a H;intro b7 a w F H;refine sAlB H zB70 F rfl rfl ?_;clear F a H;intro b8 a w F H;refine nK hK1 ?_;clear hK1;refine cSeq (fun K2 hK2=>?_);refine cSR fun K3 hK3=>sFa (f:=1) (k:=1) underlying86 rfl sizeOf4 rfl rfl F rfl rfl rfl (qLd isAgg4 rfl rfl rfl (H.cell 1 rfl rfl) (qNK hK3 ?_));clear hK3;clear F a;intro a F
   refine cIf F rfl (fun h16=>?_) (fun h16=>?_)
   ·
    refine cSR fun K4 hK4=>sMv F rfl rfl rfl (qLrB underlying70 rfl sizeOf70 rfl rfl rfl (H.whole 2 rfl) ?_);clear F a;intro a F
    refine sLr underlying86 rfl ?si F rfl rfl rfl (H.whole 1 rfl) ?_
    case si=>exact info_size sizeOf86
    clear F a;intro a F;refine sCall call108 F rfl rfl rfl (drain_any mc s (drainAt mc s t i) t _ hto ht4 (by omega) hmany.1 (fun i hi=>by have:=hr.loc ht4 hi;omega) (fun h3=>⟨i,hi,by unfold drainAt;rw [if_pos h3]⟩)) ?_;rintro e w ⟨rfl,hb⟩;replace H:=H.grow hb;clear hb;refine ⟨_,rfl,?_⟩;clear F a;intro a F;refine sSrB H 0 sizeOf70 F rfl rfl rfl rfl (by omega) ?_;clear H;intro w H;rw [lay_all] at H;refine nK hK4 ?_;clear hK4;refine wp_ret ?_;simp only [Exit.then];refine bRetB results54 F rfl underlying70 rfl sizeOf70 H 0 rfl ?_
    exact ⟨by rw [hst],H.below⟩
   cases h16
-- BfQ
theorem addR_at (s:By) (t a:Nat) (st:By) (ha:a≤manyB s t) (i:Nat):addR s t a st i=if i=138+t then s (138+t)+1 else if 42+t * 24+a * 2≤i∧i < 42+t * 24+a * 2+2 then st (i - (42+t * 24+a * 2))
   else if 42+t * 24+(a+1) * 2≤i∧i < 42+t * 24+(manyB s t+1) * 2 then s (i - 2) else s i:=by
 unfold addR put
 split
 · rfl
 · unfold lay cut
   split
   · rfl
   · by_cases h:42+t * 24+(a+1) * 2≤i∧i < 42+t * 24+(manyB s t+1) * 2
     · rw [if_pos h,if_pos (by omega)]
       congr 1
       omega
     · rw [if_neg h,if_neg (by omega)]
theorem drainR_at (s:By) (t a:Nat) (ha:a < manyB s t) (i:Nat):drainR s t a i=if i=36+(bLoc s t a).toNat then bVal s t a else if i=138+t then s (138+t) - 1
   else if 42+t * 24+(manyB s t - 1) * 2≤i∧i < 42+t * 24+manyB s t * 2 then 0
   else if 42+t * 24+a * 2≤i∧i < 42+t * 24+(manyB s t - 1) * 2 then s (i+2) else s i:=by
 unfold drainR put
 split
 · rfl
 · split
   · rfl
   · unfold lay cut zb
     by_cases h:42+t * 24+(manyB s t - 1) * 2≤i∧i < 42+t * 24+manyB s t * 2
     · rw [if_pos h,if_pos (by omega)]
     · rw [if_neg h,if_neg (by omega)]
       by_cases h2:42+t * 24+a * 2≤i∧i < 42+t * 24+(manyB s t - 1) * 2
       · rw [if_pos h2,if_pos (by omega)]
         congr 1
         omega
       · rw [if_neg h2,if_neg (by omega)]
section
variable {s st:By} {t a:Nat}
theorem add_low (ha:a≤manyB s t) {i:Nat} (hi:i < 42):addR s t a st i=s i:=by
 rw [addR_at s t a st ha,if_neg (by omega),if_neg (by omega),if_neg (by omega)]
theorem add_many (ha:a≤manyB s t) (hn:manyB s t≤11):manyB (addR s t a st) t=manyB s t+1:=by
 unfold manyB at hn ⊢
 rw [addR_at s t a st ha,if_pos rfl,UInt8.toNat_add]
 have h1:(1:UInt8).toNat=1:=rfl
 omega
theorem add_far (ha:a≤manyB s t) (hn:manyB s t≤11) (ht:t < 4) {u:Nat} (hu:u < 4) (hne:u ≠ t):manyB (addR s t a st) u=manyB s u∧∀ i,i < 12→bLoc (addR s t a st) u i=bLoc s u i∧bVal (addR s t a st) u i=bVal s u i:=by
 refine ⟨?_,fun i hi=>⟨?_,?_⟩⟩
 · unfold manyB
   rw [addR_at s t a st ha,if_neg (by omega),if_neg (by omega),if_neg (by omega)]
 · unfold bLoc
   rw [addR_at s t a st ha,if_neg (by omega),if_neg (by omega),if_neg (by omega)]
 · unfold bVal
   rw [addR_at s t a st ha,if_neg (by omega),if_neg (by omega),if_neg (by omega)]
theorem add_loc (ha:a≤manyB s t) (hn:manyB s t≤11) (ht:t < 4) {i:Nat} (hi:i < 12):bLoc (addR s t a st) t i=if i=a then st 0 else if a < i∧i≤manyB s t then bLoc s t (i - 1) else bLoc s t i:=by
 unfold bLoc
 rw [addR_at s t a st ha,if_neg (by omega)]
 by_cases h:i=a
 · rw [if_pos (by omega),if_pos h];congr 1;omega
 · rw [if_neg (by omega),if_neg h]
   by_cases h2:a < i∧i≤manyB s t
   · rw [if_pos (by omega),if_pos h2];congr 1;omega
   · rw [if_neg (by omega),if_neg h2]
theorem add_val (ha:a≤manyB s t) (hn:manyB s t≤11) (ht:t < 4) {i:Nat} (hi:i < 12):bVal (addR s t a st) t i=if i=a then st 1 else if a < i∧i≤manyB s t then bVal s t (i - 1) else bVal s t i:=by
 unfold bVal
 rw [addR_at s t a st ha,if_neg (by omega)]
 by_cases h:i=a
 · rw [if_pos (by omega),if_pos h];congr 1;omega
 · rw [if_neg (by omega),if_neg h]
   by_cases h2:a < i∧i≤manyB s t
   · rw [if_pos (by omega),if_pos h2];congr 1;omega
   · rw [if_neg (by omega),if_neg h2]
theorem drain_low (ha:a < manyB s t) {i:Nat} (hi:i < 36):drainR s t a i=s i:=by
 rw [drainR_at s t a ha,if_neg (by omega),if_neg (by omega),if_neg (by omega),if_neg (by omega)]
theorem drain_mem (ha:a < manyB s t) {k:Nat} (hk:k < 6):drainR s t a (36+k)=if k=(bLoc s t a).toNat then bVal s t a else s (36+k):=by
 rw [drainR_at s t a ha]
 by_cases h:k=(bLoc s t a).toNat
 · rw [if_pos (by omega),if_pos h]
 · rw [if_neg (by omega),if_neg h,if_neg (by omega),if_neg (by omega),if_neg (by omega)]
theorem drain_many (ha:a < manyB s t) (hl:(bLoc s t a).toNat < 6):manyB (drainR s t a) t=manyB s t - 1:=by
 unfold manyB at ha ⊢
 rw [drainR_at s t a ha,if_neg (by omega),if_pos rfl,UInt8.toNat_sub_of_le _ _ (UInt8.le_iff_toNat_le.2 (by have h1:(1:UInt8).toNat=1:=rfl;omega))]
 rfl
theorem drain_far (ha:a < manyB s t) (hl:(bLoc s t a).toNat < 6) (hn:manyB s t≤12) (ht:t < 4) {u:Nat} (hu:u < 4) (hne:u ≠ t):manyB (drainR s t a) u=manyB s u∧∀ i,i < 12→bLoc (drainR s t a) u i=bLoc s u i∧bVal (drainR s t a) u i=bVal s u i:=by
 refine ⟨?_,fun i hi=>⟨?_,?_⟩⟩
 · unfold manyB
   rw [drainR_at s t a ha,if_neg (by omega),if_neg (by omega),if_neg (by omega),if_neg (by omega)]
 · show drainR s t a (42+u * 24+i * 2)=_
   rw [drainR_at s t a ha,if_neg (by omega),if_neg (by omega),if_neg (by omega),if_neg (by omega)]
   rfl
 · show drainR s t a (42+u * 24+i * 2+1)=_
   rw [drainR_at s t a ha,if_neg (by omega),if_neg (by omega),if_neg (by omega),if_neg (by omega)]
   rfl
theorem drain_loc (ha:a < manyB s t) (hl:(bLoc s t a).toNat < 6) (hn:manyB s t≤12) (ht:t < 4) {i:Nat} (hi:i < 12):bLoc (drainR s t a) t i=if i+1=manyB s t then 0 else if a≤i∧i+1 < manyB s t then bLoc s t (i+1) else bLoc s t i:=by
 show drainR s t a (42+t * 24+i * 2)=_
 rw [drainR_at s t a ha,if_neg (by omega),if_neg (by omega)]
 by_cases h:i+1=manyB s t
 · rw [if_pos (by omega),if_pos h]
 · rw [if_neg (by omega),if_neg h]
   by_cases h2:a≤i∧i+1 < manyB s t
   · rw [if_pos (by omega),if_pos h2]
     show s _=s _
     congr 1;omega
   · rw [if_neg (by omega),if_neg h2];rfl
theorem drain_val (ha:a < manyB s t) (hl:(bLoc s t a).toNat < 6) (hn:manyB s t≤12) (ht:t < 4) {i:Nat} (hi:i < 12):bVal (drainR s t a) t i=if i+1=manyB s t then 0 else if a≤i∧i+1 < manyB s t then bVal s t (i+1) else bVal s t i:=by
 show drainR s t a (42+t * 24+i * 2+1)=_
 rw [drainR_at s t a ha,if_neg (by omega),if_neg (by omega)]
 by_cases h:i+1=manyB s t
 · rw [if_pos (by omega),if_pos h]
 · rw [if_neg (by omega),if_neg h]
   by_cases h2:a≤i∧i+1 < manyB s t
   · rw [if_pos (by omega),if_pos h2]
     show s _=s _
     congr 1;omega
   · rw [if_neg (by omega),if_neg h2];rfl
end
-- BfR
def execT (x:Ins) (s:By) (t:Nat):By:=
 if x.op=1 then farP x (cut s (t * 9)) (seenP s t x.loc) else if x.op=2 then put (cut s (t * 9)) 0 (s (t * 9)+1)
 else if x.op=4∨x.op=5∨x.op=6 then farP x (cut s (t * 9)) (s (36+x.loc.toNat)) else localP x (cut s (t * 9))
def writesM (m:UInt8) (x:Ins):Prop:=(x.op=2∧m=1)∨x.op=4∨x.op=5∨x.op=6
instance (m:UInt8) (x:Ins):Decidable (writesM m x):=by unfold writesM;infer_instance
def buffers (m:UInt8) (x:Ins):Prop:=x.op=2∧m ≠ 1
instance (m:UInt8) (x:Ins):Decidable (buffers m x):=by unfold buffers;infer_instance
theorem exec_val {m:UInt8} {x:Ins} {s:By} {t:Nat} (ht:t < 4) (hloc:isLocal x=false→x.loc.toNat < 6) (hop:x.op=1∨x.op=2∨x.op=3∨x.op=4∨x.op=5∨x.op=6∨x.op=7∨x.op=8) (i:Nat) :
   execP m x s t i=if t * 9≤i∧i < t * 9+9 then execT x s t (i - t * 9) else if writesM m x∧i=36+x.loc.toNat then hasP x (cut s (t * 9)) (s (36+x.loc.toNat))
     else if buffers m x then addP m s t (stP x.loc (valA x (cut s (t * 9)))) i else s i:=by
 by_cases h1:x.op=1
 · have hw:¬ writesM m x:=by unfold writesM;rw [h1];simp
   have hb:¬ buffers m x:=by unfold buffers;rw [h1];simp
   unfold execP execT
   have hw':¬ (writesM m x∧i=36+x.loc.toNat):=fun h=>hw h.1
   rw [if_pos h1,if_pos h1,if_neg hw',if_neg hb]
   rfl
 · by_cases h2:x.op=2
   · have hl:=hloc (by simp [isLocal,h2])
     unfold execP execT
     rw [if_neg h1,if_pos h2,if_neg h1,if_pos h2]
     unfold lay
     split
     · rfl
     · rename_i hi
       by_cases hm:m=1
       · have hw:writesM m x:=.inl ⟨h2,hm⟩
         have hb:¬ buffers m x:=fun h=>h.2 hm
         rw [if_pos hm,if_neg hb]
         unfold put
         by_cases hi2:i=36+x.loc.toNat
         · rw [if_pos hi2,if_pos ⟨hw,hi2⟩]
           unfold hasP
           rw [if_pos (.inl h2)]
         · rw [if_neg hi2,if_neg (fun h=>hi2 h.2)]
       · have hw:¬ writesM m x:=by unfold writesM;rw [h2];simp [hm]
         rw [if_neg hm,if_neg (fun h=>hw h.1),if_pos ⟨h2,hm⟩]
   · have hb:¬ buffers m x:=fun h=>h2 h.1
     by_cases h4:x.op=4∨x.op=5∨x.op=6
     · have hL:isLocal x=false:=by rcases h4 with h | h | h <;> simp [isLocal,h]
       have hw:writesM m x:=.inr h4
       unfold execP execT
       rw [if_neg h1,if_neg h2,if_pos h4,if_neg h1,if_neg h2,if_pos h4,moveP_at,if_neg hb]
       unfold thrP
       rw [hL]
       simp only [Bool.false_eq_true,if_false,true_and,hw]
     · have hw:¬ writesM m x:=by
         rintro (h | h)
         · exact h2 h.1
         · exact h4 h
       unfold execP execT
       have hw':¬ (writesM m x∧i=36+x.loc.toNat):=fun h=>hw h.1
       rw [if_neg h1,if_neg h2,if_neg h4,if_neg h1,if_neg h2,if_neg h4,if_neg hw',if_neg hb]
       rfl
theorem execT_pc {x:Ins} {s:By} {t:Nat} (hop:x.op=1∨x.op=2∨x.op=3∨x.op=4∨x.op=5∨x.op=6∨x.op=7∨x.op=8):execT x s t 0=newPc x (cut s (t * 9)):=by
 have hn:x.op ≠ 8→newPc x (cut s (t * 9))=s (t * 9)+1:=fun h=>if_neg (fun hh=>h hh.1)
 unfold execT
 split
 · rename_i h;rw [hn (by rw [h];decide)];rfl
 · split
   · rename_i h;rw [hn (by rw [h];decide)];rfl
   · split
     · rename_i h;rw [hn (by rcases h with h | h | h <;> rw [h] <;> decide)];rfl
     · rename_i h1 h2 h4
       have hL:isLocal x=true:=by
         rcases hop with h | h | h | h | h | h | h | h
         · exact absurd h h1
         · exact absurd h h2
         · simp [isLocal,h]
         · exact absurd (.inl h) h4
         · exact absurd (.inr (.inl h)) h4
         · exact absurd (.inr (.inr h)) h4
         · simp [isLocal,h]
         · simp [isLocal,h]
       have:=thrP_pc x (cut s (t * 9)) 0
       unfold thrP at this
       rw [hL,if_pos rfl] at this
       exact this
theorem fits_iff {p:Prg} {m:UInt8} {s:By} {t:Nat}:fitsP p m s t=true ↔ manyB s t≤mostB p m s t∧∀ i,i < 12→slotOk p m s t i=true:=by
 unfold fitsP;rw [Bool.and_eq_true,decide_eq_true_eq,allB_iff]
theorem slot_iff {p:Prg} {m:UInt8} {s:By} {t i:Nat}:slotOk p m s t i=true ↔ (manyB s t≤i→bLoc s t i=0∧bVal s t i=0)∧(i < manyB s t→(bLoc s t i).toNat < p.locs.length∧(m=3→0 < i→(bLoc s t (i - 1)).toNat≤(bLoc s t i).toNat)):=by
 unfold slotOk
 split
 · rename_i h
   simp only [Bool.and_eq_true,beq_iff_eq]
   exact ⟨fun hh=>⟨fun _=>hh,fun h2=>absurd h2 (by omega)⟩,fun hh=>hh.1 h⟩
 · rename_i h
   simp only [Bool.and_eq_true,decide_eq_true_eq,Bool.not_eq_true',Bool.and_eq_false_iff,beq_eq_false_iff_ne,decide_eq_false_iff_not]
   constructor
   · rintro ⟨h1,h2⟩
     refine ⟨fun h3=>absurd h3 h,fun _=>⟨h1,fun hm hi=>?_⟩⟩
     rcases h2 with (h2 | h2) | h2
     · exact absurd hm h2
     · exact absurd hi h2
     · rw [UInt8.lt_iff_toNat_lt] at h2;omega
   · rintro ⟨_,h2⟩
     obtain ⟨h3,h4⟩:=h2 (by omega)
     refine ⟨h3,?_⟩
     by_cases hm:m=3
     · by_cases hi:0 < i
       · refine .inr ?_
         rw [UInt8.lt_iff_toNat_lt]
         have:=h4 hm hi
         omega
       · exact .inl (.inr hi)
     · exact .inl (.inl hm)
theorem addAt_spec {m:UInt8} {s:By} {t:Nat} {loc:UInt8}:∀ n,(m=3→∀ i,addAt m s t loc n≤i→i < n→loc.toNat < (bLoc s t i).toNat)∧(m=3→0 < addAt m s t loc n→(bLoc s t (addAt m s t loc n - 1)).toNat≤loc.toNat)∧(m ≠ 3→addAt m s t loc n=n)
 | 0=>⟨fun _ i _ h=>absurd h (by omega),fun _ h=>absurd h (by simp [addAt]),fun _=>rfl⟩
 | n+1=>by
   obtain ⟨h1,h2,h3⟩:=addAt_spec (m:=m) (s:=s) (t:=t) (loc:=loc) n
   rw [addAt]
   split
   · rename_i hc
     refine ⟨fun hm i hi hin=>?_,h2,fun hm=>absurd hc.1 hm⟩
     rcases Nat.lt_or_ge i n with h | h
     · exact h1 hm i hi h
     · obtain rfl:i=n:=by omega
       exact UInt8.lt_iff_toNat_lt.1 hc.2
   · rename_i hc
     refine ⟨fun _ i hi hin=>absurd hi (by omega),fun hm _=>?_,fun _=>rfl⟩
     have h5:¬ loc.toNat < (bLoc s t n).toNat:=fun h=>hc ⟨hm,UInt8.lt_iff_toNat_lt.2 h⟩
     show (bLoc s t n).toNat≤_
     omega
def nu (p:Prg) (s:By):Nat:=2 * mu p s+(manyB s 0+manyB s 1+manyB s 2+manyB s 3)
-- BfS
structure ExecOf (p:Prg) (m:UInt8) (s:By) (t:Nat) (l:List Ins) (x:Ins):Prop where
 r:RightM p m s
 hl:p.threads[t]? = some l
 hx:l[pcP s t]? = some x
 ready:readyI x m s t=true
 t4:t < 4
 op:x.op=1∨x.op=2∨x.op=3∨x.op=4∨x.op=5∨x.op=6∨x.op=7∨x.op=8
 loc:isLocal x=false→x.loc.toNat < p.locs.length
theorem execOf {p:Prg} {m:UInt8} {s:By} {t:Nat} (hr:RightM p m s) (ht:t < p.threads.length) (he:enabledM p m s t=true):∃ l x,ExecOf p m s t l x∧nextI p s t=some x:=by
 obtain ⟨l,x,hl,hx,hn,hrd⟩:=enabledM_at he
 exact ⟨l,x,⟨hr,hl,hx,hrd,by have:=(valid hr.prog).thr4;omega,op_of hr.prog hl hx,fun h=>(far_at (fineL hr.prog hl hx) h).1⟩,hn⟩
theorem threadSt_same {p:Prg} {a b:By} {u:Nat} (h:∀ k,k < 9→b (u * 9+k)=a (u * 9+k)) (ha:threadSt p a u=true):threadSt p b u=true:=by
 unfold threadSt at ha ⊢
 split at ha
 · have h0:=h 0 (by omega)
   simp only [Nat.add_zero] at h0
   rw [h0];exact ha
 · rw [same_iff] at ha ⊢
   exact fun k hk=>(h k hk).trans (ha k hk)
theorem bare_low {s:By} {i:Nat} (h:i < 42):bareP s i=s i:=if_pos h
theorem bare_ok {p:Prg} {z:By} (hp:rightErr p=0) (ht:∀ u,u < 4→threadSt p z u=true) (hm:∀ k,k < 6→memSt p z k=true):rightS p (bareP z)=true:=by
 rw [rightS_end hp (fun u hu=>?_) (fun k hk=>?_)]
 · rw [Bool.and_eq_true,same_iff,same_iff]
   exact ⟨fun i hi=>if_neg (by omega),fun i hi=>if_neg (by omega)⟩
 · exact threadSt_same (fun k hk=>bare_low (by omega)) (ht u hu)
 · have h1:=hm k hk
   unfold memSt at h1 ⊢
   rw [bare_low (by omega)];exact h1
section
variable {p:Prg} {m:UInt8} {s:By} {t:Nat} {l:List Ins} {x:Ins}
theorem RightM.thread (h:RightM p m s) {u:Nat} (hu:u < 4):threadSt p s u=true:=by
 have h1:=h.bare
 unfold rightS stateOk at h1
 simp only [Bool.and_eq_true] at h1
 exact threadSt_same (fun k hk=>(bare_low (by omega)).symm) ((allB_iff.1 h1.2.1.1) u hu)
theorem RightM.mem (h:RightM p m s) {k:Nat} (hk:k < 6):memSt p s k=true:=by
 have h1:=h.bare
 unfold rightS stateOk at h1
 simp only [Bool.and_eq_true] at h1
 have h2:=(allB_iff.1 h1.2.1.2) k hk
 unfold memSt at h2 ⊢
 rw [bare_low (by omega)] at h2;exact h2
theorem ExecOf.loc6 (h:ExecOf p m s t l x):isLocal x=false→x.loc.toNat < 6:=fun hh=>by have:=h.loc hh;have:=(valid h.r.prog).locs6;omega
theorem ExecOf.lt (h:ExecOf p m s t l x):pcP s t < l.length:=(List.getElem?_eq_some_iff.1 h.hx).1
theorem ExecOf.l12 (h:ExecOf p m s t l x):l.length≤12:=(valid h.r.prog).long t l h.hl
theorem ExecOf.val (h:ExecOf p m s t l x) (i:Nat):execP m x s t i=if t * 9≤i∧i < t * 9+9 then execT x s t (i - t * 9) else if writesM m x∧i=36+x.loc.toNat then hasP x (cut s (t * 9)) (s (36+x.loc.toNat))
     else if buffers m x then addP m s t (stP x.loc (valA x (cut s (t * 9)))) i else s i:=exec_val h.t4 h.loc6 h.op i
theorem ExecOf.room (h:ExecOf p m s t l x):manyB s t≤11:=add_room h.r h.t4 h.hl h.lt h.l12
theorem ExecOf.notLocal (_h:ExecOf p m s t l x) (hw:writesM m x∨buffers m x):isLocal x=false:=by
 rcases hw with (h | h | h | h) | h
 · simp [isLocal,h.1]
 · simp [isLocal,h]
 · simp [isLocal,h]
 · simp [isLocal,h]
 · simp [isLocal,h.1]
theorem ExecOf.low (h:ExecOf p m s t l x) {i:Nat} (hi:i < 42):execP m x s t i=if t * 9≤i∧i < t * 9+9 then execT x s t (i - t * 9) else if writesM m x∧i=36+x.loc.toNat then hasP x (cut s (t * 9)) (s (36+x.loc.toNat)) else s i:=by
 rw [h.val]
 split
 · rfl
 · split
   · rfl
   · split
     · exact add_low (addAt_le _) hi
     · rfl
theorem ExecOf.other (h:ExecOf p m s t l x) {u k:Nat} (hu:u < 4) (hne:u ≠ t) (hk:k < 9):execP m x s t (u * 9+k)=s (u * 9+k):=by
 have:=h.t4
 rw [h.low (by omega),if_neg (by rcases Nat.lt_or_gt_of_ne hne with h | h <;> omega),if_neg (by omega)]
theorem ExecOf.pcOther (h:ExecOf p m s t l x) {u:Nat} (hu:u < 4) (hne:u ≠ t):pcP (execP m x s t) u=pcP s u:=by
 have:=h.other hu hne (k:=0) (by omega)
 simp only [Nat.add_zero] at this
 unfold pcP;rw [this]
theorem ExecOf.own (h:ExecOf p m s t l x) {k:Nat} (hk:k < 9):execP m x s t (t * 9+k)=execT x s t k:=by
 have:=h.t4
 rw [h.low (by omega),if_pos (by omega),show t * 9+k - t * 9=k by omega]
theorem ExecOf.pc (h:ExecOf p m s t l x):pcP s t < pcP (execP m x s t) t∧pcP (execP m x s t) t≤l.length:=by
 have h0:=h.own (k:=0) (by omega)
 simp only [Nat.add_zero] at h0
 rw [execT_pc h.op] at h0
 have hi:=inses_at ((valid h.r.prog).ins t l h.hl) h.hx
 rw [Nat.zero_add] at hi
 have:=newPc_in (th:=cut s (t * 9)) h.l12 (by simpa [cut,pcP] using h.lt) (by simpa [cut,pcP] using hi)
 unfold pcP
 rw [h0]
 simpa [cut] using this
theorem ExecOf.mem (h:ExecOf p m s t l x) {k:Nat} (hk:k < 6):execP m x s t (36+k)=if writesM m x∧k=x.loc.toNat then hasP x (cut s (t * 9)) (s (36+x.loc.toNat)) else s (36+k):=by
 have:=h.t4
 rw [h.low (by omega),if_neg (by omega)]
 by_cases hc:writesM m x∧k=x.loc.toNat
 · rw [if_pos ⟨hc.1,by omega⟩,if_pos hc]
 · rw [if_neg (fun hh=>hc ⟨hh.1,by omega⟩),if_neg hc]
theorem ExecOf.high (h:ExecOf p m s t l x) {i:Nat} (hi:42≤i):execP m x s t i=if buffers m x then addP m s t (stP x.loc (valA x (cut s (t * 9)))) i else s i:=by
 have:=h.t4
 rw [h.val,if_neg (by omega),if_neg];rintro ⟨hw,e⟩
 have:=h.loc6 (h.notLocal (.inl hw))
 omega
theorem ExecOf.still (h:ExecOf p m s t l x) (hb:¬ buffers m x) (u:Nat):manyB (execP m x s t) u=manyB s u∧∀ i,bLoc (execP m x s t) u i=bLoc s u i∧bVal (execP m x s t) u i=bVal s u i:=by
 refine ⟨?_,fun i=>⟨?_,?_⟩⟩
 · unfold manyB;rw [h.high (by omega),if_neg hb]
 · unfold bLoc;rw [h.high (by omega),if_neg hb]
 · unfold bVal;rw [h.high (by omega),if_neg hb]
theorem ExecOf.adds (h:ExecOf p m s t l x) (hb:buffers m x) (u:Nat):manyB (execP m x s t) u=manyB (addP m s t (stP x.loc (valA x (cut s (t * 9))))) u∧∀ i,bLoc (execP m x s t) u i=bLoc (addP m s t (stP x.loc (valA x (cut s (t * 9))))) u i∧bVal (execP m x s t) u i=bVal (addP m s t (stP x.loc (valA x (cut s (t * 9))))) u i:=by
 refine ⟨?_,fun i=>⟨?_,?_⟩⟩
 · unfold manyB;rw [h.high (by omega),if_pos hb]
 · unfold bLoc;rw [h.high (by omega),if_pos hb]
 · unfold bVal;rw [h.high (by omega),if_pos hb]
theorem ExecOf.far (h:ExecOf p m s t l x) {u:Nat} (hu:u < 4) (hne:u ≠ t):manyB (execP m x s t) u=manyB s u∧∀ i,i < 12→bLoc (execP m x s t) u i=bLoc s u i∧bVal (execP m x s t) u i=bVal s u i:=by
 by_cases hb:buffers m x
 · obtain ⟨h1,h2⟩:=h.adds hb u
   obtain ⟨h3,h4⟩:=add_far (st:=stP x.loc (valA x (cut s (t * 9)))) (a:=addAt m s t x.loc (manyB s t)) (addAt_le _) h.room h.t4 hu hne
   exact ⟨h1.trans h3,fun i hi=>⟨((h2 i).1).trans (h4 i hi).1,((h2 i).2).trans (h4 i hi).2⟩⟩
 · obtain ⟨h1,h2⟩:=h.still hb u
   exact ⟨h1,fun i _=>h2 i⟩
end
theorem fits_same {p:Prg} {m:UInt8} {s z:By} {u:Nat} (hm:manyB z u=manyB s u) (hb:∀ i,i < 12→bLoc z u i=bLoc s u i∧bVal z u i=bVal s u i) (hmost:mostB p m s u≤mostB p m z u) (h:fitsP p m s u=true):fitsP p m z u=true:=by
 rw [fits_iff] at h ⊢
 refine ⟨by omega,fun i hi=>?_⟩
 have h1:=h.2 i hi
 rw [slot_iff] at h1 ⊢;rw [hm,(hb i hi).1,(hb i hi).2]
 refine ⟨h1.1,fun hl=>⟨(h1.2 hl).1,fun h3 h0=>?_⟩⟩
 rw [(hb (i - 1) (by omega)).1]
 exact (h1.2 hl).2 h3 h0
theorem most_pc {p:Prg} {m:UInt8} {s z:By} {u:Nat} (h:pcP s u≤pcP z u):mostB p m s u≤mostB p m z u:=by
 unfold mostB
 split
 · exact h
 · exact Nat.le_refl _
end Go.Proofs.YtbgnapmaimkpkaaGreatDoor
