/-
  WALK2. Package buffer: step. Conditions: the program lies in memory; block 0 holds the table of needs; the state is valid, the move one of its moves.
-/
import Derived.Test.YtcpehikcegoojaaGreatDoorJn2
set_option linter.unusedSimpArgs false
set_option linter.unusedVariables false
namespace Go.Proofs.YtcpehikcegoojaaGreatDoor
-- BfF
open Go.Proofs.Tryz
open Go.RowKit
set_option maxRecDepth 100000
theorem XdR {t:Nat} (h:t < 4):(UInt8.ofNat t).toNat=t:=by
 rw [UInt8.toNat_ofNat']
 omega
def XiL (p:Prg) (m:UInt8) (s:By) (x:Pss) (t:Nat):Prop:=(x=⟨UInt8.ofNat t,false,0⟩∧JP p m s t=true)∨(∃ i,i < JA s t∧x=JM m s t i)
theorem Ds {m:UInt8} {s:By} {t:Nat} {x:Pss}:∀ {n},x ∈ J0 m s t n→∃ i,i < n∧x=JM m s t i
 | 0,h=>by simp [J0] at h
 | n+1,h=>by
   rw [J0] at h
   split at h
   · rcases List.mem_append.1 h with h | h
     · obtain ⟨i,hi,e⟩:=Ds h
       exact ⟨i,by omega,e⟩
     · exact ⟨n,by omega,by simpa using h⟩
   · obtain ⟨i,hi,e⟩:=Ds h
     exact ⟨i,by omega,e⟩
theorem XeG {p:Prg} {m:UInt8} {s:By} {t:Nat} {x:Pss} (h:x ∈ BG p m s t):XiL p m s x t:=by
 unfold BG at h
 rcases List.mem_append.1 h with h | h
 · split at h
   · rename_i he
     exact .inl ⟨by simpa using h,he⟩
   · simp at h
 · exact .inr (Ds h)
theorem Dr {p:Prg} {m:UInt8} {s:By} {x:Pss}:∀ {n},x ∈ QZ p m s n→∃ t,t < n∧XiL p m s x t
 | 0,h=>by simp [QZ] at h
 | n+1,h=>by
   rw [QZ] at h
   rcases List.mem_append.1 h with h | h
   · obtain ⟨t,ht,e⟩:=Dr h
     exact ⟨t,by omega,e⟩
   · exact ⟨n,by omega,XeG h⟩
theorem BU {p:Prg} {m:UInt8} {s:By} {t:Nat} (h:JP p m s t=true):∃ l x,p.threads[t]? = some l∧l[(s (t * 9)).toNat]? = some x∧EQ p s t=some x∧QQ x m s t=true:=by
 unfold JP at h
 cases hn:EQ p s t with
 | none=>rw [hn] at h;cases h
 | some x=>
   rw [hn] at h
   have hn2:=hn
   unfold EQ at hn2
   cases hl:p.threads[t]? with
   | none=>rw [hl] at hn2;cases hn2
   | some l=>
     rw [hl] at hn2
     exact ⟨l,x,rfl,hn2,rfl,h⟩
theorem Xe0 {m:UInt8} {s st st':By} {t:Nat} (h0:st 0=st' 0) (h1:st 1=st' 1):Ce m s t st=Ce m s t st':=by
 unfold Ce Xbj
 rw [h0]
 have:∀ (a:By) (o:Nat),lay a o 2 st=lay a o 2 st':=fun a o=>by
   funext i
   unfold lay
   split
   · rename_i h
     rcases (show i - o=0∨i - o=1 by omega) with e | e <;> rw [e]
     · exact h0
     · exact h1
   · rfl
 rw [this]
theorem Xja {p:Prg} {t i:Nat} {l:List Ins} {x:Ins} (h:JH p=0) (hl:p.threads[t]? = some l) (hx:l[i]? = some x):x.op=1∨x.op=2∨x.op=3∨x.op=4∨x.op=5∨x.op=6∨x.op=7∨x.op=8:=
 XaG x.op (NO (M6 ((valid h).ins t l hl) hx) 0 (by omega))
theorem XbO {p:Prg} {m:UInt8} {s:By} {t:Nat} {l:List Ins} {x:Ins} (h:RightM p m s) (ht:t < 4) (hl:p.threads[t]? = some l) (hx:l[(s (t * 9)).toNat]? = some x):M3 p (Qf s) (t:Int)=Lp x (Qf s) t:=by
 have hx':l[(Qf s (t * 9)).toNat]? = some x:=by rw [Xdx ht];exact hx
 have hm:Nz p (Qf s) (t:Int)=true:=by
   unfold Nz Na
   rw [h.bare,if_pos rfl,List.any_eq_true]
   refine ⟨t,List.mem_filter.2 ⟨List.mem_range.2 (List.getElem?_eq_some_iff.1 hl).1,?_⟩,by simp⟩
   rw [BJ hl]
   exact decide_eq_true (List.getElem?_eq_some_iff.1 hx').1
 unfold M3
 rw [hm,if_pos rfl,Int.toNat_natCast]
 exact D0 hl hx'
theorem C8 {p:Prg} {x:Ins} (h:JB x=true∨(JB x=false∧LW x.op∧x.loc.toNat < p.locs.length∧(x.op ≠ 2→x.dst.toNat < 8))) (hL:JB x=false):x.loc.toNat < p.locs.length∧(x.op ≠ 2→x.dst.toNat < 8):=by
 rcases h with h | h
 · rw [h] at hL;cases hL
 · exact h.2.2
theorem Xee {p:Prg} {m:UInt8} {s:By} {t:Nat} {l:List Ins} (h:RightM p m s) (ht:t < 4) (hl:p.threads[t]? = some l) (hpc:(s (t * 9)).toNat < l.length) (h12:l.length≤12):JA s t≤11:=by
 rcases Nat.eq_zero_or_pos (JA s t) with h0 | h0
 · omega
 · obtain ⟨_,l',hl',h1,_⟩:=(h.many ht).2 (by omega)
   omega
theorem XgC {m:UInt8} {x:Ins} {s:By} {t:Nat} (h1:x.op=1) (hd:x.dst.toNat < 8) :
   lay s (t * 9) 9 (put (put (cut s (t * 9)) (1+x.dst.toNat) (LU s t x.loc)) 0 (put (cut s (t * 9)) (1+x.dst.toNat) (LU s t x.loc) 0+1))=Ql m x s t:=by
 have h2:¬ x.op=2:=by rw [h1];decide
 unfold Ql Xdd MR
 rw [if_pos h1,if_neg h2,if_pos hd,show put (cut s (t * 9)) (1+x.dst.toNat) (LU s t x.loc) 0=cut s (t * 9) 0 from if_neg (by omega)]
theorem Xjs {m:UInt8} {x:Ins} {s:By} {t:Nat} (h1:¬ x.op=1) (h2:x.op=2) (hm:m=1) :
   lay (put s (36+x.loc.toNat) (NQ x.aR x.aN (cut (cut s (t * 9)) 1))) (t * 9) 9 (put (cut s (t * 9)) 0 (cut s (t * 9) 0+1))=Ql m x s t:=by
 unfold Ql
 rw [if_neg h1,if_pos h2,if_pos hm]
 rfl
theorem Xjr {m:UInt8} {x:Ins} {s:By} {t:Nat} (h1:¬ x.op=1) (h2:x.op=2) (hm:¬ m=1) :
   lay (Ce m s t (put (put zb 0 x.loc) 1 (NQ x.aR x.aN (cut (cut s (t * 9)) 1)))) (t * 9) 9 (put (cut s (t * 9)) 0 (cut s (t * 9) 0+1))=Ql m x s t:=by
 unfold Ql
 have e:=Xe0 (m:=m) (s:=s) (t:=t) (st:=put (put zb 0 x.loc) 1 (NQ x.aR x.aN (cut (cut s (t * 9)) 1))) (st':=stP x.loc (Ns x (cut s (t * 9)))) rfl rfl
 rw [if_neg h1,if_pos h2,if_neg hm,e]
 rfl
theorem Dx {m:UInt8} {x:Ins} {s:By} {t:Nat} (h1:¬ x.op=1) (h2:¬ x.op=2) (h4:¬ (x.op=4∨x.op=5∨x.op=6)):lay s (t * 9) 9 (Ni x (cut s (t * 9)))=Ql m x s t:=by
 unfold Ql
 rw [if_neg h1,if_neg h2,if_neg h4]
theorem Xdf {m:UInt8} {x:Ins} {s z:By} {t:Nat} (ht:t < 4) (hloc:JB x=false→x.loc.toNat < 6) (h1:¬ x.op=1) (h2:¬ x.op=2) (h4:x.op=4∨x.op=5∨x.op=6) (hz:z=Lp x (Qf s) t) (i:Nat) :
   lay (lay s 36 6 (cut z 36)) (t * 9) 9 (cut z (t * 9)) i=Ql m x s t i:=by
 have hL:JB x=false:=by rcases h4 with h | h | h <;> simp [JB,h]
 have hl6:=hloc hL
 have hc:∀ k,k < 9→cut (Qf s) (t * 9) k=cut s (t * 9) k:=fun k hk=>if_pos (by omega)
 have hb:Qf s (36+x.loc.toNat)=s (36+x.loc.toNat):=if_pos (by omega)
 unfold Ql
 rw [if_neg h1,if_neg h2,if_pos h4,M4]
 unfold lay
 by_cases hi:t * 9≤i∧i < t * 9+9
 · rw [if_pos hi,if_pos hi]
   unfold cut
   rw [hz,M4,if_pos (by omega),hb,show t * 9+(i - t * 9) - t * 9=i - t * 9 by omega]
   exact Dc hc _ (by omega)
 · rw [if_neg hi,if_neg hi]
   by_cases hm:36≤i∧i < 36+6
   · rw [if_pos hm]
     unfold cut
     rw [show 36+(i - 36)=i by omega,hz,M4,if_neg hi]
     split
     · rw [hb];exact LP hc
     · exact if_pos (by omega)
   · rw [if_neg hm,if_neg (by omega)]
set_option maxHeartbeats 4000000 in
theorem Xfk (cs:List Value) (p:Prg) (w0:World) (hP:ProgAt w0 cs p) (hN:NeedsAt w0) (mc:UInt8) (s:By) (x:Pss) (hr:RightM p mc s) (hx:x ∈ JG p mc s) :
   Calls Tryz.prog 73 #[.agg cs.toArray,YtcpehikcegoojaaGreatDoor.b8 mc,.agg (bs 142 s).toArray,.agg x.cells.toArray] w0 fun e w'=>e = .returned (.agg (bs 142 (J5 p mc s x)).toArray)∧Below w0.heap.size w0 w':=by
 have H:=Own.start w0 none
 have V:=valid hr.prog
 have hV4:=V.thr4
 have hV6:=V.locs6
 have hP0:=hP
 obtain ⟨LA,LC,IA,IC,TA,TC,h,ccs,hp⟩:=hP
 obtain ⟨c1,c2,c3,c4,c5,rfl⟩:=DM (JT hp.cond)
 have hcs:=hp.cs
 subst hcs
 obtain ⟨t,htl,hmv⟩:=Dr hx
 have ht4:t < 4:=by omega
 have hto:=XdR ht4
 have hmany:=hr.many ht4
 rcases hmv with ⟨rfl,hen⟩ | ⟨i,hi,rfl⟩
 · obtain ⟨u,rfl⟩:∃ u:UInt8,t=u.toNat:=⟨UInt8.ofNat t,hto.symm⟩
   rw [UInt8.ofNat_toNat] at hx ⊢
   obtain ⟨l,ix,hl,hix,hnx,hrd⟩:=BU hen
   have hop:=Xja hr.prog hl hix
   have hfi:=Xjq hr.prog hl hix
   have hpc:=(List.getElem?_eq_some_iff.1 hix).1
   have hl12:=V.long u.toNat l hl
   have hmv2:=XbO hr ht4 hl hix
   have hme:JA s u.toNat=(s (138+u.toNat)).toNat:=rfl
   obtain ⟨bT,oT,BT,CT,rfl,hT1,hT2,hT3⟩:=hp.threads u.toNat l hl
   obtain ⟨bI,oI,rfl,hI⟩:=hT2 (s (u.toNat * 9)).toNat ix.cells (by rw [List.getElem?_map,hix];rfl)
   have hst:J5 p mc s ⟨u,false,0⟩=Ql mc ix s u.toNat:=by
     unfold J5
     rw [if_neg (by simp)]
     simp only [hnx]
   rw [show (Pss.mk u false 0).cells=[YtcpehikcegoojaaGreatDoor.b8 u,.bool false,YtcpehikcegoojaaGreatDoor.b8 0] from rfl]
   refine JF func73 rfl ntmps73 rfl (fun a F=>?_);refine cSR fun K1 hK1=>?_;refine sBx H F rfl rfl rfl ?_;clear F a H;intro b4 a w F H;refine Mg H F rfl rfl rfl ?_;clear F a H;intro b6 a w F H;refine sBx H F rfl rfl rfl ?_;clear F a H;intro b7 a w F H;refine Mo H N3 F rfl rfl ?_;clear F a H;intro b8 a w F H;refine nK hK1 ?_;clear hK1;refine JD (fun K2 hK2=>?_);refine cSR fun K3 hK3=>Xb (f:=1) (k:=1) X6 rfl YQ rfl rfl F rfl (Xc Y6 rfl (H.cell 1 rfl rfl) (qNK hK3 ?_));clear hK3;clear F a;intro a F
   refine cIf F rfl (fun h16=>?_) (fun h16=>?_)
   ·
    cases h16
   refine wp_skip (hK2 _ _ (cSR fun K4 hK4=>Xb (f:=0) (k:=0) X6 rfl XH rfl rfl F rfl (Xc XJ rfl (H.cell 1 rfl rfl) (qCv XO XT rfl rfl rfl (QG _) (Xd rfl (qNK hK4 (qSR fun K5 hK5=>Xh rfl (Xr (f:=0) (k:=0) XG rfl Yc rfl rfl rfl ?_))))))));clear hK2 hK4;clear F a;intro a F
   refine Ed XW XN F rfl rfl rfl rfl ?_ ?_
   focus (omega)
   clear F a;intro a F;refine Xs XK rfl XN F rfl (H.ra' 2 _ 9 rfl) ?_;clear F a;intro a F;refine Mo H Xe1 F rfl rfl ?_;clear F a H;intro b10 a w F H;refine Xt H 0 XN F rfl rfl rfl ?_;clear H;intro w H;rw [JE] at H;refine nK hK5 ?_;clear hK5;refine JD (fun K6 hK6=>?_);refine Xi H ?_;replace H:=H.drew;refine Xj 0 rfl F rfl (fun w=>rFa (f:=3) (k:=3) XM rfl Yo rfl rfl F rfl) H qq0 (Xl 1 rfl rfl rfl (fun a F w H=>rLd Yp F rfl (H.cell 4 rfl rfl)) H qq0 (Xm 2 rfl rfl (fun a F w=>rMv F rfl) H qq0 ?_));clear F a;intro a F
   refine Xq (k:=3) (i:=3) rfl F rfl (fun w=>rIx X7 YB F rfl rfl ?_) H (fun _ _ _ h=>h) ?_
   focus (omega)
   clear F a;intro a F;refine Xv 4 rfl F rfl rfl (fun w H=>rLd YI F rfl (H.arg hT1)) H qq0 (Xm 5 rfl rfl (fun a F w=>rFa (f:=0) (k:=0) XK rfl XH rfl rfl F rfl) H qq0 (Xl 6 rfl rfl rfl (fun a F w H=>rLd XJ F rfl (H.ce' 0 rfl)) H qq0 ?_));clear F a;intro a F
   refine Xq (k:=7) (i:=7) rfl F rfl (fun w=>rIx Yl XP F rfl rfl ?_) H (fun _ _ _ h=>h) ?_
   focus exact hpc
   clear F a;intro a F
   refine Xk (k:=8) (i:=8) rfl F rfl rfl (fun w H=>rLr XI rfl ?si F rfl (H.argR hI)) H (fun _ _ _ h=>h) ?_
   case si=>exact Jz XP
   clear F a;intro a F;refine Xn (k:=9) (i:=9) rfl F (oAl H Yu F rfl ?_);clear F a H;intro b11 a w F H;refine JR H.tail ?_
   refine Xn (k:=10) (i:=10) rfl F (oSr H 0 ?si F rfl rfl ?s1 rfl rfl ?_)
   case si=>exact Jz XP
   case s1=>rfl
   clear H;intro w H;refine Xo H ?_;refine Xp (k:=11) ?_;refine hK6 _ _ ?_;clear hK6;refine JD (fun K7 hK7=>?_);refine cSR fun K8 hK8=>Xb (f:=0) (k:=0) XI rfl XH rfl rfl F rfl (Xc XJ rfl (H.cell 0 rfl rfl) (qNK hK8 ?_));clear hK8;clear F a;intro a F;refine wp_block ?_;refine cSR fun K9 hK9=>Xg F rfl rfl (JL (y:=1)) (Xd rfl (qNK hK9 ?_));clear hK9;clear F a;intro a F
   refine cIf F rfl (fun h45=>?_) (fun h45=>?_)
   ·
    replace h45:=J1 h45
    obtain ⟨hloc,hdst⟩:=C8 hfi (by simp [JB,h45])
    replace hdst:=hdst (by rw [h45];decide)
    refine JD (fun K10 hK10=>?_);refine Xi H ?_;replace H:=H.drew;refine Xj 0 rfl F rfl (fun w=>rFa (f:=1) (k:=1) XI rfl XH rfl rfl F rfl) H qq0 (Xl 1 rfl rfl rfl (fun a F w H=>rLd XJ F rfl (H.cell 0 rfl rfl)) H qq0 (Xl 2 rfl rfl rfl (fun a F w H=>Nt XG rfl XL F rfl (H.whole 4 rfl)) H qq0 (Xm 3 rfl rfl (fun a F w=>rMv F rfl) H qq0 (Xm 4 rfl rfl (fun a F w=>rFa (f:=2) (k:=2) XI rfl XH rfl rfl F rfl) H qq0 (Xl 5 rfl rfl rfl (fun a F w H=>rLd XJ F rfl (H.cell 0 rfl rfl)) H qq0 (Xm 7 rfl rfl (fun a F w=>rFa (f:=1) (k:=1) XK rfl X1 rfl rfl F rfl) H qq0 ?_))))));clear F a;intro a F;refine Xn (k:=7) (i:=6) rfl F (J3 call90 F rfl rfl (Xhm s u.toNat ix.loc _ ht4 (by omega)) (gG H ?_));clear F a H;intro a w F H;refine JR H ?_
    refine Xq (k:=8) (i:=8) rfl F rfl (fun w=>XiA X9 XH F rfl rfl ?_) H (fun _ _ _ h=>h) ?_
    focus (omega)
    clear F a;intro a F;refine Xn (k:=9) (i:=9) rfl F (XjP H 1 XH F rfl rfl rfl (by omega) ?_);clear H;intro w H;refine Xo H ?_;refine Xp (k:=10) ?_;refine hK10 _ _ (JY (Xb (f:=0) (k:=0) XK rfl XH rfl rfl F rfl (Xc XJ rfl (H.ce' 1 rfl) (Xe rfl rfl (ND (y:=1)) (Xr (f:=0) (k:=0) XK rfl XH rfl rfl rfl ?_)))));clear hK10;clear F a;intro a F;refine LJ H 1 XH F rfl rfl rfl rfl (by omega) ?_;clear H;intro w H;refine nK hK7 (cSR fun K11 hK11=>Xf F rfl (Nu XK rfl XN rfl rfl rfl (H.whole 1 rfl) (Xr (f:=0) (k:=0) XG rfl Yc rfl rfl rfl ?_)));clear hK7;clear F a;intro a F
    refine Ed XW XN F rfl rfl rfl rfl ?_ ?_
    focus (omega)
    clear F a;intro a F;refine Xt H 4 XN F rfl rfl rfl ?_;clear H;intro w H;refine nK hK11 (cSR fun K12 hK12=>Xs XG rfl XL F rfl (H.whole 4 rfl) ?_);clear hK11;clear F a;intro a F;refine Xt H 2 XL F rfl rfl rfl ?_;clear H;intro w H;rw [JE] at H;refine nK hK12 ?_;clear hK12;refine wp_ret ?_;refine NE YO F rfl XG rfl XL H 2 rfl ?_
    refine ⟨?_,H.below⟩
    clear F H
    rw [hst];rw [XgC h45 hdst]
   replace h45:=J2 h45;refine cSR fun K13 hK13=>Xg F rfl rfl (JL (y:=2)) (Xd rfl (qNK hK13 ?_));clear hK13;clear F a;intro a F
   refine cIf F rfl (fun h60=>?_) (fun h60=>?_)
   ·
    replace h60:=J1 h60
    obtain ⟨hloc,_⟩:=C8 hfi (by simp [JB,h60])
    refine cSR fun K14 hK14=>Xb (f:=3) (k:=3) XI rfl XR rfl rfl F rfl ?_;clear F a;intro a F
    refine Xw XV rfl ?si F rfl (H.range 0 rfl _ 2) ?_
    case si=>exact Jz XR
    clear F a;intro a F;refine Xb (f:=1) (k:=1) XK rfl X1 rfl rfl F rfl (Nu X9 rfl X1 rfl rfl rfl (H.ra' 1 _ 8 rfl) ?_);clear F a;intro a F;refine Xu call91 F rfl (Lr ix.aR ix.aN _ _) (gG H ?_);clear F a H;intro a w F H;refine Xa F rfl (qNK hK14 (qSR fun K15 hK15=>Xr (f:=0) (k:=0) XK rfl XH rfl rfl rfl (Xc XJ rfl (H.ce' 1 rfl) (Xe rfl rfl (ND (y:=1)) (Xr (f:=0) (k:=0) XK rfl XH rfl rfl rfl ?_)))));clear hK14;clear F a;intro a F;refine LJ H 1 XH F rfl rfl rfl rfl (by omega) ?_;clear H;intro w H;refine nK hK15 (cSR fun K16 hK16=>Xf F rfl (Xe rfl rfl (JL (y:=1)) (qNK hK16 ?_)));clear hK15 hK16;clear F a;intro a F
    refine cIf F rfl (fun h72=>?_) (fun h72=>?_)
    ·
     replace h72:=J1 h72;refine JY (Xb (f:=2) (k:=2) XI rfl XH rfl rfl F rfl (Xc XJ rfl (H.cell 0 rfl rfl) (Xh rfl (Xr (f:=1) (k:=36) XG rfl Yg rfl rfl rfl ?_))));clear F a;intro a F
     refine MP Yj XH F rfl rfl rfl rfl ?_ ?_
     focus (omega)
     clear F a;intro a F;refine LJ H 4 XH F rfl rfl rfl rfl (by omega) ?_;clear H;intro w H;refine nK hK7 (cSR fun K17 hK17=>Xf F rfl (Nu XK rfl XN rfl rfl rfl (H.whole 1 rfl) (Xr (f:=0) (k:=0) XG rfl Yc rfl rfl rfl ?_)));clear hK7;clear F a;intro a F
     refine Ed XW XN F rfl rfl rfl rfl ?_ ?_
     focus (omega)
     clear F a;intro a F;refine Xt H 4 XN F rfl rfl rfl ?_;clear H;intro w H;refine nK hK17 (cSR fun K18 hK18=>Xs XG rfl XL F rfl (H.whole 4 rfl) ?_);clear hK17;clear F a;intro a F;refine Xt H 2 XL F rfl rfl rfl ?_;clear H;intro w H;rw [JE] at H;refine nK hK18 ?_;clear hK18;refine wp_ret ?_;refine NE YO F rfl XG rfl XL H 2 rfl ?_
     refine ⟨?_,H.below⟩
     clear F H
     rw [hst];rw [Xjs h45 h60 h72]
    replace h72:=J2 h72;refine JY (Xf F rfl (Nu XG rfl XL rfl rfl rfl (H.whole 4 rfl) (Xh rfl (Xr (f:=2) (k:=2) XI rfl XH rfl rfl rfl (Xc XJ rfl (H.cell 0 rfl rfl) (Xh rfl (Xhx (places:=[(0,1),(1,1)]) Xeg XQ (by kernel_rfl) rfl rfl rfl (FillB.one rfl rfl (FillB.one rfl rfl FillB.nil)) ?_)))))));clear F a;intro a F;refine Xu call92 F rfl (XjL mc s u.toNat _ _ ht4 (Xee hr ht4 hl hpc hl12)) (gG H ?_);clear F a H;intro a w F H;refine Xt H 4 XL F rfl rfl rfl ?_;clear H;intro w H;rw [JE] at H;refine nK hK7 (cSR fun K19 hK19=>Xf F rfl (Nu XK rfl XN rfl rfl rfl (H.whole 1 rfl) (Xr (f:=0) (k:=0) XG rfl Yc rfl rfl rfl ?_)));clear hK7;clear F a;intro a F
    refine Ed XW XN F rfl rfl rfl rfl ?_ ?_
    focus (omega)
    clear F a;intro a F;refine Xt H 4 XN F rfl rfl rfl ?_;clear H;intro w H;refine nK hK19 (cSR fun K20 hK20=>Xs XG rfl XL F rfl (H.whole 4 rfl) ?_);clear hK19;clear F a;intro a F;refine Xt H 2 XL F rfl rfl rfl ?_;clear H;intro w H;rw [JE] at H;refine nK hK20 ?_;clear hK20;refine wp_ret ?_;refine NE YO F rfl XG rfl XL H 2 rfl ?_
    refine ⟨?_,H.below⟩
    clear F H
    rw [hst];rw [Xjr h45 h60 h72]
   replace h60:=J2 h60;refine JD (fun K21 hK21=>?_);refine cSR fun K22 hK22=>Xg F rfl rfl (JL (y:=4)) (Xd rfl (qNK hK22 ?_));clear hK22;clear F a;intro a F
   refine cIf F rfl (fun h86=>?_) (fun h86=>?_)
   ·
    replace h86:=J1 h86;refine wp_skip (hK21 _ _ ?_);clear hK21
    refine cIf F rfl (fun h86=>?_) (fun h86=>?_)
    ·
     replace h86:=J1 h86;refine JD (fun K23 hK23=>?_);refine Xi H ?_;replace H:=H.drew
     refine Xk (k:=0) (i:=0) rfl F rfl rfl (fun w H=>rLr XM rfl ?si F rfl (H.whole 5 rfl)) H (fun _ _ _ h=>h) ?_
     case si=>exact Jz Ya
     clear F a;intro a F;refine Xv 1 rfl F rfl rfl (fun w H=>Nt XG rfl XL F rfl (H.whole 4 rfl)) H qq0 (Xm 3 rfl rfl (fun a F w=>rMv F rfl) H qq0 ?_);clear F a;intro a F
     refine XaZ F H [6,8,9,10] 9 [true,true,true,true,true,true,true,true,true,false,false] (fun rs ups w=>∃ b13,ups=[(93,.agg (bs 142 (Qf s)).toArray),(96,.agg (bs 142 (M3 p (Qf s) ((u.toNat:Nat):Int))).toArray),(97,.int .i64 (Dq p (Qf s) ((u.toNat:Nat):Int))),(13,.pointer (some ⟨b13,0,none⟩))]∧Own w0 none w ((.blk b13 (bs 142 zb) 60) :: rs)) (by repeat (first | exact SubR.nil | (apply SubR.cons;· rfl))) ?_ (fun hJ=>?_)
     rotate_left
     ·
      refine Xdl (k:=3) (i:=2) (j:=8) (by kernel_rfl) F rfl rfl rfl rfl ?_ ?_
      ·
       refine J3 call85 F rfl rfl (Lf s _) (gG H ?_);clear F a H;intro a w F H;refine JR H ?_
       refine Xdl (k:=4) (i:=4) (j:=8) (by kernel_rfl) F rfl rfl rfl rfl ?_ ?_
       ·
        refine J3 Zd F rfl rfl (N8 _ p _ (hP0.own H) (hN.own H) (Qf s) _) (gG H ?_);clear F a H;intro a w F H;refine JR H ?_;refine Xj 5 rfl F rfl (fun w=>rMv F rfl) H qq0 (Xm 6 rfl rfl (fun a F w=>Mi F rfl rfl) H qq0 (Xm 7 rfl rfl (fun a F w=>Mi F rfl rfl) H qq0 ?_));clear F a;intro a F;refine Xn (k:=8) (i:=8) rfl F (Cj H N3 F rfl ?_);clear F a H;intro b13 a w F H;refine JR H.tail ?_
        exact eGo hJ (by kernel_rfl) _ ⟨b13,rfl,H.sel [0,1,2,3,4,5,6] rfl rfl⟩ F.tt
       refine Cj H N3 F rfl ?_;clear F a H;intro b13 a w F H;refine JR H.tail ?_;refine Xn (k:=5) (i:=4) rfl F (J3 Zd F rfl rfl (N8 _ p _ (hP0.own H) (hN.own H) (Qf s) _) (gG H ?_));clear F a H;intro a w F H;refine JR H.tail ?_;refine Xj 5 rfl F rfl (fun w=>rMv F rfl) H.tail qq0 (Xm 6 rfl rfl (fun a F w=>Mi F rfl rfl) H.tail qq0 (Xm 7 rfl rfl (fun a F w=>Mi F rfl rfl) H.tail qq0 ?_));clear F a;intro a F
       exact eGo hJ (by kernel_rfl) _ ⟨b13,rfl,H.sel [0,1,2,3,4,5,6] rfl rfl⟩ F.tt
      refine Cj H N3 F rfl ?_;clear F a H;intro b13 a w F H;refine JR H.tail ?_;refine Xn (k:=4) (i:=2) rfl F (J3 call85 F rfl rfl (Lf s _) (gG H ?_));clear F a H;intro a w F H;refine JR H.tail ?_;refine Xn (k:=5) (i:=4) rfl F (J3 Zd F rfl rfl (N8 _ p _ (hP0.own H) (hN.own H) (Qf s) _) (gG H ?_));clear F a H;intro a w F H;refine JR H.tail ?_;refine Xj 5 rfl F rfl (fun w=>rMv F rfl) H.tail qq0 (Xm 6 rfl rfl (fun a F w=>Mi F rfl rfl) H.tail qq0 (Xm 7 rfl rfl (fun a F w=>Mi F rfl rfl) H.tail qq0 ?_));clear F a;intro a F
      exact eGo hJ (by kernel_rfl) _ ⟨b13,rfl,H.sel [0,1,2,3,4,5,6] rfl rfl⟩ F.tt
     clear F H;intro ups a w hI F
     obtain ⟨b13,rfl,H⟩:=hI
     refine Xn (k:=9) (i:=9) rfl F (DV H 0 XL F rfl rfl rfl (by omega) ?_);clear H;intro w H;rw [JE] at H;refine Xo H ?_;refine Xj 10 rfl F rfl (fun w=>rAs F rfl) H qq0 ?_;clear F a;intro a F;refine Xp (k:=11) ?_;refine hK23 _ _ ?_;clear hK23;refine Xif (by kernel_rfl) (fun w=>Own w0 none w [.blk b13 (bs 142 (M3 p (Qf s) ((u.toNat:Nat):Int))) 60]) ?_;replace H:=H.drew;refine Xj 0 rfl F rfl (fun w=>rMv F rfl) (H.sel [0] rfl rfl) qq0 (Xm 1 rfl rfl (fun a F w=>rFa (f:=0) (k:=0) XG rfl Yc rfl rfl F rfl) (H.sel [0] rfl rfl) qq0 ?_);clear F a;intro a F
     refine Xq (k:=2) (i:=2) rfl F rfl (fun w=>Xhw XW XN F rfl rfl ?_) (H.sel [0] rfl rfl) (fun _ _ _ h=>h) ?_
     focus (omega)
     clear F a;intro a F;refine Xv 3 rfl F rfl rfl (fun w H=>Nt XK rfl XN F rfl (H.ra' 0 _ 9 rfl)) (H.sel [0] rfl rfl) qq0 (Xm 4 rfl rfl (fun a F w=>rFa (f:=1) (k:=36) XG rfl Yg rfl rfl F rfl) (H.sel [0] rfl rfl) qq0 (Xl 5 rfl rfl rfl (fun a F w H=>Nt Yj rfl Yg F rfl (H.ra' 0 _ 6 rfl)) (H.sel [0] rfl rfl) qq0 ?_));clear F a;intro a F;refine Xn (k:=6) (i:=6) rfl F (DV H 2 XN F rfl rfl rfl (by omega) ?_);clear H;intro w H;rw [JE] at H;refine JR (H.sel [0] rfl rfl) ?_;refine Xj 7 rfl F rfl (fun w=>rFa (f:=1) (k:=36) XG rfl Yg rfl rfl F rfl) (H.sel [0] rfl rfl) qq0 ?_;clear F a;intro a F;refine Xn (k:=8) (i:=8) rfl F (DV H 5 Yg F rfl rfl rfl (by omega) ?_);clear H;intro w H;refine JR (H.sel [0] rfl rfl) ?_;refine Xp (k:=9) ?_;refine hK7 _ _ (cSR fun K24 hK24=>Xf F rfl (Nu XK rfl XN rfl rfl rfl (H.whole 2 rfl) (Xr (f:=0) (k:=0) XG rfl Yc rfl rfl rfl ?_)));clear hK7;clear F a;intro a F
     refine Ed XW XN F rfl rfl rfl rfl ?_ ?_
     focus (omega)
     clear F a;intro a F;refine Xt H 5 XN F rfl rfl rfl ?_;clear H;intro w H;refine nK hK24 (cSR fun K25 hK25=>Xs XG rfl XL F rfl (H.whole 5 rfl) ?_);clear hK24;clear F a;intro a F;refine Xt H 3 XL F rfl rfl rfl ?_;clear H;intro w H;rw [JE] at H;refine nK hK25 ?_;clear hK25;refine wp_ret ?_;refine NE YO F rfl XG rfl XL H 3 rfl ?_
     refine ⟨?_,H.below⟩
     clear F H
     rw [hst]
     exact Ch fun i _=>Xdf ht4 (fun h=>by have:=(C8 hfi h).1;omega) h45 h60 (by exact .inl h86) hmv2 i
    replace h86:=J2 h86;refine JY ?_
    refine Xw XI rfl ?si F rfl (H.whole 0 rfl) ?_
    case si=>exact Jz XP
    clear F a;intro a F;refine Xs XK rfl XN F rfl (H.whole 1 rfl) ?_;clear F a;intro a F;refine Xu call94 F rfl (ET ix _ _) (gG H ?_);clear F a H;intro a w F H;refine Xf F rfl (NU rfl rfl rfl rfl (NU rfl rfl rfl rfl ?_));clear F a;intro a F;refine Xt H 1 XN F rfl rfl rfl ?_;clear H;intro w H;rw [JE] at H;refine nK hK7 (cSR fun K26 hK26=>Xf F rfl (Nu XK rfl XN rfl rfl rfl (H.whole 1 rfl) (Xr (f:=0) (k:=0) XG rfl Yc rfl rfl rfl ?_)));clear hK7;clear F a;intro a F
    refine Ed XW XN F rfl rfl rfl rfl ?_ ?_
    focus (omega)
    clear F a;intro a F;refine Xt H 4 XN F rfl rfl rfl ?_;clear H;intro w H;refine nK hK26 (cSR fun K27 hK27=>Xs XG rfl XL F rfl (H.whole 4 rfl) ?_);clear hK26;clear F a;intro a F;refine Xt H 2 XL F rfl rfl rfl ?_;clear H;intro w H;rw [JE] at H;refine nK hK27 ?_;clear hK27;refine wp_ret ?_;refine NE YO F rfl XG rfl XL H 2 rfl ?_
    refine ⟨?_,H.below⟩
    clear F H
    rw [hst];rw [Dx h45 h60 (by rintro (h | h | h) <;> contradiction)]
   replace h86:=J2 h86;refine cSR fun K28 hK28=>Xg F rfl rfl (JL (y:=5)) (Xd rfl (qNK hK28 ?_));clear hK28;clear F a;intro a F
   refine cIf F rfl (fun h86=>?_) (fun h86=>?_)
   ·
    replace h86:=J1 h86;refine wp_skip (hK21 _ _ ?_);clear hK21
    refine cIf F rfl (fun h86=>?_) (fun h86=>?_)
    ·
     replace h86:=J1 h86;refine JD (fun K29 hK29=>?_);refine Xi H ?_;replace H:=H.drew
     refine Xk (k:=0) (i:=0) rfl F rfl rfl (fun w H=>rLr XM rfl ?si F rfl (H.whole 5 rfl)) H (fun _ _ _ h=>h) ?_
     case si=>exact Jz Ya
     clear F a;intro a F;refine Xv 1 rfl F rfl rfl (fun w H=>Nt XG rfl XL F rfl (H.whole 4 rfl)) H qq0 (Xm 3 rfl rfl (fun a F w=>rMv F rfl) H qq0 ?_);clear F a;intro a F
     refine XaZ F H [6,8,9,10] 9 [true,true,true,true,true,true,true,true,true,false,false] (fun rs ups w=>∃ b13,ups=[(93,.agg (bs 142 (Qf s)).toArray),(96,.agg (bs 142 (M3 p (Qf s) ((u.toNat:Nat):Int))).toArray),(97,.int .i64 (Dq p (Qf s) ((u.toNat:Nat):Int))),(13,.pointer (some ⟨b13,0,none⟩))]∧Own w0 none w ((.blk b13 (bs 142 zb) 60) :: rs)) (by repeat (first | exact SubR.nil | (apply SubR.cons;· rfl))) ?_ (fun hJ=>?_)
     rotate_left
     ·
      refine Xdl (k:=3) (i:=2) (j:=8) (by kernel_rfl) F rfl rfl rfl rfl ?_ ?_
      ·
       refine J3 call85 F rfl rfl (Lf s _) (gG H ?_);clear F a H;intro a w F H;refine JR H ?_
       refine Xdl (k:=4) (i:=4) (j:=8) (by kernel_rfl) F rfl rfl rfl rfl ?_ ?_
       ·
        refine J3 Zd F rfl rfl (N8 _ p _ (hP0.own H) (hN.own H) (Qf s) _) (gG H ?_);clear F a H;intro a w F H;refine JR H ?_;refine Xj 5 rfl F rfl (fun w=>rMv F rfl) H qq0 (Xm 6 rfl rfl (fun a F w=>Mi F rfl rfl) H qq0 (Xm 7 rfl rfl (fun a F w=>Mi F rfl rfl) H qq0 ?_));clear F a;intro a F;refine Xn (k:=8) (i:=8) rfl F (Cj H N3 F rfl ?_);clear F a H;intro b13 a w F H;refine JR H.tail ?_
        exact eGo hJ (by kernel_rfl) _ ⟨b13,rfl,H.sel [0,1,2,3,4,5,6] rfl rfl⟩ F.tt
       refine Cj H N3 F rfl ?_;clear F a H;intro b13 a w F H;refine JR H.tail ?_;refine Xn (k:=5) (i:=4) rfl F (J3 Zd F rfl rfl (N8 _ p _ (hP0.own H) (hN.own H) (Qf s) _) (gG H ?_));clear F a H;intro a w F H;refine JR H.tail ?_;refine Xj 5 rfl F rfl (fun w=>rMv F rfl) H.tail qq0 (Xm 6 rfl rfl (fun a F w=>Mi F rfl rfl) H.tail qq0 (Xm 7 rfl rfl (fun a F w=>Mi F rfl rfl) H.tail qq0 ?_));clear F a;intro a F
       exact eGo hJ (by kernel_rfl) _ ⟨b13,rfl,H.sel [0,1,2,3,4,5,6] rfl rfl⟩ F.tt
      refine Cj H N3 F rfl ?_;clear F a H;intro b13 a w F H;refine JR H.tail ?_;refine Xn (k:=4) (i:=2) rfl F (J3 call85 F rfl rfl (Lf s _) (gG H ?_));clear F a H;intro a w F H;refine JR H.tail ?_;refine Xn (k:=5) (i:=4) rfl F (J3 Zd F rfl rfl (N8 _ p _ (hP0.own H) (hN.own H) (Qf s) _) (gG H ?_));clear F a H;intro a w F H;refine JR H.tail ?_;refine Xj 5 rfl F rfl (fun w=>rMv F rfl) H.tail qq0 (Xm 6 rfl rfl (fun a F w=>Mi F rfl rfl) H.tail qq0 (Xm 7 rfl rfl (fun a F w=>Mi F rfl rfl) H.tail qq0 ?_));clear F a;intro a F
      exact eGo hJ (by kernel_rfl) _ ⟨b13,rfl,H.sel [0,1,2,3,4,5,6] rfl rfl⟩ F.tt
     clear F H;intro ups a w hI F
     obtain ⟨b13,rfl,H⟩:=hI
     refine Xn (k:=9) (i:=9) rfl F (DV H 0 XL F rfl rfl rfl (by omega) ?_);clear H;intro w H;rw [JE] at H;refine Xo H ?_;refine Xj 10 rfl F rfl (fun w=>rAs F rfl) H qq0 ?_;clear F a;intro a F;refine Xp (k:=11) ?_;refine hK29 _ _ ?_;clear hK29;refine Xif (by kernel_rfl) (fun w=>Own w0 none w [.blk b13 (bs 142 (M3 p (Qf s) ((u.toNat:Nat):Int))) 60]) ?_;replace H:=H.drew;refine Xj 0 rfl F rfl (fun w=>rMv F rfl) (H.sel [0] rfl rfl) qq0 (Xm 1 rfl rfl (fun a F w=>rFa (f:=0) (k:=0) XG rfl Yc rfl rfl F rfl) (H.sel [0] rfl rfl) qq0 ?_);clear F a;intro a F
     refine Xq (k:=2) (i:=2) rfl F rfl (fun w=>Xhw XW XN F rfl rfl ?_) (H.sel [0] rfl rfl) (fun _ _ _ h=>h) ?_
     focus (omega)
     clear F a;intro a F;refine Xv 3 rfl F rfl rfl (fun w H=>Nt XK rfl XN F rfl (H.ra' 0 _ 9 rfl)) (H.sel [0] rfl rfl) qq0 (Xm 4 rfl rfl (fun a F w=>rFa (f:=1) (k:=36) XG rfl Yg rfl rfl F rfl) (H.sel [0] rfl rfl) qq0 (Xl 5 rfl rfl rfl (fun a F w H=>Nt Yj rfl Yg F rfl (H.ra' 0 _ 6 rfl)) (H.sel [0] rfl rfl) qq0 ?_));clear F a;intro a F;refine Xn (k:=6) (i:=6) rfl F (DV H 2 XN F rfl rfl rfl (by omega) ?_);clear H;intro w H;rw [JE] at H;refine JR (H.sel [0] rfl rfl) ?_;refine Xj 7 rfl F rfl (fun w=>rFa (f:=1) (k:=36) XG rfl Yg rfl rfl F rfl) (H.sel [0] rfl rfl) qq0 ?_;clear F a;intro a F;refine Xn (k:=8) (i:=8) rfl F (DV H 5 Yg F rfl rfl rfl (by omega) ?_);clear H;intro w H;refine JR (H.sel [0] rfl rfl) ?_;refine Xp (k:=9) ?_;refine hK7 _ _ (cSR fun K30 hK30=>Xf F rfl (Nu XK rfl XN rfl rfl rfl (H.whole 2 rfl) (Xr (f:=0) (k:=0) XG rfl Yc rfl rfl rfl ?_)));clear hK7;clear F a;intro a F
     refine Ed XW XN F rfl rfl rfl rfl ?_ ?_
     focus (omega)
     clear F a;intro a F;refine Xt H 5 XN F rfl rfl rfl ?_;clear H;intro w H;refine nK hK30 (cSR fun K31 hK31=>Xs XG rfl XL F rfl (H.whole 5 rfl) ?_);clear hK30;clear F a;intro a F;refine Xt H 3 XL F rfl rfl rfl ?_;clear H;intro w H;rw [JE] at H;refine nK hK31 ?_;clear hK31;refine wp_ret ?_;refine NE YO F rfl XG rfl XL H 3 rfl ?_
     refine ⟨?_,H.below⟩
     clear F H
     rw [hst]
     exact Ch fun i _=>Xdf ht4 (fun h=>by have:=(C8 hfi h).1;omega) h45 h60 (by exact .inr (.inl h86)) hmv2 i
    replace h86:=J2 h86;refine JY ?_
    refine Xw XI rfl ?si F rfl (H.whole 0 rfl) ?_
    case si=>exact Jz XP
    clear F a;intro a F;refine Xs XK rfl XN F rfl (H.whole 1 rfl) ?_;clear F a;intro a F;refine Xu call94 F rfl (ET ix _ _) (gG H ?_);clear F a H;intro a w F H;refine Xf F rfl (NU rfl rfl rfl rfl (NU rfl rfl rfl rfl ?_));clear F a;intro a F;refine Xt H 1 XN F rfl rfl rfl ?_;clear H;intro w H;rw [JE] at H;refine nK hK7 (cSR fun K32 hK32=>Xf F rfl (Nu XK rfl XN rfl rfl rfl (H.whole 1 rfl) (Xr (f:=0) (k:=0) XG rfl Yc rfl rfl rfl ?_)));clear hK7;clear F a;intro a F
    refine Ed XW XN F rfl rfl rfl rfl ?_ ?_
    focus (omega)
    clear F a;intro a F;refine Xt H 4 XN F rfl rfl rfl ?_;clear H;intro w H;refine nK hK32 (cSR fun K33 hK33=>Xs XG rfl XL F rfl (H.whole 4 rfl) ?_);clear hK32;clear F a;intro a F;refine Xt H 2 XL F rfl rfl rfl ?_;clear H;intro w H;rw [JE] at H;refine nK hK33 ?_;clear hK33;refine wp_ret ?_;refine NE YO F rfl XG rfl XL H 2 rfl ?_
    refine ⟨?_,H.below⟩
    clear F H
    rw [hst];rw [Dx h45 h60 (by rintro (h | h | h) <;> contradiction)]
   replace h86:=J2 h86;refine JY (Xg F rfl rfl (JL (y:=6)) (Xd rfl (qNK hK21 ?_)));clear hK21;clear F a;intro a F
   refine cIf F rfl (fun h86=>?_) (fun h86=>?_)
   ·
    replace h86:=J1 h86;refine JD (fun K34 hK34=>?_);refine Xi H ?_;replace H:=H.drew
    refine Xk (k:=0) (i:=0) rfl F rfl rfl (fun w H=>rLr XM rfl ?si F rfl (H.whole 5 rfl)) H (fun _ _ _ h=>h) ?_
    case si=>exact Jz Ya
    clear F a;intro a F;refine Xv 1 rfl F rfl rfl (fun w H=>Nt XG rfl XL F rfl (H.whole 4 rfl)) H qq0 (Xm 3 rfl rfl (fun a F w=>rMv F rfl) H qq0 ?_);clear F a;intro a F
    refine XaZ F H [6,8,9,10] 9 [true,true,true,true,true,true,true,true,true,false,false] (fun rs ups w=>∃ b13,ups=[(93,.agg (bs 142 (Qf s)).toArray),(96,.agg (bs 142 (M3 p (Qf s) ((u.toNat:Nat):Int))).toArray),(97,.int .i64 (Dq p (Qf s) ((u.toNat:Nat):Int))),(13,.pointer (some ⟨b13,0,none⟩))]∧Own w0 none w ((.blk b13 (bs 142 zb) 60) :: rs)) (by repeat (first | exact SubR.nil | (apply SubR.cons;· rfl))) ?_ (fun hJ=>?_)
    rotate_left
    ·
     refine Xdl (k:=3) (i:=2) (j:=8) (by kernel_rfl) F rfl rfl rfl rfl ?_ ?_
     ·
      refine J3 call85 F rfl rfl (Lf s _) (gG H ?_);clear F a H;intro a w F H;refine JR H ?_
      refine Xdl (k:=4) (i:=4) (j:=8) (by kernel_rfl) F rfl rfl rfl rfl ?_ ?_
      ·
       refine J3 Zd F rfl rfl (N8 _ p _ (hP0.own H) (hN.own H) (Qf s) _) (gG H ?_);clear F a H;intro a w F H;refine JR H ?_;refine Xj 5 rfl F rfl (fun w=>rMv F rfl) H qq0 (Xm 6 rfl rfl (fun a F w=>Mi F rfl rfl) H qq0 (Xm 7 rfl rfl (fun a F w=>Mi F rfl rfl) H qq0 ?_));clear F a;intro a F;refine Xn (k:=8) (i:=8) rfl F (Cj H N3 F rfl ?_);clear F a H;intro b13 a w F H;refine JR H.tail ?_
       exact eGo hJ (by kernel_rfl) _ ⟨b13,rfl,H.sel [0,1,2,3,4,5,6] rfl rfl⟩ F.tt
      refine Cj H N3 F rfl ?_;clear F a H;intro b13 a w F H;refine JR H.tail ?_;refine Xn (k:=5) (i:=4) rfl F (J3 Zd F rfl rfl (N8 _ p _ (hP0.own H) (hN.own H) (Qf s) _) (gG H ?_));clear F a H;intro a w F H;refine JR H.tail ?_;refine Xj 5 rfl F rfl (fun w=>rMv F rfl) H.tail qq0 (Xm 6 rfl rfl (fun a F w=>Mi F rfl rfl) H.tail qq0 (Xm 7 rfl rfl (fun a F w=>Mi F rfl rfl) H.tail qq0 ?_));clear F a;intro a F
      exact eGo hJ (by kernel_rfl) _ ⟨b13,rfl,H.sel [0,1,2,3,4,5,6] rfl rfl⟩ F.tt
     refine Cj H N3 F rfl ?_;clear F a H;intro b13 a w F H;refine JR H.tail ?_;refine Xn (k:=4) (i:=2) rfl F (J3 call85 F rfl rfl (Lf s _) (gG H ?_));clear F a H;intro a w F H;refine JR H.tail ?_;refine Xn (k:=5) (i:=4) rfl F (J3 Zd F rfl rfl (N8 _ p _ (hP0.own H) (hN.own H) (Qf s) _) (gG H ?_));clear F a H;intro a w F H;refine JR H.tail ?_;refine Xj 5 rfl F rfl (fun w=>rMv F rfl) H.tail qq0 (Xm 6 rfl rfl (fun a F w=>Mi F rfl rfl) H.tail qq0 (Xm 7 rfl rfl (fun a F w=>Mi F rfl rfl) H.tail qq0 ?_));clear F a;intro a F
     exact eGo hJ (by kernel_rfl) _ ⟨b13,rfl,H.sel [0,1,2,3,4,5,6] rfl rfl⟩ F.tt
    clear F H;intro ups a w hI F
    obtain ⟨b13,rfl,H⟩:=hI
    refine Xn (k:=9) (i:=9) rfl F (DV H 0 XL F rfl rfl rfl (by omega) ?_);clear H;intro w H;rw [JE] at H;refine Xo H ?_;refine Xj 10 rfl F rfl (fun w=>rAs F rfl) H qq0 ?_;clear F a;intro a F;refine Xp (k:=11) ?_;refine hK34 _ _ ?_;clear hK34;refine Xif (by kernel_rfl) (fun w=>Own w0 none w [.blk b13 (bs 142 (M3 p (Qf s) ((u.toNat:Nat):Int))) 60]) ?_;replace H:=H.drew;refine Xj 0 rfl F rfl (fun w=>rMv F rfl) (H.sel [0] rfl rfl) qq0 (Xm 1 rfl rfl (fun a F w=>rFa (f:=0) (k:=0) XG rfl Yc rfl rfl F rfl) (H.sel [0] rfl rfl) qq0 ?_);clear F a;intro a F
    refine Xq (k:=2) (i:=2) rfl F rfl (fun w=>Xhw XW XN F rfl rfl ?_) (H.sel [0] rfl rfl) (fun _ _ _ h=>h) ?_
    focus (omega)
    clear F a;intro a F;refine Xv 3 rfl F rfl rfl (fun w H=>Nt XK rfl XN F rfl (H.ra' 0 _ 9 rfl)) (H.sel [0] rfl rfl) qq0 (Xm 4 rfl rfl (fun a F w=>rFa (f:=1) (k:=36) XG rfl Yg rfl rfl F rfl) (H.sel [0] rfl rfl) qq0 (Xl 5 rfl rfl rfl (fun a F w H=>Nt Yj rfl Yg F rfl (H.ra' 0 _ 6 rfl)) (H.sel [0] rfl rfl) qq0 ?_));clear F a;intro a F;refine Xn (k:=6) (i:=6) rfl F (DV H 2 XN F rfl rfl rfl (by omega) ?_);clear H;intro w H;rw [JE] at H;refine JR (H.sel [0] rfl rfl) ?_;refine Xj 7 rfl F rfl (fun w=>rFa (f:=1) (k:=36) XG rfl Yg rfl rfl F rfl) (H.sel [0] rfl rfl) qq0 ?_;clear F a;intro a F;refine Xn (k:=8) (i:=8) rfl F (DV H 5 Yg F rfl rfl rfl (by omega) ?_);clear H;intro w H;refine JR (H.sel [0] rfl rfl) ?_;refine Xp (k:=9) ?_;refine hK7 _ _ (cSR fun K35 hK35=>Xf F rfl (Nu XK rfl XN rfl rfl rfl (H.whole 2 rfl) (Xr (f:=0) (k:=0) XG rfl Yc rfl rfl rfl ?_)));clear hK7;clear F a;intro a F
    refine Ed XW XN F rfl rfl rfl rfl ?_ ?_
    focus (omega)
    clear F a;intro a F;refine Xt H 5 XN F rfl rfl rfl ?_;clear H;intro w H;refine nK hK35 (cSR fun K36 hK36=>Xs XG rfl XL F rfl (H.whole 5 rfl) ?_);clear hK35;clear F a;intro a F;refine Xt H 3 XL F rfl rfl rfl ?_;clear H;intro w H;rw [JE] at H;refine nK hK36 ?_;clear hK36;refine wp_ret ?_;refine NE YO F rfl XG rfl XL H 3 rfl ?_
    refine ⟨?_,H.below⟩
    clear F H
    rw [hst]
    exact Ch fun i _=>Xdf ht4 (fun h=>by have:=(C8 hfi h).1;omega) h45 h60 (by exact .inr (.inr h86)) hmv2 i
   replace h86:=J2 h86;refine JY ?_
   refine Xw XI rfl ?si F rfl (H.whole 0 rfl) ?_
   case si=>exact Jz XP
   clear F a;intro a F;refine Xs XK rfl XN F rfl (H.whole 1 rfl) ?_;clear F a;intro a F;refine Xu call94 F rfl (ET ix _ _) (gG H ?_);clear F a H;intro a w F H;refine Xf F rfl (NU rfl rfl rfl rfl (NU rfl rfl rfl rfl ?_));clear F a;intro a F;refine Xt H 1 XN F rfl rfl rfl ?_;clear H;intro w H;rw [JE] at H;refine nK hK7 (cSR fun K37 hK37=>Xf F rfl (Nu XK rfl XN rfl rfl rfl (H.whole 1 rfl) (Xr (f:=0) (k:=0) XG rfl Yc rfl rfl rfl ?_)));clear hK7;clear F a;intro a F
   refine Ed XW XN F rfl rfl rfl rfl ?_ ?_
   focus (omega)
   clear F a;intro a F;refine Xt H 4 XN F rfl rfl rfl ?_;clear H;intro w H;refine nK hK37 (cSR fun K38 hK38=>Xs XG rfl XL F rfl (H.whole 4 rfl) ?_);clear hK37;clear F a;intro a F;refine Xt H 2 XL F rfl rfl rfl ?_;clear H;intro w H;rw [JE] at H;refine nK hK38 ?_;clear hK38;refine wp_ret ?_;refine NE YO F rfl XG rfl XL H 2 rfl ?_
   refine ⟨?_,H.below⟩
   clear F H
   rw [hst];rw [Dx h45 h60 (by rintro (h | h | h) <;> contradiction)]
 · have hst:J5 p mc s (JM mc s t i)=BY mc s t (JM mc s t i).l:=by
     unfold J5 JM
     rw [if_pos rfl]
     show BY mc s (UInt8.ofNat t).toNat _=_
     rw [hto]
   refine JF func73 rfl ntmps73 rfl (fun a F=>?_);refine cSR fun K1 hK1=>?_;refine sBx H F rfl rfl rfl ?_;clear F a H;intro b4 a w F H;refine Mg H F rfl rfl rfl ?_;clear F a H;intro b6 a w F H;refine sBx H F rfl rfl rfl ?_;clear F a H;intro b7 a w F H;refine Mo H N3 F rfl rfl ?_;clear F a H;intro b8 a w F H;refine nK hK1 ?_;clear hK1;refine JD (fun K2 hK2=>?_);refine cSR fun K3 hK3=>Xb (f:=1) (k:=1) X6 rfl YQ rfl rfl F rfl (Xc Y6 rfl (H.cell 1 rfl rfl) (qNK hK3 ?_));clear hK3;clear F a;intro a F
   refine cIf F rfl (fun h16=>?_) (fun h16=>?_)
   ·
    refine cSR fun K4 hK4=>Xf F rfl (Nu XG rfl XL rfl rfl rfl (H.whole 2 rfl) ?_);clear F a;intro a F
    refine Xw X6 rfl ?si F rfl (H.whole 1 rfl) ?_
    case si=>exact Jz Yd
    clear F a;intro a F;refine Xu call89 F rfl (XgI mc s (JM mc s t i) t _ hto ht4 (by omega) hmany.1 (fun i hi=>by have:=hr.loc ht4 hi;omega) (fun h3=>⟨i,hi,by unfold JM;rw [if_pos h3]⟩)) (gG H ?_);clear F a H;intro a w F H;refine Xt H 0 XL F rfl rfl rfl ?_;clear H;intro w H;rw [JE] at H;refine nK hK4 ?_;clear hK4;refine wp_ret ?_;simp only [Exit.then];refine NE YO F rfl XG rfl XL H 0 rfl ?_
    exact ⟨by rw [hst],H.below⟩
   cases h16
-- BfQ
theorem Lh (s:By) (t a:Nat) (st:By) (ha:a≤JA s t) (i:Nat):Xbj s t a st i=if i=138+t then s (138+t)+1 else if 42+t * 24+a * 2≤i∧i < 42+t * 24+a * 2+2 then st (i - (42+t * 24+a * 2))
   else if 42+t * 24+(a+1) * 2≤i∧i < 42+t * 24+(JA s t+1) * 2 then s (i - 2) else s i:=by
 unfold Xbj put
 split
 · rfl
 · unfold lay cut
   split
   · rfl
   · by_cases h:42+t * 24+(a+1) * 2≤i∧i < 42+t * 24+(JA s t+1) * 2
     · rw [if_pos h,if_pos (by omega)]
       congr 1
       omega
     · rw [if_neg h,if_neg (by omega)]
theorem No (s:By) (t a:Nat) (ha:a < JA s t) (i:Nat):Qy s t a i=if i=36+(JU s t a).toNat then Nm s t a else if i=138+t then s (138+t) - 1
   else if 42+t * 24+(JA s t - 1) * 2≤i∧i < 42+t * 24+JA s t * 2 then 0
   else if 42+t * 24+a * 2≤i∧i < 42+t * 24+(JA s t - 1) * 2 then s (i+2) else s i:=by
 unfold Qy put
 split
 · rfl
 · split
   · rfl
   · unfold lay cut zb
     by_cases h:42+t * 24+(JA s t - 1) * 2≤i∧i < 42+t * 24+JA s t * 2
     · rw [if_pos h,if_pos (by omega)]
     · rw [if_neg h,if_neg (by omega)]
       by_cases h2:42+t * 24+a * 2≤i∧i < 42+t * 24+(JA s t - 1) * 2
       · rw [if_pos h2,if_pos (by omega)]
         congr 1
         omega
       · rw [if_neg h2,if_neg (by omega)]
section
variable {s st:By} {t a:Nat}
theorem XjJ (ha:a≤JA s t) {i:Nat} (hi:i < 42):Xbj s t a st i=s i:=by
 rw [Lh s t a st ha,if_neg (by omega),if_neg (by omega),if_neg (by omega)]
theorem LR (ha:a≤JA s t) (hn:JA s t≤11):JA (Xbj s t a st) t=JA s t+1:=by
 unfold JA at hn ⊢
 rw [Lh s t a st ha,if_pos rfl,UInt8.toNat_add]
 have h1:(1:UInt8).toNat=1:=rfl
 omega
theorem XjK (ha:a≤JA s t) (hn:JA s t≤11) (ht:t < 4) {u:Nat} (hu:u < 4) (hne:u ≠ t):JA (Xbj s t a st) u=JA s u∧∀ i,i < 12→JU (Xbj s t a st) u i=JU s u i∧Nm (Xbj s t a st) u i=Nm s u i:=by
 refine ⟨?_,fun i hi=>⟨?_,?_⟩⟩
 · unfold JA
   rw [Lh s t a st ha,if_neg (by omega),if_neg (by omega),if_neg (by omega)]
 · unfold JU
   rw [Lh s t a st ha,if_neg (by omega),if_neg (by omega),if_neg (by omega)]
 · unfold Nm
   rw [Lh s t a st ha,if_neg (by omega),if_neg (by omega),if_neg (by omega)]
theorem Xbc (ha:a≤JA s t) (hn:JA s t≤11) (ht:t < 4) {i:Nat} (hi:i < 12):JU (Xbj s t a st) t i=if i=a then st 0 else if a < i∧i≤JA s t then JU s t (i - 1) else JU s t i:=by
 unfold JU
 rw [Lh s t a st ha,if_neg (by omega)]
 by_cases h:i=a
 · rw [if_pos (by omega),if_pos h];congr 1;omega
 · rw [if_neg (by omega),if_neg h]
   by_cases h2:a < i∧i≤JA s t
   · rw [if_pos (by omega),if_pos h2];congr 1;omega
   · rw [if_neg (by omega),if_neg h2]
theorem Xbb (ha:a≤JA s t) (hn:JA s t≤11) (ht:t < 4) {i:Nat} (hi:i < 12):Nm (Xbj s t a st) t i=if i=a then st 1 else if a < i∧i≤JA s t then Nm s t (i - 1) else Nm s t i:=by
 unfold Nm
 rw [Lh s t a st ha,if_neg (by omega)]
 by_cases h:i=a
 · rw [if_pos (by omega),if_pos h];congr 1;omega
 · rw [if_neg (by omega),if_neg h]
   by_cases h2:a < i∧i≤JA s t
   · rw [if_pos (by omega),if_pos h2];congr 1;omega
   · rw [if_neg (by omega),if_neg h2]
theorem XgH (ha:a < JA s t) {i:Nat} (hi:i < 36):Qy s t a i=s i:=by
 rw [No s t a ha,if_neg (by omega),if_neg (by omega),if_neg (by omega),if_neg (by omega)]
theorem Xce (ha:a < JA s t) {k:Nat} (hk:k < 6):Qy s t a (36+k)=if k=(JU s t a).toNat then Nm s t a else s (36+k):=by
 rw [No s t a ha]
 by_cases h:k=(JU s t a).toNat
 · rw [if_pos (by omega),if_pos h]
 · rw [if_neg (by omega),if_neg h,if_neg (by omega),if_neg (by omega),if_neg (by omega)]
theorem ML (ha:a < JA s t) (hl:(JU s t a).toNat < 6):JA (Qy s t a) t=JA s t - 1:=by
 unfold JA at ha ⊢
 rw [No s t a ha,if_neg (by omega),if_pos rfl,UInt8.toNat_sub_of_le _ _ (UInt8.le_iff_toNat_le.2 (by have h1:(1:UInt8).toNat=1:=rfl;omega))]
 rfl
theorem Xcf (ha:a < JA s t) (hl:(JU s t a).toNat < 6) (hn:JA s t≤12) (ht:t < 4) {u:Nat} (hu:u < 4) (hne:u ≠ t):JA (Qy s t a) u=JA s u∧∀ i,i < 12→JU (Qy s t a) u i=JU s u i∧Nm (Qy s t a) u i=Nm s u i:=by
 refine ⟨?_,fun i hi=>⟨?_,?_⟩⟩
 · unfold JA
   rw [No s t a ha,if_neg (by omega),if_neg (by omega),if_neg (by omega),if_neg (by omega)]
 · show Qy s t a (42+u * 24+i * 2)=_
   rw [No s t a ha,if_neg (by omega),if_neg (by omega),if_neg (by omega),if_neg (by omega)]
   rfl
 · show Qy s t a (42+u * 24+i * 2+1)=_
   rw [No s t a ha,if_neg (by omega),if_neg (by omega),if_neg (by omega),if_neg (by omega)]
   rfl
theorem EZ (ha:a < JA s t) (hl:(JU s t a).toNat < 6) (hn:JA s t≤12) (ht:t < 4) {i:Nat} (hi:i < 12):JU (Qy s t a) t i=if i+1=JA s t then 0 else if a≤i∧i+1 < JA s t then JU s t (i+1) else JU s t i:=by
 show Qy s t a (42+t * 24+i * 2)=_
 rw [No s t a ha,if_neg (by omega),if_neg (by omega)]
 by_cases h:i+1=JA s t
 · rw [if_pos (by omega),if_pos h]
 · rw [if_neg (by omega),if_neg h]
   by_cases h2:a≤i∧i+1 < JA s t
   · rw [if_pos (by omega),if_pos h2]
     show s _=s _
     congr 1;omega
   · rw [if_neg (by omega),if_neg h2];rfl
theorem EY (ha:a < JA s t) (hl:(JU s t a).toNat < 6) (hn:JA s t≤12) (ht:t < 4) {i:Nat} (hi:i < 12):Nm (Qy s t a) t i=if i+1=JA s t then 0 else if a≤i∧i+1 < JA s t then Nm s t (i+1) else Nm s t i:=by
 show Qy s t a (42+t * 24+i * 2+1)=_
 rw [No s t a ha,if_neg (by omega),if_neg (by omega)]
 by_cases h:i+1=JA s t
 · rw [if_pos (by omega),if_pos h]
 · rw [if_neg (by omega),if_neg h]
   by_cases h2:a≤i∧i+1 < JA s t
   · rw [if_pos (by omega),if_pos h2]
     show s _=s _
     congr 1;omega
   · rw [if_neg (by omega),if_neg h2];rfl
end
-- BfR
def BS (x:Ins) (s:By) (t:Nat):By:=
 if x.op=1 then Xdd x (cut s (t * 9)) (LU s t x.loc) else if x.op=2 then put (cut s (t * 9)) 0 (s (t * 9)+1)
 else if x.op=4∨x.op=5∨x.op=6 then Xdd x (cut s (t * 9)) (s (36+x.loc.toNat)) else Ni x (cut s (t * 9))
def QV (m:UInt8) (x:Ins):Prop:=(x.op=2∧m=1)∨x.op=4∨x.op=5∨x.op=6
instance (m:UInt8) (x:Ins):Decidable (QV m x):=by unfold QV;infer_instance
def Qz (m:UInt8) (x:Ins):Prop:=x.op=2∧m ≠ 1
instance (m:UInt8) (x:Ins):Decidable (Qz m x):=by unfold Qz;infer_instance
theorem Xh1 {m:UInt8} {x:Ins} {s:By} {t:Nat} (ht:t < 4) (hloc:JB x=false→x.loc.toNat < 6) (hop:x.op=1∨x.op=2∨x.op=3∨x.op=4∨x.op=5∨x.op=6∨x.op=7∨x.op=8) (i:Nat) :
   Ql m x s t i=if t * 9≤i∧i < t * 9+9 then BS x s t (i - t * 9) else if QV m x∧i=36+x.loc.toNat then Cd x (cut s (t * 9)) (s (36+x.loc.toNat))
     else if Qz m x then Ce m s t (stP x.loc (Ns x (cut s (t * 9)))) i else s i:=by
 by_cases h1:x.op=1
 · have hw:¬ QV m x:=by unfold QV;rw [h1];simp
   have hb:¬ Qz m x:=by unfold Qz;rw [h1];simp
   unfold Ql BS
   have hw':¬ (QV m x∧i=36+x.loc.toNat):=fun h=>hw h.1
   rw [if_pos h1,if_pos h1,if_neg hw',if_neg hb]
   rfl
 · by_cases h2:x.op=2
   · have hl:=hloc (by simp [JB,h2])
     unfold Ql BS
     rw [if_neg h1,if_pos h2,if_neg h1,if_pos h2]
     unfold lay
     split
     · rfl
     · rename_i hi
       by_cases hm:m=1
       · have hw:QV m x:=.inl ⟨h2,hm⟩
         have hb:¬ Qz m x:=fun h=>h.2 hm
         rw [if_pos hm,if_neg hb]
         unfold put
         by_cases hi2:i=36+x.loc.toNat
         · rw [if_pos hi2,if_pos ⟨hw,hi2⟩]
           unfold Cd
           rw [if_pos (.inl h2)]
         · rw [if_neg hi2,if_neg (fun h=>hi2 h.2)]
       · have hw:¬ QV m x:=by unfold QV;rw [h2];simp [hm]
         rw [if_neg hm,if_neg (fun h=>hw h.1),if_pos ⟨h2,hm⟩]
   · have hb:¬ Qz m x:=fun h=>h2 h.1
     by_cases h4:x.op=4∨x.op=5∨x.op=6
     · have hL:JB x=false:=by rcases h4 with h | h | h <;> simp [JB,h]
       have hw:QV m x:=.inr h4
       unfold Ql BS
       rw [if_neg h1,if_neg h2,if_pos h4,if_neg h1,if_neg h2,if_pos h4,M4,if_neg hb]
       unfold XdK
       rw [hL]
       simp only [Bool.false_eq_true,if_false,true_and,hw]
     · have hw:¬ QV m x:=by
         rintro (h | h)
         · exact h2 h.1
         · exact h4 h
       unfold Ql BS
       have hw':¬ (QV m x∧i=36+x.loc.toNat):=fun h=>hw h.1
       rw [if_neg h1,if_neg h2,if_neg h4,if_neg h1,if_neg h2,if_neg h4,if_neg hw',if_neg hb]
       rfl
theorem Xh2 {x:Ins} {s:By} {t:Nat} (hop:x.op=1∨x.op=2∨x.op=3∨x.op=4∨x.op=5∨x.op=6∨x.op=7∨x.op=8):BS x s t 0=XbL x (cut s (t * 9)):=by
 have hn:x.op ≠ 8→XbL x (cut s (t * 9))=s (t * 9)+1:=fun h=>if_neg (fun hh=>h hh.1)
 unfold BS
 split
 · rename_i h;rw [hn (by rw [h];decide)];rfl
 · split
   · rename_i h;rw [hn (by rw [h];decide)];rfl
   · split
     · rename_i h;rw [hn (by rcases h with h | h | h <;> rw [h] <;> decide)];rfl
     · rename_i h1 h2 h4
       have hL:JB x=true:=by
         rcases hop with h | h | h | h | h | h | h | h
         · exact absurd h h1
         · exact absurd h h2
         · simp [JB,h]
         · exact absurd (.inl h) h4
         · exact absurd (.inr (.inl h)) h4
         · exact absurd (.inr (.inr h)) h4
         · simp [JB,h]
         · simp [JB,h]
       have:=Xfi x (cut s (t * 9)) 0
       unfold XdK at this
       rw [hL,if_pos rfl] at this
       exact this
theorem Ba {p:Prg} {m:UInt8} {s:By} {t:Nat}:Nd p m s t=true ↔ JA s t≤Mm p m s t∧∀ i,i < 12→Qo p m s t i=true:=by
 unfold Nd;rw [Bool.and_eq_true,decide_eq_true_eq,allB_iff]
theorem slot_iff {p:Prg} {m:UInt8} {s:By} {t i:Nat}:Qo p m s t i=true ↔ (JA s t≤i→JU s t i=0∧Nm s t i=0)∧(i < JA s t→(JU s t i).toNat < p.locs.length∧(m=3→0 < i→(JU s t (i - 1)).toNat≤(JU s t i).toNat)):=by
 unfold Qo
 split
 · rename_i h
   simp only [Bool.and_eq_true,beq_iff_eq]
   exact ⟨fun hh=>⟨fun _=>hh,fun h2=>absurd h2 (by omega)⟩,fun hh=>hh.1 h⟩
 · rename_i h
   simp only [Bool.and_eq_true,decide_eq_true_eq,Bool.not_eq_true',Bool.and_eq_false_iff,beq_eq_false_iff_ne,decide_eq_false_iff_not]
   constructor
   · rintro ⟨h1,h2⟩
     refine ⟨fun h3=>absurd h3 h,fun _=>⟨h1,fun hm hi=>?_⟩⟩
     rcases h2 with (h2 | h2) | h2
     · exact absurd hm h2
     · exact absurd hi h2
     · rw [UInt8.lt_iff_toNat_lt] at h2;omega
   · rintro ⟨_,h2⟩
     obtain ⟨h3,h4⟩:=h2 (by omega)
     refine ⟨h3,?_⟩
     by_cases hm:m=3
     · by_cases hi:0 < i
       · refine .inr ?_
         rw [UInt8.lt_iff_toNat_lt]
         have:=h4 hm hi
         omega
       · exact .inl (.inr hi)
     · exact .inl (.inl hm)
theorem LS {m:UInt8} {s:By} {t:Nat} {loc:UInt8}:∀ n,(m=3→∀ i,Mn m s t loc n≤i→i < n→loc.toNat < (JU s t i).toNat)∧(m=3→0 < Mn m s t loc n→(JU s t (Mn m s t loc n - 1)).toNat≤loc.toNat)∧(m ≠ 3→Mn m s t loc n=n)
 | 0=>⟨fun _ i _ h=>absurd h (by omega),fun _ h=>absurd h (by simp [Mn]),fun _=>rfl⟩
 | n+1=>by
   obtain ⟨h1,h2,h3⟩:=LS (m:=m) (s:=s) (t:=t) (loc:=loc) n
   rw [Mn]
   split
   · rename_i hc
     refine ⟨fun hm i hi hin=>?_,h2,fun hm=>absurd hc.1 hm⟩
     rcases Nat.lt_or_ge i n with h | h
     · exact h1 hm i hi h
     · obtain rfl:i=n:=by omega
       exact UInt8.lt_iff_toNat_lt.1 hc.2
   · rename_i hc
     refine ⟨fun _ i hi hin=>absurd hi (by omega),fun hm _=>?_,fun _=>rfl⟩
     have h5:¬ loc.toNat < (JU s t n).toNat:=fun h=>hc ⟨hm,UInt8.lt_iff_toNat_lt.2 h⟩
     show (JU s t n).toNat≤_
     omega
def nu (p:Prg) (s:By):Nat:=2 * mu p s+(JA s 0+JA s 1+JA s 2+JA s 3)
-- BfS
structure ExecOf (p:Prg) (m:UInt8) (s:By) (t:Nat) (l:List Ins) (x:Ins):Prop where
 r:RightM p m s
 hl:p.threads[t]? = some l
 hx:l[pcP s t]? = some x
 ready:QQ x m s t=true
 t4:t < 4
 op:x.op=1∨x.op=2∨x.op=3∨x.op=4∨x.op=5∨x.op=6∨x.op=7∨x.op=8
 loc:JB x=false→x.loc.toNat < p.locs.length
theorem Xku {p:Prg} {m:UInt8} {s:By} {t:Nat} (hr:RightM p m s) (ht:t < p.threads.length) (he:JP p m s t=true):∃ l x,ExecOf p m s t l x∧EQ p s t=some x:=by
 obtain ⟨l,x,hl,hx,hn,hrd⟩:=BU he
 exact ⟨l,x,⟨hr,hl,hx,hrd,by have:=(valid hr.prog).thr4;omega,Xja hr.prog hl hx,fun h=>(C8 (Xjq hr.prog hl hx) h).1⟩,hn⟩
theorem N4 {p:Prg} {a b:By} {u:Nat} (h:∀ k,k < 9→b (u * 9+k)=a (u * 9+k)) (ha:Qq p a u=true):Qq p b u=true:=by
 unfold Qq at ha ⊢
 split at ha
 · have h0:=h 0 (by omega)
   simp only [Nat.add_zero] at h0
   rw [h0];exact ha
 · rw [same_iff] at ha ⊢
   exact fun k hk=>(h k hk).trans (ha k hk)
theorem Bb {s:By} {i:Nat} (h:i < 42):Qf s i=s i:=if_pos h
theorem Xdy {p:Prg} {z:By} (hp:JH p=0) (ht:∀ u,u < 4→Qq p z u=true) (hm:∀ k,k < 6→LV p z k=true):Qi p (Qf z)=true:=by
 rw [MF hp (fun u hu=>?_) (fun k hk=>?_)]
 · rw [Bool.and_eq_true,same_iff,same_iff]
   exact ⟨fun i hi=>if_neg (by omega),fun i hi=>if_neg (by omega)⟩
 · exact N4 (fun k hk=>Bb (by omega)) (ht u hu)
 · have h1:=hm k hk
   unfold LV at h1 ⊢
   rw [Bb (by omega)];exact h1
section
variable {p:Prg} {m:UInt8} {s:By} {t:Nat} {l:List Ins} {x:Ins}
theorem RightM.thread (h:RightM p m s) {u:Nat} (hu:u < 4):Qq p s u=true:=by
 have h1:=h.bare
 unfold Qi Mf at h1
 simp only [Bool.and_eq_true] at h1
 exact N4 (fun k hk=>(Bb (by omega)).symm) ((allB_iff.1 h1.2.1.1) u hu)
theorem RightM.mem (h:RightM p m s) {k:Nat} (hk:k < 6):LV p s k=true:=by
 have h1:=h.bare
 unfold Qi Mf at h1
 simp only [Bool.and_eq_true] at h1
 have h2:=(allB_iff.1 h1.2.1.2) k hk
 unfold LV at h2 ⊢
 rw [Bb (by omega)] at h2;exact h2
theorem ExecOf.loc6 (h:ExecOf p m s t l x):JB x=false→x.loc.toNat < 6:=fun hh=>by have:=h.loc hh;have:=(valid h.r.prog).locs6;omega
theorem ExecOf.lt (h:ExecOf p m s t l x):pcP s t < l.length:=(List.getElem?_eq_some_iff.1 h.hx).1
theorem ExecOf.l12 (h:ExecOf p m s t l x):l.length≤12:=(valid h.r.prog).long t l h.hl
theorem ExecOf.val (h:ExecOf p m s t l x) (i:Nat):Ql m x s t i=if t * 9≤i∧i < t * 9+9 then BS x s t (i - t * 9) else if QV m x∧i=36+x.loc.toNat then Cd x (cut s (t * 9)) (s (36+x.loc.toNat))
     else if Qz m x then Ce m s t (stP x.loc (Ns x (cut s (t * 9)))) i else s i:=Xh1 h.t4 h.loc6 h.op i
theorem ExecOf.room (h:ExecOf p m s t l x):JA s t≤11:=Xee h.r h.t4 h.hl h.lt h.l12
theorem ExecOf.notLocal (_h:ExecOf p m s t l x) (hw:QV m x∨Qz m x):JB x=false:=by
 rcases hw with (h | h | h | h) | h
 · simp [JB,h.1]
 · simp [JB,h]
 · simp [JB,h]
 · simp [JB,h]
 · simp [JB,h.1]
theorem ExecOf.low (h:ExecOf p m s t l x) {i:Nat} (hi:i < 42):Ql m x s t i=if t * 9≤i∧i < t * 9+9 then BS x s t (i - t * 9) else if QV m x∧i=36+x.loc.toNat then Cd x (cut s (t * 9)) (s (36+x.loc.toNat)) else s i:=by
 rw [h.val]
 split
 · rfl
 · split
   · rfl
   · split
     · exact XjJ (NP _) hi
     · rfl
theorem ExecOf.other (h:ExecOf p m s t l x) {u k:Nat} (hu:u < 4) (hne:u ≠ t) (hk:k < 9):Ql m x s t (u * 9+k)=s (u * 9+k):=by
 have:=h.t4
 rw [h.low (by omega),if_neg (by rcases Nat.lt_or_gt_of_ne hne with h | h <;> omega),if_neg (by omega)]
theorem ExecOf.pcOther (h:ExecOf p m s t l x) {u:Nat} (hu:u < 4) (hne:u ≠ t):pcP (Ql m x s t) u=pcP s u:=by
 have:=h.other hu hne (k:=0) (by omega)
 simp only [Nat.add_zero] at this
 unfold pcP;rw [this]
theorem ExecOf.own (h:ExecOf p m s t l x) {k:Nat} (hk:k < 9):Ql m x s t (t * 9+k)=BS x s t k:=by
 have:=h.t4
 rw [h.low (by omega),if_pos (by omega),show t * 9+k - t * 9=k by omega]
theorem ExecOf.pc (h:ExecOf p m s t l x):pcP s t < pcP (Ql m x s t) t∧pcP (Ql m x s t) t≤l.length:=by
 have h0:=h.own (k:=0) (by omega)
 simp only [Nat.add_zero] at h0
 rw [Xh2 h.op] at h0
 have hi:=M6 ((valid h.r.prog).ins t l h.hl) h.hx
 rw [Nat.zero_add] at hi
 have:=XdV (th:=cut s (t * 9)) h.l12 (by simpa [cut,pcP] using h.lt) (by simpa [cut,pcP] using hi)
 unfold pcP
 rw [h0]
 simpa [cut] using this
theorem ExecOf.mem (h:ExecOf p m s t l x) {k:Nat} (hk:k < 6):Ql m x s t (36+k)=if QV m x∧k=x.loc.toNat then Cd x (cut s (t * 9)) (s (36+x.loc.toNat)) else s (36+k):=by
 have:=h.t4
 rw [h.low (by omega),if_neg (by omega)]
 by_cases hc:QV m x∧k=x.loc.toNat
 · rw [if_pos ⟨hc.1,by omega⟩,if_pos hc]
 · rw [if_neg (fun hh=>hc ⟨hh.1,by omega⟩),if_neg hc]
theorem ExecOf.high (h:ExecOf p m s t l x) {i:Nat} (hi:42≤i):Ql m x s t i=if Qz m x then Ce m s t (stP x.loc (Ns x (cut s (t * 9)))) i else s i:=by
 have:=h.t4
 rw [h.val,if_neg (by omega),if_neg];rintro ⟨hw,e⟩
 have:=h.loc6 (h.notLocal (.inl hw))
 omega
theorem ExecOf.still (h:ExecOf p m s t l x) (hb:¬ Qz m x) (u:Nat):JA (Ql m x s t) u=JA s u∧∀ i,JU (Ql m x s t) u i=JU s u i∧Nm (Ql m x s t) u i=Nm s u i:=by
 refine ⟨?_,fun i=>⟨?_,?_⟩⟩
 · unfold JA;rw [h.high (by omega),if_neg hb]
 · unfold JU;rw [h.high (by omega),if_neg hb]
 · unfold Nm;rw [h.high (by omega),if_neg hb]
theorem ExecOf.adds (h:ExecOf p m s t l x) (hb:Qz m x) (u:Nat):JA (Ql m x s t) u=JA (Ce m s t (stP x.loc (Ns x (cut s (t * 9))))) u∧∀ i,JU (Ql m x s t) u i=JU (Ce m s t (stP x.loc (Ns x (cut s (t * 9))))) u i∧Nm (Ql m x s t) u i=Nm (Ce m s t (stP x.loc (Ns x (cut s (t * 9))))) u i:=by
 refine ⟨?_,fun i=>⟨?_,?_⟩⟩
 · unfold JA;rw [h.high (by omega),if_pos hb]
 · unfold JU;rw [h.high (by omega),if_pos hb]
 · unfold Nm;rw [h.high (by omega),if_pos hb]
theorem ExecOf.far (h:ExecOf p m s t l x) {u:Nat} (hu:u < 4) (hne:u ≠ t):JA (Ql m x s t) u=JA s u∧∀ i,i < 12→JU (Ql m x s t) u i=JU s u i∧Nm (Ql m x s t) u i=Nm s u i:=by
 by_cases hb:Qz m x
 · obtain ⟨h1,h2⟩:=h.adds hb u
   obtain ⟨h3,h4⟩:=XjK (st:=stP x.loc (Ns x (cut s (t * 9)))) (a:=Mn m s t x.loc (JA s t)) (NP _) h.room h.t4 hu hne
   exact ⟨h1.trans h3,fun i hi=>⟨((h2 i).1).trans (h4 i hi).1,((h2 i).2).trans (h4 i hi).2⟩⟩
 · obtain ⟨h1,h2⟩:=h.still hb u
   exact ⟨h1,fun i _=>h2 i⟩
end
theorem BP {p:Prg} {m:UInt8} {s z:By} {u:Nat} (hm:JA z u=JA s u) (hb:∀ i,i < 12→JU z u i=JU s u i∧Nm z u i=Nm s u i) (hmost:Mm p m s u≤Mm p m z u) (h:Nd p m s u=true):Nd p m z u=true:=by
 rw [Ba] at h ⊢
 refine ⟨by omega,fun i hi=>?_⟩
 have h1:=h.2 i hi
 rw [slot_iff] at h1 ⊢;rw [hm,(hb i hi).1,(hb i hi).2]
 refine ⟨h1.1,fun hl=>⟨(h1.2 hl).1,fun h3 h0=>?_⟩⟩
 rw [(hb (i - 1) (by omega)).1]
 exact (h1.2 hl).2 h3 h0
theorem XaL {p:Prg} {m:UInt8} {s z:By} {u:Nat} (h:pcP s u≤pcP z u):Mm p m s u≤Mm p m z u:=by
 unfold Mm
 split
 · exact h
 · exact Nat.le_refl _
end Go.Proofs.YtcpehikcegoojaaGreatDoor
