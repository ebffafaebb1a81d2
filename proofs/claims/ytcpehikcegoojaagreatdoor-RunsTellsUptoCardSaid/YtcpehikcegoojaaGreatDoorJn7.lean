/-
  WALK2. Layer 13's reference: Right, Start. Conditions: the program lies in memory; its condition's depth is a Ml that an int holds.
-/
import Derived.Test.YtcpehikcegoojaaGreatDoorJn6
import Derived.Test.YtcpehikcegoojaaGreatDoorAtK
set_option linter.unusedSimpArgs false
set_option linter.unusedVariables false
namespace Go.Proofs.YtcpehikcegoojaaGreatDoor
-- RfE
open Go.Proofs.Tryz
open Go.RowKit
set_option maxRecDepth 100000
theorem z8 {x:UInt8}:x.toNat=0 ↔ x=0:=⟨fun h=>UInt8.toNat_inj.1 h,fun h=>by rw [h];rfl⟩
def bufZ (s:By) (t:Nat):Prop:=s (138+t)=0∧∀ k,k < 24→s (42+t * 24+k)=0
def Xiu (p:Prg) (s:By):Prop:=(∀ t,t < 4→Qq p s t=true∧bufZ s t)∧∀ i,p.locs.length≤i→i < 6→s (36+i)=0
theorem Xfy {p:Prg} {s:By} (hp:JH p=0):Qi p s=true ↔ Xiu p s:=by
 unfold Qi Mf
 rw [hp]
 simp only [Bool.and_eq_true,beq_iff_eq,allB_iff,same_iff,true_and]
 constructor
 · rintro ⟨⟨ht,hm⟩,hb,hy⟩
   refine ⟨fun t h4=>⟨ht t h4,hy t h4,fun k hk=>?_⟩,fun i hi h6=>?_⟩
   · have:=hb (t * 24+k) (by omega)
     unfold cut zb at this
     rw [show 42+t * 24+k=42+(t * 24+k) by omega];exact this
   · have:=hm i h6
     rw [ES hi] at this
     exact eq_of_beq this
 · rintro ⟨h1,h2⟩
   refine ⟨⟨fun i hi=>(h1 i hi).1,fun k hk=>?_⟩,fun i hi=>?_,fun i hi=>(h1 i hi).2.1⟩
   · rcases Nat.lt_or_ge k p.locs.length with h | h
     · exact XdZ h
     · rw [ES h,h2 k h hk];rfl
   · have:=(h1 (i / 24) (by omega)).2.2 (i % 24) (Nat.mod_lt _ (by omega))
     rw [show 42+i / 24 * 24+i % 24=42+i by omega] at this
     exact this
theorem LY {p:Prg} {s:By} {j:Nat} (h:p.threads.length≤j):Qq p s j=true ↔ ∀ i,i < 9→s (j * 9+i)=0:=by
 rw [MV h,same_iff];rfl
theorem M5 {P:Nat→Prop} {k:Nat}:(∀ i,i < k+1→P i) ↔ (∀ i,i < k→P i)∧P k:=
 ⟨fun h=>⟨fun i hi=>h i (by omega),h k (by omega)⟩,fun h i hi=>by
   rcases Nat.lt_or_ge i k with h1 | h1
   · exact h.1 i h1
   · obtain rfl:i=k:=by omega
     exact h.2⟩
set_option maxHeartbeats 4000000 in
theorem DH (cs:List Value) (p:Prg) (w0:World) (hP:ProgAt w0 cs p) (hd:Nw p.cond≤9223372036854775807) (s:By) :
   Calls Tryz.prog 65 #[.agg cs.toArray,.agg (bs 142 s).toArray] w0 fun e w'=>e = .returned (.bool (Qi p s))∧Below w0.heap.size w0 w':=by
 have H:=Own.start w0 none
 have hP0:=hP
 obtain ⟨LA,LC,IA,IC,TA,TC,h,ccs,hp⟩:=hP
 obtain ⟨c1,c2,c3,c4,c5,rfl⟩:=DM (JT hp.cond)
 have hcs:=hp.cs
 subst hcs
 have hn:=hp.threadsN
 have hm:=hp.locsN
 refine JF func65 rfl ntmps65 rfl (fun a F=>?_);refine cSR fun K1 hK1=>?_;refine sBx H F rfl rfl rfl ?_;clear F a H;intro b2 a w F H;refine Mg H F rfl rfl rfl ?_;clear F a H;intro b3 a w F H;refine Xa F rfl (qNK hK1 ?_);clear hK1;clear F a;intro a F;refine JD (fun K2 hK2=>?_);refine cSR fun K3 hK3=>?_
 refine Xw XM rfl ?si F rfl (H.whole 1 rfl) ?_
 case si=>exact Jz Ya
 clear F a;intro a F;refine Xu call19 F rfl (Dj _ p _ (hP0.own H) hd) (gG H ?_);clear F a H;intro a w F H;refine Xg F rfl rfl DR (qNK hK3 ?_);clear hK3;clear F a;intro a F
 refine cIf F rfl (fun h13=>?_) (fun h13=>?_)
 ·
  replace h13:=Ep h13;refine cSR fun K4 hK4=>Xa F rfl (qNK hK4 ?_);clear hK4;clear F a;intro a F;refine wp_ret ?_;simp only [Exit.then];refine JI results65 F rfl ?_
  refine ⟨JZ ?_,H.below⟩
  clear F H
  exact (CO h13).symm
 replace h13:=Er h13
 have hp0:JH p=0:=h13
 have hv:=valid hp0
 have hv4:=hv.thr4
 have hv6:=hv.locs6
 refine wp_skip (hK2 _ _ (cSR fun K5 hK5=>Xa F rfl (qNK hK5 ?_)));clear hK2 hK5;clear F a;intro a F;refine JD (fun K6 hK6=>?_);refine cSR fun K7 hK7=>Xa F rfl (qNK hK7 ?_);clear hK7;clear F a;intro a F;refine wp_block ?_
 refine JN [2,3] (fun m ups w=>∃ j n:Nat,m=4 - j∧ups=[(5,.int .i64 ((n:Nat):Int)),(6,.int .i64 ((j:Nat):Int))]∧j≤4∧n≤20000 * j∧(n=0 ↔ ∀ i,i < j→Qq p s i=true∧bufZ s i)∧Own w0 none w [.blk b3 (bs 142 s) 60,.blk b2 ([.string p.name,.slice LA p.locs.length LC,.slice IA p.init.length IC,.slice TA p.threads.length TC,B8 p.ask]++[c1,c2,c3,c4,c5]) 29]) F (4) [(5,.int .i64 ((0:Nat):Int)),(6,.int .i64 ((0:Nat):Int))] ?_ ?_
 · exact ⟨0,0,rfl,rfl,by omega,by omega,⟨fun _ i hi=>by omega,fun _=>rfl⟩,H⟩
 clear F
 clear H
 intro m ups a w hI F
 obtain ⟨j,n,rfl,rfl,hj,hnj,hz,H⟩:=hI
 refine JD (fun K8 hK8=>?_);refine cSR fun K9 hK9=>Xf F rfl (Xe rfl rfl QF (qNK hK9 ?_));clear hK9;clear F a;intro a F
 refine cIf F rfl (fun h15=>?_) (fun h15=>?_)
 ·
  replace h15:=of_decide_eq_true h15
  have hj4:j < 4:=by omega
  refine wp_skip (hK8 _ _ ?_);clear hK8;refine JD (fun K10 hK10=>?_);refine wp_block ?_;refine cSR fun K11 hK11=>Xf F rfl (Xr (f:=0) (k:=0) XG rfl Yc rfl rfl rfl ?_);clear F a;intro a F
  refine Ed XW XN F rfl rfl rfl rfl ?_ ?_
  focus (omega)
  clear F a;intro a F;refine Xs XK rfl XN F rfl (H.ra' 0 _ 9 rfl) ?_;clear F a;intro a F;refine Mo H Xe1 F rfl rfl ?_;clear F a H;intro b7 a w F H;refine Xt H 0 XN F rfl rfl rfl ?_;clear H;intro w H;rw [JE] at H;refine nK hK11 ?_;clear hK11
  refine Mx [2,3,6] (fun ups w=>∃ n3:Nat,ups=[(5,.int .i64 ((n3:Nat):Int))]∧n3≤n+3000∧(n3=0 ↔ n=0∧Qq p s j=true)∧Own w0 none w [.blk b7 (bs 9 (cut s (j * 9))) 52,.blk b3 (bs 142 s) 60,.blk b2 ([.string p.name,.slice LA p.locs.length LC,.slice IA p.init.length IC,.slice TA p.threads.length TC,B8 p.ask]++[c1,c2,c3,c4,c5]) 29]) F ?_ ?_
  ·
   refine cSR fun K12 hK12=>Xf F rfl (Xr (f:=3) (k:=3) XM rfl Yo rfl rfl rfl (Xc Yp rfl (H.cell 2 rfl rfl) (Xx X7 rfl (Xe rfl rfl QF (qNK hK12 ?_)))));clear hK12;clear F a;intro a F
   refine cIf F rfl (fun h26=>?_) (fun h26=>?_)
   ·
    replace h26:=of_decide_eq_true h26
    have hjl:j < p.threads.length:=by omega
    obtain ⟨l,hl⟩:∃ l,p.threads[j]? = some l:=⟨_,List.getElem?_eq_getElem hjl⟩
    obtain ⟨bT,oT,BT,CT,rfl,hT1,hT2,hT3⟩:=hp.threads j l hl
    refine JD (fun K13 hK13=>?_);refine Xi H ?_;replace H:=H.drew;refine Xj 0 rfl F rfl (fun w=>rFa (f:=0) (k:=0) XK rfl XH rfl rfl F rfl) H qq0 (Xl 1 rfl rfl rfl (fun a F w H=>rLd XJ F rfl (H.ce' 0 rfl)) H qq0 (Xm 2 rfl rfl (fun a F w=>rCv XO XT F rfl (QG _)) H qq0 (Xm 3 rfl rfl (fun a F w=>rFa (f:=3) (k:=3) XM rfl Yo rfl rfl F rfl) H qq0 (Xl 4 rfl rfl rfl (fun a F w H=>rLd Yp F rfl (H.cell 2 rfl rfl)) H qq0 (Xm 5 rfl rfl (fun a F w=>rMv F rfl) H qq0 ?_)))));clear F a;intro a F
    refine Xq (k:=6) (i:=6) rfl F rfl (fun w=>rIx X7 YB F rfl rfl ?_) H (fun _ _ _ h=>h) ?_
    focus (omega)
    clear F a;intro a F;refine Xv 7 rfl F rfl rfl (fun w H=>rLd YI F rfl (H.arg hT1)) H qq0 (Xl 8 rfl rfl rfl (fun a F w H=>Bw Yl F rfl) H qq0 (Xm 9 rfl rfl (fun a F w=>Q0 F rfl rfl L3) H qq0 ?_));clear F a;intro a F;refine Xp (k:=10) ?_;refine hK13 _ _ ?_;clear hK13
    refine cIf F rfl (fun h36=>?_) (fun h36=>?_)
    ·
     replace h36:=of_decide_eq_true h36;refine JY (Xf F rfl ?_);clear F a;intro a F
     refine Xg F rfl rfl (JJ (j:=1) ?_) ?_
     focus omega
     clear F a;intro a F;refine Xa F rfl ?_;clear F a;intro a F;refine J4 ?_
     exact ⟨_,⟨n+1,rfl,by omega,⟨fun h=>by omega,fun h=>absurd h.2 (by rw [Q1 hl,decide_eq_false (by simp only [cut,Nat.add_zero] at h36;omega)];simp)⟩,H⟩,F.tt⟩
    replace h36:=of_decide_eq_false h36;refine wp_skip ?_
    exact ⟨_,⟨n,rfl,by omega,⟨fun h=>⟨h,by rw [Q1 hl];exact decide_eq_true (by simp only [cut,Nat.add_zero] at h36;omega)⟩,fun h=>h.1⟩,H⟩,F.tt⟩
   replace h26:=of_decide_eq_false h26
   have hb0:=(cut s (j * 9) 0).toNat_lt
   refine cSR fun K14 hK14=>Xf F rfl (Xr (f:=0) (k:=0) XK rfl XH rfl rfl rfl (Xc XJ rfl (H.ce' 0 rfl) (qCv XO XT rfl rfl rfl (QG _) ?_)));clear F a;intro a F
   refine Xg F rfl rfl (JJ ?_) ?_
   focus omega
   clear F a;intro a F;refine Xa F rfl (qNK hK14 (qSR fun K15 hK15=>Xd rfl (qNK hK15 ?_)));clear hK14 hK15;clear F a;intro a F;refine wp_block ?_
   refine JN [2,3,6,7] (fun m ups w=>∃ k n2:Nat,m=8 - k∧ups=[(5,.int .i64 ((n2:Nat):Int)),(8,.int .i64 ((k:Nat):Int))]∧k≤8∧n2≤n+255 * (k+1)∧(n2=0 ↔ n=0∧∀ i,i < k+1→s (j * 9+i)=0)∧Own w0 none w [.blk b7 (bs 9 (cut s (j * 9))) 52,.blk b3 (bs 142 s) 60,.blk b2 ([.string p.name,.slice LA p.locs.length LC,.slice IA p.init.length IC,.slice TA p.threads.length TC,B8 p.ask]++[c1,c2,c3,c4,c5]) 29]) F (8) [(5,.int .i64 ((n+(cut s (j * 9) 0).toNat:Nat):Int)),(8,.int .i64 ((0:Nat):Int))] ?_ ?_
   · (have:=(cut s (j * 9) 0).toNat_lt
      exact ⟨0,_,rfl,rfl,by omega,by omega,⟨fun h=>⟨by omega,fun i hi=>by obtain rfl:i=0:=(by omega);exact z8.1 (show (cut s (j * 9) 0).toNat=0 by omega)⟩,fun h=>by have:=z8.2 (h.2 0 (by omega));simp only [cut];omega⟩,H⟩)
   clear F
   clear H
   intro m ups a w hI F
   obtain ⟨k,n2,rfl,rfl,hk,hn2,hz2,H⟩:=hI
   have hvl:=(cut s (j * 9) (1+k)).toNat_lt
   refine JD (fun K16 hK16=>?_);refine cSR fun K17 hK17=>Xf F rfl (Xe rfl rfl QF (qNK hK17 ?_));clear hK17;clear F a;intro a F
   refine cIf F rfl (fun h45=>?_) (fun h45=>?_)
   ·
    replace h45:=of_decide_eq_true h45;refine wp_skip (hK16 _ _ ?_);clear hK16;refine JD (fun K18 hK18=>?_);refine wp_block ?_;refine JY (Xf F rfl (Xh rfl (Xr (f:=1) (k:=1) XK rfl X1 rfl rfl rfl ?_)));clear F a;intro a F
    refine MP X9 XH F rfl rfl rfl rfl ?_ ?_
    focus (omega)
    clear F a;intro a F;refine sLd XJ F rfl rfl rfl (H.ce' 0 rfl) (qCv XO XT rfl rfl rfl (QG _) ?_);clear F a;intro a F
    refine Xg F rfl rfl (JJ ?_) ?_
    focus omega
    clear F a;intro a F;refine Xa F rfl (qNK hK18 (Ef (Xh rfl ?_)));clear hK18;clear F a;intro a F
    refine Xg F rfl rfl (JJ (j:=1) ?_) ?_
    focus omega
    clear F a;intro a F;refine Xa F rfl ?_;clear F a;intro a F;refine J4 ?_
    refine ⟨_,by omega,_,⟨k+1,n2+(cut s (j * 9) (1+k)).toNat,rfl,rfl,by omega,by omega,?_,H⟩,F.tt⟩
    rw [M5 (k:=k+1),← and_assoc,← hz2,show s (j * 9+(k+1))=cut s (j * 9) (1+k) from congrArg s (by omega),← z8]
    omega
   replace h45:=of_decide_eq_false h45
   obtain rfl:k=8:=by omega
   refine wp_exit ?_
   exact ⟨_,⟨n2,rfl,by omega,by rw [hz2,LY (by omega)],H⟩,F.tt⟩
  clear F H
  intro ups a w hI F
  (obtain ⟨n3,rfl,hn3,hz3,H⟩:=hI;have hbm:=(s (138+j)).toNat_lt)
  refine cSR fun K19 hK19=>Xf F rfl (Xh rfl (Xr (f:=3) (k:=138) XG rfl Yh rfl rfl rfl ?_));clear F a;intro a F
  refine MP X8 XH F rfl rfl rfl rfl ?_ ?_
  focus (omega)
  clear F a;intro a F;refine sLd XJ F rfl rfl rfl (H.ce' 1 rfl) (qCv XO XT rfl rfl rfl (QG _) ?_);clear F a;intro a F
  refine Xg F rfl rfl (JJ ?_) ?_
  focus omega
  clear F a;intro a F;refine Xa F rfl (qNK hK19 (qSR fun K20 hK20=>Xd rfl (qNK hK20 ?_)));clear hK19 hK20;clear F a;intro a F;refine wp_block ?_
  refine JN [2,3,6] (fun m ups w=>∃ k n5:Nat,m=12 - k∧ups=[(5,.int .i64 ((n5:Nat):Int)),(9,.int .i64 ((k:Nat):Int))]∧k≤12∧n5≤n+3255+510 * k∧(n5=0 ↔ (n=0∧Qq p s j=true)∧s (138+j)=0∧∀ i,i < 2 * k→s (42+j * 24+i)=0)∧Own w0 none w [.blk b7 (bs 9 (cut s (j * 9))) 52,.blk b3 (bs 142 s) 60,.blk b2 ([.string p.name,.slice LA p.locs.length LC,.slice IA p.init.length IC,.slice TA p.threads.length TC,B8 p.ask]++[c1,c2,c3,c4,c5]) 29]) F (12) [(5,.int .i64 ((n3+(s (138+j)).toNat:Nat):Int)),(9,.int .i64 ((0:Nat):Int))] ?_ ?_
  · (have:=(s (138+j)).toNat_lt
     exact ⟨0,_,rfl,rfl,by omega,by omega,by rw [← hz3,← z8];exact ⟨fun h=>⟨by omega,by omega,fun i hi=>by omega⟩,fun h=>by omega⟩,H⟩)
  clear F
  clear H
  intro m ups a w hI F
  obtain ⟨k,n5,rfl,rfl,hk,hn5,hz5,H⟩:=hI
  have hv1:=(s (42+j * 24+k * 2)).toNat_lt
  have hv2:=(s (42+j * 24+k * 2+1)).toNat_lt
  refine JD (fun K21 hK21=>?_);refine cSR fun K22 hK22=>Xf F rfl (Xe rfl rfl QF (qNK hK22 ?_));clear hK22;clear F a;intro a F
  refine cIf F rfl (fun h63=>?_) (fun h63=>?_)
  ·
   replace h63:=of_decide_eq_true h63;refine wp_skip (hK21 _ _ ?_);clear hK21;refine JD (fun K23 hK23=>?_);refine wp_block ?_;refine Xi H ?_;replace H:=H.drew;refine Xj 0 rfl F rfl (fun w=>rMv F rfl) H qq0 (Xm 1 rfl rfl (fun a F w=>rMv F rfl) H qq0 (Xm 2 rfl rfl (fun a F w=>rMv F rfl) H qq0 (Xm 3 rfl rfl (fun a F w=>rFa (f:=2) (k:=42) XG rfl Yb rfl rfl F rfl) H qq0 ?_)));clear F a;intro a F
   refine Xq (k:=4) (i:=4) rfl F rfl (fun w=>rIa XZ Yi F rfl rfl ?_) H (fun _ _ _ h=>h) ?_
   focus (omega)
   clear F a;intro a F
   refine Xq (k:=5) (i:=5) rfl F rfl (fun w=>rIa X2 XS F rfl rfl ?_) H (fun _ _ _ h=>h) ?_
   focus (omega)
   clear F a;intro a F;refine Xj 6 rfl F rfl (fun w=>Xct (f:=0) XQ rfl XH rfl rfl F rfl) H qq0 (Xl 7 rfl rfl rfl (fun a F w H=>rLd XJ F rfl (H.ce' 1 rfl)) H qq0 (Xm 8 rfl rfl (fun a F w=>rCv XO XT F rfl (QG _)) H qq0 ?_));clear F a;intro a F
   refine Xq (k:=9) (i:=9) rfl F rfl (fun w=>Q0 F rfl rfl (JJ ?_)) H (fun _ _ _ h=>h) ?_
   focus omega
   clear F a;intro a F;refine Xj 10 rfl F rfl (fun w=>rMv F rfl) H qq0 (Xm 11 rfl rfl (fun a F w=>rMv F rfl) H qq0 (Xm 12 rfl rfl (fun a F w=>rFa (f:=2) (k:=42) XG rfl Yb rfl rfl F rfl) H qq0 ?_));clear F a;intro a F
   refine Xq (k:=13) (i:=13) rfl F rfl (fun w=>rIa XZ Yi F rfl rfl ?_) H (fun _ _ _ h=>h) ?_
   focus (omega)
   clear F a;intro a F
   refine Xq (k:=14) (i:=14) rfl F rfl (fun w=>rIa X2 XS F rfl rfl ?_) H (fun _ _ _ h=>h) ?_
   focus (omega)
   clear F a;intro a F;refine Xj 15 rfl F rfl (fun w=>rFa (f:=1) (k:=_+1) XQ rfl XH rfl rfl F rfl) H qq0 (Xl 16 rfl rfl rfl (fun a F w H=>rLd XJ F rfl (H.ce' 1 rfl)) H qq0 (Xm 17 rfl rfl (fun a F w=>rCv XO XT F rfl (QG _)) H qq0 ?_));clear F a;intro a F
   refine Xq (k:=18) (i:=18) rfl F rfl (fun w=>Q0 F rfl rfl (JJ ?_)) H (fun _ _ _ h=>h) ?_
   focus omega
   clear F a;intro a F;refine Xj 19 rfl F rfl (fun w=>rAs F rfl) H qq0 ?_;clear F a;intro a F;refine Xp (k:=20) ?_;refine hK23 _ _ (JY (Xf F rfl ?_));clear hK23;clear F a;intro a F
   refine Xg F rfl rfl (JJ (j:=1) ?_) ?_
   focus omega
   clear F a;intro a F;refine Xa F rfl ?_;clear F a;intro a F;refine J4 ?_
   refine ⟨_,by omega,_,⟨k+1,n5+(s (42+j * 24+k * 2)).toNat+(s (42+j * 24+k * 2+1)).toNat,rfl,rfl,by omega,by omega,?_,H⟩,F.tt⟩
   rw [show 2 * (k+1)=2 * k+1+1 by omega,M5 (k:=2 * k+1),M5 (k:=2 * k),← and_assoc,← and_assoc,← and_assoc,and_assoc (a:=n=0∧Qq p s j=true),← hz5,show 42+j * 24+2 * k=42+j * 24+k * 2 by omega,show 42+j * 24+(2 * k+1)=42+j * 24+k * 2+1 by omega,← z8,← z8]
   omega
  replace h63:=of_decide_eq_false h63;refine wp_exit ?_;refine hK10 _ _ (JY (Xf F rfl ?_));clear hK10;clear F a;intro a F
  refine Xg F rfl rfl (JJ (j:=1) ?_) ?_
  focus omega
  clear F a;intro a F;refine Xa F rfl ?_;clear F a;intro a F;refine J4 ?_
  refine ⟨_,by omega,_,⟨j+1,n5,rfl,rfl,by omega,by omega,?_,H.sel [1,2] rfl rfl⟩,F.tt⟩
  obtain rfl:k=12:=by omega
  rw [M5 (k:=j),← hz,hz5]
  unfold bufZ
  constructor
  · rintro ⟨⟨h1,h2⟩,h3,h4⟩;exact ⟨h1,h2,h3,h4⟩
  · rintro ⟨h1,h2,h3,h4⟩;exact ⟨⟨h1,h2⟩,h3,h4⟩
 replace h15:=of_decide_eq_false h15
 obtain rfl:j=4:=by omega
 refine wp_exit ?_;refine hK6 _ _ ?_;clear hK6;refine JD (fun K24 hK24=>?_);refine cSR fun K25 hK25=>Xb (f:=1) (k:=1) XM rfl Yw rfl rfl F rfl (Xc Yy rfl (H.cell 1 rfl rfl) (Xx Yk rfl (Xd rfl (qNK hK25 ?_))));clear hK25;clear F a;intro a F;refine wp_block ?_
 refine JN [3] (fun m ups w=>∃ k n6:Nat,m=6 - k∧ups=[(5,.int .i64 ((n6:Nat):Int)),(10,.int .i64 ((k:Nat):Int))]∧p.locs.length≤k∧k≤6∧n6≤100000+255 * k∧(n6=0 ↔ (∀ i,i < 4→Qq p s i=true∧bufZ s i)∧∀ i,p.locs.length≤i→i < k→s (36+i)=0)∧Own w0 none w [.blk b3 (bs 142 s) 60,.blk b2 ([.string p.name,.slice LA p.locs.length LC,.slice IA p.init.length IC,.slice TA p.threads.length TC,B8 p.ask]++[c1,c2,c3,c4,c5]) 29]) F (6 - p.locs.length) [(5,.int .i64 ((n:Nat):Int)),(10,.int .i64 ((p.locs.length:Nat):Int))] ?_ ?_
 · exact ⟨p.locs.length,n,rfl,rfl,by omega,by omega,by omega,by rw [← hz];exact ⟨fun h=>⟨h,fun i h1 h2=>by omega⟩,fun h=>h.1⟩,H⟩
 clear F
 clear H
 intro m ups a w hI F
 obtain ⟨k,n6,rfl,rfl,hlk,hk,hn6,hz6,H⟩:=hI
 have hv1:=(s (36+k)).toNat_lt
 refine JD (fun K26 hK26=>?_);refine cSR fun K27 hK27=>Xf F rfl (Xe rfl rfl QF (qNK hK27 ?_));clear hK27;clear F a;intro a F
 refine cIf F rfl (fun h89=>?_) (fun h89=>?_)
 ·
  replace h89:=of_decide_eq_true h89;refine wp_skip (hK26 _ _ ?_);clear hK26;refine JD (fun K28 hK28=>?_);refine wp_block ?_;refine JY (Xf F rfl (Xh rfl (Xr (f:=1) (k:=36) XG rfl Yg rfl rfl rfl ?_)));clear F a;intro a F
  refine MP Yj XH F rfl rfl rfl rfl ?_ ?_
  focus (omega)
  clear F a;intro a F;refine sLd XJ F rfl rfl rfl (H.ce' 0 rfl) (qCv XO XT rfl rfl rfl (QG _) ?_);clear F a;intro a F
  refine Xg F rfl rfl (JJ ?_) ?_
  focus omega
  clear F a;intro a F;refine Xa F rfl (qNK hK28 (Ef (Xh rfl ?_)));clear hK28;clear F a;intro a F
  refine Xg F rfl rfl (JJ (j:=1) ?_) ?_
  focus omega
  clear F a;intro a F;refine Xa F rfl ?_;clear F a;intro a F;refine J4 ?_
  refine ⟨_,by omega,_,⟨k+1,n6+(s (36+k)).toNat,rfl,rfl,by omega,by omega,by omega,?_,H⟩,F.tt⟩
  constructor
  · intro h
    have h1:=hz6.1 (by omega)
    have h2:s (36+k)=0:=z8.1 (by omega)
    refine ⟨h1.1,fun i hi hk2=>?_⟩
    rcases Nat.lt_or_ge i k with h3 | h3
    · exact h1.2 i hi h3
    · obtain rfl:i=k:=by omega
      exact h2
  · intro h
    have h1:=hz6.2 ⟨h.1,fun i hi hk2=>h.2 i hi (by omega)⟩
    have h2:=z8.2 (h.2 k hlk (by omega))
    omega
 replace h89:=of_decide_eq_false h89;refine wp_exit ?_;refine hK24 _ _ (cSR fun K29 hK29=>Xf F rfl (Xe rfl rfl Mp (Xd rfl (qNK hK29 ?_))));clear hK24 hK29;clear F a;intro a F;refine wp_ret ?_;refine JI results65 F rfl ?_
 refine ⟨JZ ?_,H.below⟩
 clear F H
 (rw [Bool.eq_iff_iff,Xfy hp0,beq_iff_eq]
  obtain rfl:k=6:=by omega
  unfold Xiu
  rw [← hz6]
  omega)
-- RfF
open Go.Proofs.Tryz
open Go.RowKit
set_option maxRecDepth 100000
theorem Xc0 {p:Prg} {s:By} {t:Int} (h:Nz p s t=true):∃ k:Nat,t=k∧k ∈ Na p s:=by
 unfold Nz at h
 obtain ⟨k,h1,h2⟩:=List.any_eq_true.1 h
 exact ⟨k,(by simpa using h2:(k:Int)=t).symm,h1⟩
theorem Xjl {p:Prg} (h:JH p=0) {t:Nat} {l:List Ins} {i:Nat} {x:Ins} (hl:p.threads[t]? = some l) (hx:l[i]? = some x):x.loc.toNat < 6:=by
 have hv:=valid h
 have hi:=M6 (hv.ins t l hl) hx
 have h1:(x == x.needed)=true:=NO hi 1 (by omega)
 have h1:=eq_of_beq h1
 have h3:(!Qe x.op 2 || decide ((x.loc.toNat:Int) < (p.locs.length:Int)))=true:=NO hi 3 (by omega)
 cases hb:Qe x.op 2 with
 | true=>
   rw [hb] at h3
   have:((x.loc.toNat:Int) < (p.locs.length:Int)):=by simpa using h3
   have:=hv.locs6
   omega
 | false=>
   have:x.loc=x.needed.loc:=by rw [← h1]
   simp only [Ins.needed,hb,cond_false] at this
   rw [this];decide
theorem XhR {p:Prg} {k:Nat} {x:UInt8} (hx:p.init[k]? = some x):put (lay zb 36 k (ofL p.init)) (36+k) x=lay zb 36 (k+1) (ofL p.init):=by
 funext i
 unfold put lay
 by_cases h:i=36+k
 · rw [if_pos h,if_pos (by omega)]
   subst h
   unfold ofL
   rw [show 36+k - 36=k by omega,List.getD_eq_getElem?_getD,hx];rfl
 · rw [if_neg h]
   by_cases h2:36≤i∧i < 36+k
   · rw [if_pos h2,if_pos (by omega)]
   · rw [if_neg h2,if_neg (by omega)]
set_option maxHeartbeats 1000000 in
theorem XbC (cs:List Value) (p:Prg) (w0:World) (hP:ProgAt w0 cs p) (hd:Nw p.cond≤9223372036854775807) :
   Calls Tryz.prog 20 #[.agg cs.toArray] w0 fun e w'=>e = .returned (.tuple #[.agg (bs 142 (EE p)).toArray,.int .i64 (DD p)])∧Below w0.heap.size w0 w':=by
 have H:=Own.start w0 none
 have hP0:=hP
 obtain ⟨LA,LC,IA,IC,TA,TC,h,ccs,hp⟩:=hP
 obtain ⟨c1,c2,c3,c4,c5,rfl⟩:=DM (JT hp.cond)
 have hcs:=hp.cs
 subst hcs;refine JF func20 rfl ntmps20 rfl (fun a F=>?_);refine cSR fun K1 hK1=>?_;refine sBx H F rfl rfl rfl ?_;clear F a H;intro b1 a w F H;refine Mo H N3 F rfl rfl ?_;clear F a H;intro b2 a w F H;refine Xa F rfl (qNK hK1 ?_);clear hK1;clear F a;intro a F;refine JD (fun K2 hK2=>?_);refine cSR fun K3 hK3=>?_
 refine Xw XM rfl ?si F rfl (H.whole 1 rfl) ?_
 case si=>exact Jz Ya
 clear F a;intro a F;refine Xu call19 F rfl (Dj _ p _ (hP0.own H) hd) (gG H ?_);clear F a H;intro a w F H;refine Xg F rfl rfl DR (qNK hK3 ?_);clear hK3;clear F a;intro a F
 refine cIf F rfl (fun h8=>?_) (fun h8=>?_)
 ·
  replace h8:=Ep h8;refine cSR fun K4 hK4=>Xhn (places:=[(0,36),(36,6),(42,96),(138,4)]) N3 XG (by kernel_rfl) F rfl rfl rfl FillB.nil ?_;clear F a;intro a F;refine Xt H 0 XL F rfl rfl rfl ?_;clear H;intro w H;rw [JE] at H;refine Xa F rfl (qNK hK4 ?_);clear hK4;clear F a;intro a F;refine wp_ret ?_;simp only [Exit.then];refine QJ results20 F rfl rfl XG rfl XL H 0 rfl ?_
  exact ⟨by rw [EE,DD,if_neg h8,if_neg h8],H.below⟩
 replace h8:=Er h8
 have hp0:JH p=0:=h8
 have hv:=valid hp0
 have hv6:=hv.locs6
 have hvi:=hv.init
 refine wp_skip (hK2 _ _ (cSR fun K5 hK5=>?_));clear hK2;refine Mo H N3 F rfl rfl ?_;clear F a H;intro b4 a w F H;refine nK hK5 ?_;clear hK5;refine JD (fun K6 hK6=>?_);refine cSR fun K7 hK7=>Xa F rfl (qNK hK7 ?_);clear hK7;clear F a;intro a F;refine wp_block ?_
 refine JN [1,2,4] (fun m ups w=>∃ k:Nat,m=p.init.length - k∧ups=[(5,.int .i64 ((k:Nat):Int))]∧k≤p.init.length∧Own w0 none w [.blk b4 (bs 142 (lay zb 36 k (ofL p.init))) 60,.blk b2 (bs 142 zb) 60,.blk b1 ([.string p.name,.slice LA p.locs.length LC,.slice IA p.init.length IC,.slice TA p.threads.length TC,B8 p.ask]++[c1,c2,c3,c4,c5]) 29]) F (p.init.length) [(5,.int .i64 ((0:Nat):Int))] ?_ ?_
 · (refine ⟨0,rfl,rfl,by omega,?_⟩;rw [show lay zb 36 0 (ofL p.init)=zb by (funext i;unfold lay;rw [if_neg (by omega)])];exact H)
 clear F
 clear H
 intro m ups a w hI F
 obtain ⟨k,rfl,rfl,hk,H⟩:=hI
 refine JD (fun K8 hK8=>?_);refine cSR fun K9 hK9=>Xf F rfl (Xr (f:=2) (k:=2) XM rfl sizeOf23 rfl rfl rfl (Xc isAgg23 rfl (H.cell 2 rfl rfl) (Xx Yt rfl (Xe rfl rfl QF (qNK hK9 ?_)))));clear hK9;clear F a;intro a F
 refine cIf F rfl (fun h14=>?_) (fun h14=>?_)
 ·
  replace h14:=of_decide_eq_true h14
  have hkl:k < p.init.length:=by omega
  obtain ⟨x,hx⟩:∃ x,p.init[k]? = some x:=⟨_,List.getElem?_eq_getElem hkl⟩
  obtain ⟨bx,ox,rfl,hc⟩:=hp.init k [B8 x] (by rw [List.getElem?_map,hx];rfl)
  have hc0:=hc 0 _ rfl
  rw [Nat.add_zero] at hc0;refine wp_skip (hK8 _ _ ?_);clear hK8;refine JD (fun K10 hK10=>?_);refine wp_block ?_;refine JY (Xf F rfl (Xr (f:=2) (k:=2) XM rfl sizeOf23 rfl rfl rfl (Xc isAgg23 rfl (H.cell 2 rfl rfl) (Xh rfl ?_))));clear F a;intro a F
  refine sIx Yt XH F rfl rfl rfl rfl ?_ ?_
  focus (omega)
  clear F a;intro a F;refine sLd XJ F rfl rfl rfl (H.arg hc0) (Xr (f:=1) (k:=36) XG rfl Yg rfl rfl rfl ?_);clear F a;intro a F
  refine MP Yj XH F rfl rfl rfl rfl ?_ ?_
  focus (omega)
  clear F a;intro a F;refine LJ H 0 XH F rfl rfl rfl rfl (by omega) ?_;clear H;intro w H;refine nK hK10 (JY (Xf F rfl ?_));clear hK10;clear F a;intro a F
  refine Xg F rfl rfl (JJ (j:=1) ?_) ?_
  focus omega
  clear F a;intro a F;refine Xa F rfl ?_;clear F a;intro a F;refine J4 ?_
  have e:=XhR hx
  exact ⟨_,by omega,_,⟨k+1,rfl,rfl,by omega,by rw [← e];exact H⟩,F.tt⟩
 replace h14:=of_decide_eq_false h14
 obtain rfl:k=p.init.length:=by omega
 refine wp_exit ?_;refine hK6 _ _ (cSR fun K11 hK11=>Xs XG rfl XL F rfl (H.whole 0 rfl) ?_);clear hK6;clear F a;intro a F;refine Xt H 1 XL F rfl rfl rfl ?_;clear H;intro w H;rw [JE] at H;refine Xa F rfl (qNK hK11 ?_);clear hK11;clear F a;intro a F;refine wp_ret ?_;refine QJ results20 F rfl rfl XG rfl XL H 1 rfl ?_
 exact ⟨by rw [EE,DD,if_pos h8,if_pos h8,Qr,Nat.min_eq_left (by omega)],H.below⟩
def Xjj (p:Prg) (s:By) (t:Int):Bool:=decide (0≤t) && Xf0 p s t.toNat
set_option maxHeartbeats 1000000 in
theorem Xhq (cs:List Value) (p:Prg) (w0:World) (hP:ProgAt w0 cs p) (h4:p.threads.length≤4) (s:By) (t:Int) :
   Calls Tryz.prog 66 #[.agg cs.toArray,.agg (bs 142 s).toArray,.int .i64 t] w0 fun e w'=>e = .returned (.bool (Xjj p s t))∧Below w0.heap.size w0 w':=by
 have H:=Own.start w0 none
 obtain ⟨LA,LC,IA,IC,TA,TC,h,ccs,hp⟩:=hP
 obtain ⟨c1,c2,c3,c4,c5,rfl⟩:=DM (JT hp.cond)
 have hcs:=hp.cs
 subst hcs
 by_cases h0:0≤t
 · obtain ⟨k,rfl⟩:∃ k:Nat,t=k:=⟨t.toNat,by omega⟩
   refine JF func66 rfl ntmps66 rfl (fun a F=>?_);refine cSR fun K1 hK1=>?_;refine sBx H F rfl rfl rfl ?_;clear F a H;intro b3 a w F H;refine Mg H F rfl rfl rfl ?_;clear F a H;intro b4 a w F H;refine Xa F rfl (qNK hK1 ?_);clear hK1;clear F a;intro a F;refine JD (fun K2 hK2=>?_);refine Xi H ?_;replace H:=H.drew;refine Xj 0 rfl F rfl (fun w=>rMv F rfl) H qq0 (Xm 1 rfl rfl (fun a F w=>Q0 F rfl rfl Cb) H qq0 (Xm 2 rfl rfl (fun a F w=>rMv F rfl) H qq0 ?_));clear F a;intro a F
   refine F.split 9 rfl ?_ ?_ <;> (clear F;intro h9 F)
   ·
    replace h9:=of_decide_eq_true h9;refine Xj 3 rfl F rfl (fun w=>rMv F rfl) H qq0 (Xm 4 rfl rfl (fun a F w=>rFa (f:=3) (k:=3) XM rfl Yo rfl rfl F rfl) H qq0 (Xl 5 rfl rfl rfl (fun a F w H=>rLd Yp F rfl (H.cell 1 rfl rfl)) H qq0 (Xl 6 rfl rfl rfl (fun a F w H=>Bw X7 F rfl) H qq0 (Xm 7 rfl rfl (fun a F w=>Q0 F rfl rfl QF) H qq0 (Xm 8 rfl rfl (fun a F w=>rPk F rfl rfl) H qq0 (Xm 9 rfl rfl (fun a F w=>rMv F rfl) H qq0 ?_))))));clear F a;intro a F
    refine F.split 16 rfl ?_ ?_ <;> (clear F;intro h16 F)
    ·
     replace h16:=of_decide_eq_true h16
     have hkl:k < p.threads.length:=by omega
     obtain ⟨l,hl⟩:∃ l,p.threads[k]? = some l:=⟨_,List.getElem?_eq_getElem hkl⟩
     obtain ⟨bT,oT,BT,CT,rfl,hT1,hT2,hT3⟩:=hp.threads k l hl
     refine Xj 10 rfl F rfl (fun w=>rMv F rfl) H qq0 (Xm 11 rfl rfl (fun a F w=>rFa (f:=0) (k:=0) XG rfl Yc rfl rfl F rfl) H qq0 ?_);clear F a;intro a F
     refine Xq (k:=12) (i:=12) rfl F rfl (fun w=>Xhw XW XN F rfl rfl ?_) H (fun _ _ _ h=>h) ?_
     focus (omega)
     clear F a;intro a F;refine Xj 13 rfl F rfl (fun w=>Xct (f:=0) XK rfl XH rfl rfl F rfl) H qq0 (Xl 14 rfl rfl rfl (fun a F w H=>rLd XJ F rfl (H.ce' 0 rfl)) H qq0 (Xm 15 rfl rfl (fun a F w=>rCv XO XT F rfl (QG _)) H qq0 (Xm 16 rfl rfl (fun a F w=>rFa (f:=3) (k:=3) XM rfl Yo rfl rfl F rfl) H qq0 (Xl 17 rfl rfl rfl (fun a F w H=>rLd Yp F rfl (H.cell 1 rfl rfl)) H qq0 (Xm 18 rfl rfl (fun a F w=>rMv F rfl) H qq0 ?_)))));clear F a;intro a F
     refine Xq (k:=19) (i:=19) rfl F rfl (fun w=>rIx X7 YB F rfl rfl ?_) H (fun _ _ _ h=>h) ?_
     focus (omega)
     clear F a;intro a F;refine Xv 20 rfl F rfl rfl (fun w H=>rLd YI F rfl (H.arg hT1)) H qq0 (Xl 21 rfl rfl rfl (fun a F w H=>Bw Yl F rfl) H qq0 (Xm 22 rfl rfl (fun a F w=>Q0 F rfl rfl QF) H qq0 (Xm 23 rfl rfl (fun a F w=>rPk F rfl rfl) H qq0 (Xm 24 rfl rfl (fun a F w=>rAs F rfl) H qq0 ?_))));clear F a;intro a F;refine Xp (k:=25) ?_;refine hK2 _ _ ?_;clear hK2;refine wp_ret ?_;refine JI results66 F rfl ?_
     refine ⟨JZ ?_,H.below⟩
     clear F H
     (rw [Xjj,decide_eq_true h0,Bool.true_and,Int.toNat_natCast,BJ hl,Bool.eq_iff_iff];simp [cut];done)
    replace h16:=of_decide_eq_false h16;refine Xz 10 rfl F rfl H qq0 (XA 11 rfl rfl H qq0 (XA 12 rfl rfl H qq0 (XA 13 rfl rfl H qq0 (XA 14 rfl rfl H qq0 (XA 15 rfl rfl H qq0 (XA 16 rfl rfl H qq0 (XA 17 rfl rfl H qq0 (XA 18 rfl rfl H qq0 (XA 19 rfl rfl H qq0 (XA 20 rfl rfl H qq0 (XA 21 rfl rfl H qq0 (XA 22 rfl rfl H qq0 (Xm 23 rfl rfl (fun a F w=>rPk F rfl rfl) H qq0 (Xm 24 rfl rfl (fun a F w=>rAs F rfl) H qq0 ?_))))))))))))));clear F a;intro a F;refine Xp (k:=25) ?_;refine hK2 _ _ ?_;clear hK2;refine wp_ret ?_;refine JI results66 F rfl ?_
    refine ⟨JZ ?_,H.below⟩
    clear F H
    (rw [Xjj,Int.toNat_natCast,Xf0,List.getElem?_eq_none (by omega)];simp)
   replace h9:=of_decide_eq_false h9;refine Xz 3 rfl F rfl H qq0 (XA 4 rfl rfl H qq0 (XA 5 rfl rfl H qq0 (XA 6 rfl rfl H qq0 (XA 7 rfl rfl H qq0 (Xm 8 rfl rfl (fun a F w=>rPk F rfl rfl) H qq0 (Xm 9 rfl rfl (fun a F w=>rMv F rfl) H qq0 (XA 10 rfl rfl H qq0 (XA 11 rfl rfl H qq0 (XA 12 rfl rfl H qq0 (XA 13 rfl rfl H qq0 (XA 14 rfl rfl H qq0 (XA 15 rfl rfl H qq0 (XA 16 rfl rfl H qq0 (XA 17 rfl rfl H qq0 (XA 18 rfl rfl H qq0 (XA 19 rfl rfl H qq0 (XA 20 rfl rfl H qq0 (XA 21 rfl rfl H qq0 (XA 22 rfl rfl H qq0 (Xm 23 rfl rfl (fun a F w=>rPk F rfl rfl) H qq0 (Xm 24 rfl rfl (fun a F w=>rAs F rfl) H qq0 ?_)))))))))))))))))))));clear F a;intro a F;refine Xp (k:=25) ?_;refine hK2 _ _ ?_;clear hK2;refine wp_ret ?_;refine JI results66 F rfl ?_
   refine ⟨JZ ?_,H.below⟩
   clear F H
   (exfalso;omega)
 · skip
   refine JF func66 rfl ntmps66 rfl (fun a F=>?_);refine cSR fun K1 hK1=>?_;refine sBx H F rfl rfl rfl ?_;clear F a H;intro b3 a w F H;refine Mg H F rfl rfl rfl ?_;clear F a H;intro b4 a w F H;refine Xa F rfl (qNK hK1 ?_);clear hK1;clear F a;intro a F;refine JD (fun K2 hK2=>?_);refine Xi H ?_;replace H:=H.drew;refine Xj 0 rfl F rfl (fun w=>rMv F rfl) H qq0 (Xm 1 rfl rfl (fun a F w=>Q0 F rfl rfl Cb) H qq0 (Xm 2 rfl rfl (fun a F w=>rMv F rfl) H qq0 ?_));clear F a;intro a F
   refine F.split 9 rfl ?_ ?_ <;> (clear F;intro h9 F)
   ·
    replace h9:=of_decide_eq_true h9
    exact absurd h9 h0
   replace h9:=of_decide_eq_false h9;refine Xz 3 rfl F rfl H qq0 (XA 4 rfl rfl H qq0 (XA 5 rfl rfl H qq0 (XA 6 rfl rfl H qq0 (XA 7 rfl rfl H qq0 (Xm 8 rfl rfl (fun a F w=>rPk F rfl rfl) H qq0 (Xm 9 rfl rfl (fun a F w=>rMv F rfl) H qq0 (XA 10 rfl rfl H qq0 (XA 11 rfl rfl H qq0 (XA 12 rfl rfl H qq0 (XA 13 rfl rfl H qq0 (XA 14 rfl rfl H qq0 (XA 15 rfl rfl H qq0 (XA 16 rfl rfl H qq0 (XA 17 rfl rfl H qq0 (XA 18 rfl rfl H qq0 (XA 19 rfl rfl H qq0 (XA 20 rfl rfl H qq0 (XA 21 rfl rfl H qq0 (XA 22 rfl rfl H qq0 (Xm 23 rfl rfl (fun a F w=>rPk F rfl rfl) H qq0 (Xm 24 rfl rfl (fun a F w=>rAs F rfl) H qq0 ?_)))))))))))))))))))));clear F a;intro a F;refine Xp (k:=25) ?_;refine hK2 _ _ ?_;clear hK2;refine wp_ret ?_;refine JI results66 F rfl ?_
   exact ⟨JZ (by rw [Xjj,decide_eq_false h0];rfl),H.below⟩
-- RfG
open Go.Proofs.Tryz
open Go.RowKit
set_option maxRecDepth 100000
theorem Xc2 {p:Prg} {s:By} {t:Int}:Nz p s t=(Qi p s && Xjj p s t):=by
 cases hr:Qi p s with
 | false=>unfold Nz;rw [Na,if_neg (by rw [hr];simp)];rfl
 | true=>
   rw [Bool.true_and,Bool.eq_iff_iff]
   unfold Nz Xjj
   rw [Na,if_pos hr,List.any_eq_true]
   constructor
   · rintro ⟨k,hk,h2⟩
     have e:(k:Int)=t:=by simpa using h2
     subst e
     have:=(List.mem_filter.1 hk).2
     simp [this]
   · intro h
     simp only [Bool.and_eq_true,decide_eq_true_eq] at h
     refine ⟨t.toNat,?_,by simp;omega⟩
     unfold QT
     rw [List.mem_filter]
     refine ⟨?_,h.2⟩
     rw [List.mem_range]
     have:=h.2
     unfold Xf0 at this
     split at this
     · rename_i l hl;exact (List.getElem?_eq_some_iff.1 hl).1
     · cases this
theorem Xf5 {x:Ins} {t:By} (h:JB x=false):Ni x t=t:=by
 have h3:x.op ≠ 3:=fun e=>by simp [JB,e] at h
 have h8:x.op ≠ 8:=fun e=>by simp [JB,e] at h
 have h7:x.op ≠ 7:=fun e=>by simp [JB,e] at h
 rw [Ni,if_neg h3,if_neg h8,if_neg h7]
theorem Xd1 {x:Ins} {s:By} {k:Nat} {T':By} (hL:JB x=false) (hT:∀ i,i < 9→T' i=Xdd x (cut s (k * 9)) (s (36+x.loc.toNat)) i):∀ i,i < 142→lay (put s (36+x.loc.toNat) (Cd x (cut s (k * 9)) (s (36+x.loc.toNat)))) (k * 9) 9 T' i=Lp x s k i:=fun i _=>by
 unfold Lp
 rw [hL]
 simp only [Bool.false_eq_true,if_false]
 unfold lay
 split
 · exact hT _ (by omega)
 · rfl
theorem Xdc {s f:By} {j:Nat} (hj:j < 4) (hf:∀ i,i < 32→f i=if i < j * 8 then Qh s i else 0) :
   ∀ i,i < 32→lay f (j * 8) 8 (cut s (j * 9+1)) i=if i < (j+1) * 8 then Qh s i else 0:=fun i hi=>by
 unfold lay
 by_cases h:j * 8≤i∧i < j * 8+8
 · rw [if_pos h,if_pos (by omega)]
   unfold Qh cut
   rw [if_pos (by omega)]
   congr 1
   omega
 · rw [if_neg h,hf i hi]
   by_cases h2:i < j * 8
   · rw [if_pos h2,if_pos (by omega)]
   · rw [if_neg h2,if_neg (by omega)]
set_option maxHeartbeats 2000000 in
theorem NK (cs:List Value) (p:Prg) (w0:World) (hP:ProgAt w0 cs p) (hd:Nw p.cond≤9223372036854775807) (s:By) (t:Int) :
   Calls Tryz.prog 42 #[.agg cs.toArray,.agg (bs 142 s).toArray,.int .i64 t] w0 fun e w'=>e = .returned (.tuple #[.agg (bs 142 (M3 p s t)).toArray,.int .i64 (Dq p s t)])∧Below w0.heap.size w0 w':=by
 have H:=Own.start w0 none
 have hP0:=hP
 have hmm:=Xc2 (p:=p) (s:=s) (t:=t)
 obtain ⟨LA,LC,IA,IC,TA,TC,h,ccs,hp⟩:=hP
 obtain ⟨c1,c2,c3,c4,c5,rfl⟩:=DM (JT hp.cond)
 have hcs:=hp.cs
 subst hcs;refine JF func42 rfl ntmps42 rfl (fun a F=>?_);refine cSR fun K1 hK1=>?_;refine sBx H F rfl rfl rfl ?_;clear F a H;intro b3 a w F H;refine Mg H F rfl rfl rfl ?_;clear F a H;intro b4 a w F H;refine Mo H N3 F rfl rfl ?_;clear F a H;intro b6 a w F H;refine Xa F rfl (qNK hK1 ?_);clear hK1;clear F a;intro a F;refine JD (fun K2 hK2=>?_);refine cSR fun K3 hK3=>?_
 refine Xw XM rfl ?si F rfl (H.whole 2 rfl) ?_
 case si=>exact Jz Ya
 clear F a;intro a F;refine Xs XG rfl XL F rfl (H.whole 1 rfl) ?_;clear F a;intro a F;refine Xu call65 F rfl (DH _ p _ (hP0.own H) hd s) (gG H ?_);clear F a H;intro a w F H;refine Xav F rfl rfl rfl (Xh rfl ?_);clear F a;intro a F
 refine F.split 16 rfl ?_ ?_ <;> (clear F;intro h16 F)
 ·
  replace h16:=N1 h16;refine XB F (XC (XC (XC (XC (Xy rfl rfl (qNK hK3 ?_))))));clear hK3;clear F a;intro a F;refine MQ F rfl ?_;refine cSR fun K4 hK4=>Xhn (places:=[(0,36),(36,6),(42,96),(138,4)]) N3 XG (by kernel_rfl) F rfl rfl rfl FillB.nil ?_;clear F a;intro a F;refine Xt H 0 XL F rfl rfl rfl ?_;clear H;intro w H;rw [JE] at H;refine Xa F rfl (qNK hK4 ?_);clear hK4;clear F a;intro a F;refine wp_ret ?_;simp only [Exit.then];refine QJ Zm F rfl rfl XG rfl XL H 0 rfl ?_
  exact ⟨by rw [M3,Dq,hmm,h16];rfl,H.below⟩
 replace h16:=N2 h16
 have hr:Qi p s=true:=h16
 have hv:JH p=0:=MZ hr
 have hv4:=(valid hv).thr4
 refine Xw XM rfl ?si F rfl (H.whole 2 rfl) ?_
 case si=>exact Jz Ya
 clear F a;intro a F;refine Xs XG rfl XL F rfl (H.whole 1 rfl) (Xh rfl ?_);clear F a;intro a F;refine Xu call66 F rfl (Xhq _ p _ (hP0.own H) hv4 s t) (gG H ?_);clear F a H;intro a w F H;refine Xav F rfl rfl rfl (Xy rfl rfl (qNK hK3 ?_));clear hK3;clear F a;intro a F
 refine cIf F rfl (fun h22=>?_) (fun h22=>?_)
 ·
  replace h22:=N1 h22;refine cSR fun K5 hK5=>Xhn (places:=[(0,36),(36,6),(42,96),(138,4)]) N3 XG (by kernel_rfl) F rfl rfl rfl FillB.nil ?_;clear F a;intro a F;refine Xt H 0 XL F rfl rfl rfl ?_;clear H;intro w H;rw [JE] at H;refine Xa F rfl (qNK hK5 ?_);clear hK5;clear F a;intro a F;refine wp_ret ?_;simp only [Exit.then];refine QJ Zm F rfl rfl XG rfl XL H 0 rfl ?_
  exact ⟨by rw [M3,Dq,hmm,hr,h22];rfl,H.below⟩
 replace h22:=N2 h22
 have hmay:Xjj p s t=true:=h22
 have hmv:Nz p s t=true:=by rw [hmm,hr,hmay];rfl
 obtain ⟨k,rfl,hkm⟩:=Xc0 hmv
 obtain ⟨l,x,hst⟩:=XdL hv (XbP hkm).2
 have hloc:=Xjl hv hst.hl hst.hx
 have hk4:=hst.t4
 have eM:M3 p s (k:Int)=DT p s k:=by rw [M3,hmv,if_pos rfl,Int.toNat_natCast]
 have eE:Dq p s (k:Int)=0:=by rw [Dq,hmv,if_pos rfl]
 obtain ⟨bT,oT,BT,CT,rfl,hT1,hT2,hT3⟩:=hp.threads k l hst.hl
 have hpcl:(s (k * 9)).toNat < l.length:=hst.lt
 obtain ⟨bI,oI,rfl,hI⟩:=hT2 (s (k * 9)).toNat x.cells (by rw [List.getElem?_map,show l[(s (k * 9)).toNat]? = some x from hst.hx];rfl)
 have hkl:k < p.threads.length:=(List.getElem?_eq_some_iff.1 hst.hl).1
 have eP:DT p s k=Lp x s k:=D0 hst.hl hst.hx
 refine wp_skip (hK2 _ _ ?_);clear hK2;refine JD (fun K6 hK6=>?_);refine Xi H ?_;replace H:=H.drew;refine Xj 0 rfl F rfl (fun w=>rFa (f:=3) (k:=3) XM rfl Yo rfl rfl F rfl) H qq0 (Xl 1 rfl rfl rfl (fun a F w H=>rLd Yp F rfl (H.cell 2 rfl rfl)) H qq0 (Xm 2 rfl rfl (fun a F w=>rMv F rfl) H qq0 ?_));clear F a;intro a F
 refine Xq (k:=3) (i:=3) rfl F rfl (fun w=>rIx X7 YB F rfl rfl ?_) H (fun _ _ _ h=>h) ?_
 focus (omega)
 clear F a;intro a F;refine Xv 4 rfl F rfl rfl (fun w H=>rLd YI F rfl (H.arg hT1)) H qq0 (Xm 5 rfl rfl (fun a F w=>rMv F rfl) H qq0 (Xm 6 rfl rfl (fun a F w=>rFa (f:=0) (k:=0) XG rfl Yc rfl rfl F rfl) H qq0 ?_));clear F a;intro a F
 refine Xq (k:=7) (i:=7) rfl F rfl (fun w=>Xhw XW XN F rfl rfl ?_) H (fun _ _ _ h=>h) ?_
 focus (omega)
 clear F a;intro a F;refine Xj 8 rfl F rfl (fun w=>Xct (f:=0) XK rfl XH rfl rfl F rfl) H qq0 (Xl 9 rfl rfl rfl (fun a F w H=>rLd XJ F rfl (H.ce' 1 rfl)) H qq0 (Xm 10 rfl rfl (fun a F w=>rCv XO XT F rfl (QG _)) H qq0 ?_));clear F a;intro a F
 refine Xq (k:=11) (i:=11) rfl F rfl (fun w=>rIx Yl XP F rfl rfl ?_) H (fun _ _ _ h=>h) ?_
 focus exact hpcl
 clear F a;intro a F
 refine Xk (k:=12) (i:=12) rfl F rfl rfl (fun w H=>rLr XI rfl ?si F rfl (H.argR hI)) H (fun _ _ _ h=>h) ?_
 case si=>exact Jz XP
 clear F a;intro a F;refine Xn (k:=13) (i:=13) rfl F (oAl H Yu F rfl ?_);clear F a H;intro b8 a w F H;refine JR H.tail ?_
 refine Xn (k:=14) (i:=14) rfl F (oSr H 0 ?si F rfl rfl ?s1 rfl rfl ?_)
 case si=>exact Jz XP
 case s1=>rfl
 clear H;intro w H;refine Xo H ?_;refine Xp (k:=15) ?_;refine hK6 _ _ ?_;clear hK6;refine JD (fun K7 hK7=>?_);refine Xi H ?_;replace H:=H.drew
 refine Xk (k:=0) (i:=0) rfl F rfl rfl (fun w H=>rLr XI rfl ?si F rfl (H.whole 0 rfl)) H (fun _ _ _ h=>h) ?_
 case si=>exact Jz XP
 clear F a;intro a F;refine Xj 1 rfl F rfl (fun w=>rMv F rfl) H qq0 (Xm 2 rfl rfl (fun a F w=>rFa (f:=0) (k:=0) XG rfl Yc rfl rfl F rfl) H qq0 ?_);clear F a;intro a F
 refine Xq (k:=3) (i:=3) rfl F rfl (fun w=>Xhw XW XN F rfl rfl ?_) H (fun _ _ _ h=>h) ?_
 focus (omega)
 clear F a;intro a F;refine Xv 4 rfl F rfl rfl (fun w H=>Nt XK rfl XN F rfl (H.ra' 2 _ 9 rfl)) H qq0 ?_;clear F a;intro a F
 refine XaZ F H [2,4,6,8] 10 [true,true,true,true,true,true,true,true,true,true,false,false] (fun rs ups w=>∃ b9,ups=[(44,.agg (bs 9 (Ni x (cut s (k * 9)))).toArray),(45,.bool (JB x)),(9,.pointer (some ⟨b9,0,none⟩))]∧Own w0 none w ((.blk b9 (bs 9 zb) 52) :: rs)) (by repeat (first | exact SubR.nil | (apply SubR.cons;· rfl))) ?_ (fun hJ=>?_)
 rotate_left
 ·
  refine Xdl (k:=5) (i:=5) (j:=9) (by kernel_rfl) F rfl rfl rfl rfl ?_ ?_
  ·
   refine J3 call67 F rfl rfl (CL x (cut s (k * 9)) _) (gG H ?_);clear F a H;intro a w F H;refine JR H ?_;refine Xj 6 rfl F rfl (fun w=>rMv F rfl) H qq0 (Xm 7 rfl rfl (fun a F w=>Mi F rfl rfl) H qq0 (Xm 8 rfl rfl (fun a F w=>Mi F rfl rfl) H qq0 ?_));clear F a;intro a F;refine Xn (k:=9) (i:=9) rfl F (Cj H Xe1 F rfl ?_);clear F a H;intro b9 a w F H;refine JR H.tail ?_
   exact eGo hJ (by kernel_rfl) _ ⟨b9,rfl,H.sel [0,1,2,3,4] rfl rfl⟩ F.tt
  refine Cj H Xe1 F rfl ?_;clear F a H;intro b9 a w F H;refine JR H.tail ?_;refine Xn (k:=6) (i:=5) rfl F (J3 call67 F rfl rfl (CL x (cut s (k * 9)) _) (gG H ?_));clear F a H;intro a w F H;refine JR H.tail ?_;refine Xj 6 rfl F rfl (fun w=>rMv F rfl) H.tail qq0 (Xm 7 rfl rfl (fun a F w=>Mi F rfl rfl) H.tail qq0 (Xm 8 rfl rfl (fun a F w=>Mi F rfl rfl) H.tail qq0 ?_));clear F a;intro a F
  exact eGo hJ (by kernel_rfl) _ ⟨b9,rfl,H.sel [0,1,2,3,4] rfl rfl⟩ F.tt
 clear F H;intro ups a w hI F
 obtain ⟨b9,rfl,H⟩:=hI
 refine Xn (k:=10) (i:=10) rfl F (DV H 0 XN F rfl rfl rfl (by omega) ?_);clear H;intro w H;rw [JE] at H;refine Xo H ?_;refine Xj 11 rfl F rfl (fun w=>rAs F rfl) H qq0 ?_;clear F a;intro a F;refine Xp (k:=12) ?_;refine hK7 _ _ ?_;clear hK7;refine JD (fun K8 hK8=>?_);refine cSR fun K9 hK9=>Xf F rfl (Cc rfl rfl rfl (qNK hK9 ?_));clear hK9;clear F a;intro a F
 refine cIf F rfl (fun h47=>?_) (fun h47=>?_)
 ·
  replace h47:=N1 h47
  have hL:JB x=false:=h47
  rw [Xf5 hL] at H;refine cSR fun K10 hK10=>Xb (f:=2) (k:=2) XI rfl XH rfl rfl F rfl (Xc XJ rfl (H.cell 1 rfl rfl) (Xr (f:=1) (k:=36) XG rfl Yg rfl rfl rfl ?_));clear F a;intro a F
  refine MP Yj XH F rfl rfl rfl rfl ?_ ?_
  focus (omega)
  clear F a;intro a F;refine sLd XJ F rfl rfl rfl (H.ce' 3 rfl) (Xd rfl (qNK hK10 ?_));clear hK10;clear F a;intro a F;refine JD (fun K11 hK11=>?_);refine Xi H ?_;replace H:=H.drew;refine Xj 0 rfl F rfl (fun w=>rFa (f:=2) (k:=2) XI rfl XH rfl rfl F rfl) H qq0 (Xl 1 rfl rfl rfl (fun a F w H=>rLd XJ F rfl (H.cell 1 rfl rfl)) H qq0 ?_);clear F a;intro a F
  refine Xk (k:=2) (i:=2) rfl F rfl rfl (fun w H=>rLr XI rfl ?si F rfl (H.whole 1 rfl)) H (fun _ _ _ h=>h) ?_
  case si=>exact Jz XP
  clear F a;intro a F;refine Xj 3 rfl F rfl (fun w=>rFa (f:=1) (k:=1) XK rfl X1 rfl rfl F rfl) H qq0 (Xl 4 rfl rfl rfl (fun a F w H=>Nt X9 rfl X1 F rfl (H.ra' 0 _ 8 rfl)) H qq0 (Xm 5 rfl rfl (fun a F w=>rMv F rfl) H qq0 (Xm 7 rfl rfl (fun a F w=>rFa (f:=1) (k:=36) XG rfl Yg rfl rfl F rfl) H qq0 ?_)));clear F a;intro a F;refine Xn (k:=7) (i:=6) rfl F (J3 call68 F rfl rfl (Xhu x (cut s (k * 9)) _ _) (gG H ?_));clear F a H;intro a w F H;refine JR H ?_
  refine Xq (k:=8) (i:=8) rfl F rfl (fun w=>XiA Yj XH F rfl rfl ?_) H (fun _ _ _ h=>h) ?_
  focus (omega)
  clear F a;intro a F;refine Xn (k:=9) (i:=9) rfl F (XjP H 3 XH F rfl rfl rfl (by omega) ?_);clear H;intro w H;refine Xo H ?_;refine Xp (k:=10) ?_;refine hK11 _ _ ?_;clear hK11;refine JD (fun K12 hK12=>?_);refine cSR fun K13 hK13=>Xb (f:=0) (k:=0) XI rfl XH rfl rfl F rfl (Xc XJ rfl (H.cell 1 rfl rfl) (Xe rfl rfl (Xba (y:=2)) (qNK hK13 ?_)));clear hK13;clear F a;intro a F
  refine cIf F rfl (fun h64=>?_) (fun h64=>?_)
  ·
   replace h64:=Ep h64;refine JY (Xb (f:=1) (k:=1) XK rfl X1 rfl rfl F rfl (Nu X9 rfl X1 rfl rfl rfl (H.ra' 0 _ 8 rfl) (Xr (f:=1) (k:=1) XI rfl XH rfl rfl rfl (Xc XJ rfl (H.cell 1 rfl rfl) (Xh rfl ?_)))));clear F a;intro a F;refine Xu call40 F rfl (EH (cut (cut s (k * 9)) 1) x.dst _ _) (gG H ?_);clear F a H;intro a w F H;refine Xb (f:=1) (k:=1) XK rfl X1 rfl rfl F rfl ?_;clear F a;intro a F;refine Xt H 0 X1 F rfl rfl rfl ?_;clear H;intro w H;refine nK hK12 (JY (Xb (f:=0) (k:=0) XK rfl XH rfl rfl F rfl (Xc XJ rfl (H.ce' 0 rfl) (Xe rfl rfl (ND (y:=1)) (Xr (f:=0) (k:=0) XK rfl XH rfl rfl rfl ?_)))));clear hK12;clear F a;intro a F;refine LJ H 0 XH F rfl rfl rfl rfl (by omega) ?_;clear H;intro w H;refine nK hK8 (cSR fun K14 hK14=>Xf F rfl (Nu XK rfl XN rfl rfl rfl (H.whole 0 rfl) (Xr (f:=0) (k:=0) XG rfl Yc rfl rfl rfl ?_)));clear hK8;clear F a;intro a F
   refine Ed XW XN F rfl rfl rfl rfl ?_ ?_
   focus (omega)
   clear F a;intro a F;refine Xt H 3 XN F rfl rfl rfl ?_;clear H;intro w H;refine nK hK14 (cSR fun K15 hK15=>Xs XG rfl XL F rfl (H.whole 3 rfl) ?_);clear hK14;clear F a;intro a F;refine Xt H 2 XL F rfl rfl rfl ?_;clear H;intro w H;rw [JE] at H;refine Xa F rfl (qNK hK15 ?_);clear hK15;clear F a;intro a F;refine wp_ret ?_;refine QJ Zm F rfl rfl XG rfl XL H 2 rfl ?_
   (refine ⟨?_,H.below⟩
    clear F H
    rw [eM,eE,eP];refine Lo (Xd1 hL fun i hi=>?_);rw [Xdd,if_neg h64]
    have hl:=XaP (t:=cut s (k * 9)) (dst:=x.dst) (v:=s (36+x.loc.toNat))
    by_cases h0:i=0
    · subst h0
      simp [put,lay]
    · simp only [put,if_neg h0]
      exact hl i hi)
  replace h64:=Er h64;refine wp_skip (hK12 _ _ (JY (Xb (f:=0) (k:=0) XK rfl XH rfl rfl F rfl (Xc XJ rfl (H.ce' 0 rfl) (Xe rfl rfl (ND (y:=1)) (Xr (f:=0) (k:=0) XK rfl XH rfl rfl rfl ?_))))));clear hK12;clear F a;intro a F;refine LJ H 0 XH F rfl rfl rfl rfl (by omega) ?_;clear H;intro w H;refine nK hK8 (cSR fun K16 hK16=>Xf F rfl (Nu XK rfl XN rfl rfl rfl (H.whole 0 rfl) (Xr (f:=0) (k:=0) XG rfl Yc rfl rfl rfl ?_)));clear hK8;clear F a;intro a F
  refine Ed XW XN F rfl rfl rfl rfl ?_ ?_
  focus (omega)
  clear F a;intro a F;refine Xt H 3 XN F rfl rfl rfl ?_;clear H;intro w H;refine nK hK16 (cSR fun K17 hK17=>Xs XG rfl XL F rfl (H.whole 3 rfl) ?_);clear hK16;clear F a;intro a F;refine Xt H 2 XL F rfl rfl rfl ?_;clear H;intro w H;rw [JE] at H;refine Xa F rfl (qNK hK17 ?_);clear hK17;clear F a;intro a F;refine wp_ret ?_;refine QJ Zm F rfl rfl XG rfl XL H 2 rfl ?_
  (refine ⟨?_,H.below⟩
   clear F H
   rw [eM,eE,eP];refine Lo (Xd1 hL fun i hi=>?_)
   rw [Xdd,if_pos h64])
 replace h47:=N2 h47;refine wp_skip (hK8 _ _ (cSR fun K18 hK18=>Xf F rfl (Nu XK rfl XN rfl rfl rfl (H.whole 0 rfl) (Xr (f:=0) (k:=0) XG rfl Yc rfl rfl rfl ?_))));clear hK8;clear F a;intro a F
 refine Ed XW XN F rfl rfl rfl rfl ?_ ?_
 focus (omega)
 clear F a;intro a F;refine Xt H 3 XN F rfl rfl rfl ?_;clear H;intro w H;refine nK hK18 (cSR fun K19 hK19=>Xs XG rfl XL F rfl (H.whole 3 rfl) ?_);clear hK18;clear F a;intro a F;refine Xt H 2 XL F rfl rfl rfl ?_;clear H;intro w H;rw [JE] at H;refine Xa F rfl (qNK hK19 ?_);clear hK19;clear F a;intro a F;refine wp_ret ?_;refine QJ Zm F rfl rfl XG rfl XL H 2 rfl ?_
 (refine ⟨?_,H.below⟩
  clear F H
  have hL:JB x=true:=h47
  rw [eM,eE,eP,Lp,if_pos hL])
theorem DI (s:By) (w0:World) :
   Calls Tryz.prog 27 #[.agg (bs 142 s).toArray] w0 fun e w'=>e = .returned (.agg (bs 38 (Qh s)).toArray)∧Below w0.heap.size w0 w':=by
 have H:=Own.start w0 none
 refine JF func27 rfl ntmps27 rfl (fun a F=>?_);refine cSR fun K1 hK1=>?_;refine Mg H F rfl rfl rfl ?_;clear F a H;intro b1 a w F H;refine Mo H Xg8 F rfl rfl ?_;clear F a H;intro b2 a w F H;refine nK hK1 (cSR fun K2 hK2=>?_);clear hK1;refine Mo H Xg8 F rfl rfl ?_;clear F a H;intro b3 a w F H;refine nK hK2 ?_;clear hK2;refine JD (fun K3 hK3=>?_);refine cSR fun K4 hK4=>Xa F rfl (qNK hK4 ?_);clear hK4;clear F a;intro a F;refine wp_block ?_
 refine JN [1,2,3] (fun m ups w=>∃ (j:Nat) (f:By),m=4 - j∧ups=[(4,.int .i64 ((j:Nat):Int))]∧j≤4∧(∀ i,i < 32→f i=if i < j * 8 then Qh s i else 0)∧Own w0 none w [.blk b3 (bs 38 f) 34,.blk b2 (bs 38 zb) 34,.blk b1 (bs 142 s) 60]) F (4) [(4,.int .i64 ((0:Nat):Int))] ?_ ?_
 · exact ⟨0,_,rfl,rfl,by omega,fun i hi=>by rw [if_neg (by omega)];rfl,H⟩
 clear F
 clear H
 intro m ups a w hI F
 obtain ⟨j,f,rfl,rfl,hj,hf,H⟩:=hI
 refine JD (fun K5 hK5=>?_);refine cSR fun K6 hK6=>Xf F rfl (Xe rfl rfl QF (qNK hK6 ?_));clear hK6;clear F a;intro a F
 refine cIf F rfl (fun h6=>?_) (fun h6=>?_)
 ·
  replace h6:=of_decide_eq_true h6;refine wp_skip (hK5 _ _ ?_);clear hK5;refine JD (fun K7 hK7=>?_);refine wp_block ?_;refine JY (Xf F rfl (Xh rfl (Xr (f:=0) (k:=0) XG rfl Yc rfl rfl rfl ?_)));clear F a;intro a F
  refine Ed XW XN F rfl rfl rfl rfl ?_ ?_
  focus (omega)
  clear F a;intro a F;refine Xb (f:=1) (k:=_+1) XK rfl X1 rfl rfl F rfl (Nu X9 rfl X1 rfl rfl rfl (H.ra' 2 _ 8 rfl) (Xr (f:=0) (k:=0) X5 rfl Zi rfl rfl rfl ?_));clear F a;intro a F
  refine Ed YV X1 F rfl rfl rfl rfl ?_ ?_
  focus (omega)
  clear F a;intro a F;refine Xt H 0 X1 F rfl rfl rfl ?_;clear H;intro w H;refine nK hK7 (JY (Xf F rfl ?_));clear hK7;clear F a;intro a F
  refine Xg F rfl rfl (JJ (j:=1) ?_) ?_
  focus omega
  clear F a;intro a F;refine Xa F rfl ?_;clear F a;intro a F;refine J4 ?_
  exact ⟨4 - (j+1),by omega,_,⟨j+1,_,rfl,rfl,by omega,Xdc (by omega) hf,H⟩,F.tt⟩
 replace h6:=of_decide_eq_false h6
 obtain rfl:j=4:=by omega
 refine wp_exit ?_;refine hK3 _ _ (cSR fun K8 hK8=>Xb (f:=1) (k:=36) XG rfl Yg rfl rfl F rfl (Nu Yj rfl Yg rfl rfl rfl (H.ra' 2 _ 6 rfl) (Xr (f:=1) (k:=32) X5 rfl Yg rfl rfl rfl ?_)));clear hK3;clear F a;intro a F;refine Xt H 0 Yg F rfl rfl rfl ?_;clear H;intro w H;refine nK hK8 (cSR fun K9 hK9=>Xs X5 rfl X0 F rfl (H.whole 0 rfl) ?_);clear hK8;clear F a;intro a F;refine Xt H 1 X0 F rfl rfl rfl ?_;clear H;intro w H;rw [JE] at H;refine nK hK9 ?_;clear hK9;refine wp_ret ?_;refine NE results27 F rfl X5 rfl X0 H 1 rfl ?_
 refine ⟨Ch fun i hi=>?_,H.below⟩
 unfold lay
 by_cases h:32≤i∧i < 32+6
 · rw [if_pos h];unfold Qh cut;rw [if_neg (by omega)]
 · rw [if_neg h,hf i (by omega),if_pos (by omega)]
end Go.Proofs.YtcpehikcegoojaaGreatDoor
