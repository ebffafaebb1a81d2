/-
  WALK2. The reference of layer 14: Move. Conditions: the program lies in memory; its condition's depth is a Ml that an int holds.
-/
import Derived.Test.YtcpehikcegoojaaGreatDoorRsD
import Derived.Test.YtcpehikcegoojaaGreatDoorJn4
import Derived.BigQuiet
import Derived.Sort.Grow
set_option linter.unusedSimpArgs false
set_option linter.unusedVariables false
namespace Go.Proofs.YtcpehikcegoojaaGreatDoor
-- RsE
open Go.Proofs.Tryz
open Go.RowKit
set_option maxRecDepth 100000
theorem Xj9 {l:List Pss} {i:Nat} {x y:Pss} (hy:l[i]? = some y):x ∈ l.take (i+1) ↔ x ∈ l.take i∨x=y:=by
 rw [List.take_add_one,hy,List.mem_append]
 simp
theorem BR {m:UInt8} {x:Ins} {s:By} {t:Nat} (ht:t < 4) (h1:x.op=1) (v:UInt8) (hv:v=s (t * 9)+1) (i:Nat):put (lay s (t * 9+1) 8 (Xew (cut (cut s (t * 9)) 1) x.dst (LU s t x.loc))) (t * 9) v i=Ql m x s t i:=by
 unfold Ql
 rw [if_pos h1]
 unfold put
 by_cases h2:i=t * 9
 · subst h2
   rw [if_pos rfl,hv]
   unfold lay Xdd
   rw [if_pos (by omega),Nat.sub_self]
   rfl
 · rw [if_neg h2]
   unfold lay
   by_cases h3:t * 9+1≤i∧i < t * 9+1+8
   · rw [if_pos h3,if_pos (by omega)]
     have hl:=XaP (t:=cut s (t * 9)) (dst:=x.dst) (v:=LU s t x.loc) (i - t * 9) (by omega)
     unfold lay at hl
     rw [if_pos (by omega)] at hl
     unfold Xdd put
     rw [if_neg (by omega),if_neg (by rw [h1];decide),← hl]
     congr 1 <;> omega
   · rw [if_neg h3,if_neg (by omega)]
set_option maxHeartbeats 1000000 in
theorem Bz (cs:List Value) (p:Prg) (w0:World) (hP:ProgAt w0 cs p) (hd:Nw p.cond≤9223372036854775807) (mc:UInt8) (s:By) (x:Pss) :
   Calls Tryz.prog 22 #[.agg cs.toArray,YtcpehikcegoojaaGreatDoor.b8 mc,.agg (bs 142 s).toArray,.agg x.cells.toArray] w0 fun e w'=>e = .returned (.tuple #[.agg (bs 142 (Ll p mc s x)).toArray,.int .i64 (BH p mc s x)])∧Below w0.heap.size w0 w':=by
 obtain ⟨N,hN⟩:∃ n:Nat,n=256:=⟨_,rfl⟩
 have H:=Own.start w0 none
 have hP0:=hP
 obtain ⟨LA,LC,IA,IC,TA,TC,h,ccs,hp⟩:=hP
 obtain ⟨c1,c2,c3,c4,c5,rfl⟩:=DM (JT hp.cond)
 have hcs:=hp.cs
 subst hcs
 rw [show x.cells=[YtcpehikcegoojaaGreatDoor.b8 x.t,.bool x.d,YtcpehikcegoojaaGreatDoor.b8 x.l] from rfl]
 refine JF func22 rfl ntmps22 rfl (fun a F=>?_);refine cSR fun K1 hK1=>?_;refine sBx H F rfl rfl rfl ?_;clear F a H;intro b4 a w F H;refine Mg H F rfl rfl rfl ?_;clear F a H;intro b6 a w F H;refine sBx H F rfl rfl rfl ?_;clear F a H;intro b7 a w F H;refine Mo H N3 F rfl rfl ?_;clear F a H;intro b8 a w F H;refine Xa F rfl (qNK hK1 (qSR fun K2 hK2=>?_));clear hK1;clear F a;intro a F
 refine Xw XM rfl ?si F rfl (H.whole 3 rfl) ?_
 case si=>exact Jz Ya
 clear F a;intro a F;refine Xf F rfl (Nu XG rfl XL rfl rfl rfl (H.whole 2 rfl) ?_);clear F a;intro a F;refine Xu call21 F rfl (Lw _ p _ (hP0.own H) hd mc s) ?_;rintro e w ⟨A,c,rfl,H2⟩;replace H:=H.join H2;clear H2;refine ⟨_,rfl,?_⟩;clear F a;intro a F;refine Xa F rfl (qNK hK2 (qSR fun K3 hK3=>Xd rfl (qNK hK3 ?_)));clear hK2 hK3;clear F a;intro a F;refine JD (fun K4 hK4=>?_);refine cSR fun K5 hK5=>Xa F rfl (qNK hK5 ?_);clear hK5;clear F a;intro a F;refine wp_block ?_
 have hml:=(H.rwsLen 0 rfl).2
 simp only [maxLen] at hml
 refine JN [1,4,6,7,8,10] (fun m ups w=>∃ (i:Nat) (b:Bool),m=(Qj p mc s).length - i∧ups=[(11,.bool b),(12,.int .i64 ((i:Nat):Int))]∧i≤(Qj p mc s).length∧(b=true ↔ x ∈ (Qj p mc s).take i)∧Own w0 none w [.rws 73 3 (.slice A (Qj p mc s).length c) ((Qj p mc s).map Pss.cells),.blk b8 (bs 142 zb) 60,.blk b7 [YtcpehikcegoojaaGreatDoor.b8 x.t,.bool x.d,YtcpehikcegoojaaGreatDoor.b8 x.l] 73,.blk b6 (bs 142 s) 60,.blk b4 ([.string p.name,.slice LA p.locs.length LC,.slice IA p.init.length IC,.slice TA p.threads.length TC,YtcpehikcegoojaaGreatDoor.b8 p.ask]++[c1,c2,c3,c4,c5]) 29]) F ((Qj p mc s).length) [(11,.bool false),(12,.int .i64 ((0:Nat):Int))] ?_ ?_
 · exact ⟨0,false,rfl,rfl,Nat.zero_le _,⟨fun h=>Bool.noConfusion h,fun h=>absurd h (by simp)⟩,H.sel [0,1,2,3,4] rfl rfl⟩
 clear F
 clear H
 intro m ups a w hI F
 obtain ⟨i,b,rfl,rfl,hi,hb,H⟩:=hI
 refine JD (fun K6 hK6=>?_);refine cSR fun K7 hK7=>Xf F rfl (Xh rfl (Xx XX rfl (Xe rfl rfl QF (qNK hK7 ?_))));clear hK7;clear F a;intro a F
 refine cIf F rfl (fun h26=>?_) (fun h26=>?_)
 ·
  replace h26:=of_decide_eq_true h26
  have hil:i < (Qj p mc s).length:=by omega
  obtain ⟨y,hy⟩:∃ y,(Qj p mc s)[i]? = some y:=⟨_,List.getElem?_eq_getElem hil⟩
  obtain ⟨bX,oX,rfl,hX⟩:=H.rowsAt 0 rfl (Xax _) (by decide) i y.cells (by rw [List.getElem?_map,hy];rfl)
  have hin:=Xj9 (x:=x) hy
  refine wp_skip (hK6 _ _ ?_);clear hK6;refine JD (fun K8 hK8=>?_);refine wp_block ?_;refine JD (fun K9 hK9=>?_);refine Xi H ?_;replace H:=H.drew;refine Xj 0 rfl F rfl (fun w=>rMv F rfl) H qq0 (Xm 1 rfl rfl (fun a F w=>rMv F rfl) H qq0 ?_);clear F a;intro a F
  refine Xq (k:=2) (i:=2) rfl F rfl (fun w=>rIx XX Yd F rfl rfl ?_) H (fun _ _ _ h=>h) ?_
  focus exact hil
  clear F a;intro a F
  refine Xk (k:=3) (i:=3) rfl F rfl rfl (fun w H=>rLr X6 rfl ?si F rfl (by obtain ⟨b',o',g1,g2⟩:=H.rowsAt 0 rfl (Xax _) (by decide) i y.cells (by rw [List.getElem?_map,hy];rfl);cases g1;exact g2)) H (fun _ _ _ h=>h) ?_
  case si=>exact Jz Yd
  clear F a;intro a F
  refine Xk (k:=4) (i:=4) rfl F rfl rfl (fun w H=>rLr X6 rfl ?si F rfl (H.whole 2 rfl)) H (fun _ _ _ h=>h) ?_
  case si=>exact Jz Yd
  clear F a;intro a F;refine Xj 5 rfl F rfl (fun w=>Q0 F rfl rfl (bEqX (x:=y) (y:=x))) H qq0 ?_;clear F a;intro a F;refine Xp (k:=6) ?_;refine hK9 _ _ ?_;clear hK9
  refine cIf F rfl (fun h34=>?_) (fun h34=>?_)
  ·
   refine JY (Xa F rfl (qNK hK8 (Ef (Xh rfl ?_))));clear hK8;clear F a;intro a F
   refine Xg F rfl rfl (JJ (j:=1) ?_) ?_
   focus omega
   clear F a;intro a F;refine Xa F rfl ?_;clear F a;intro a F;refine J4 ?_
   (have he:y=x:=of_decide_eq_true h34
    exact ⟨_,by omega,_,⟨i+1,true,rfl,rfl,hil,⟨fun _=>hin.2 (.inr he.symm),fun _=>rfl⟩,H.sel [0,1,2,3,4] rfl rfl⟩,F.tt⟩)
  refine wp_skip (hK8 _ _ (JY (Xf F rfl ?_)));clear hK8;clear F a;intro a F
  refine Xg F rfl rfl (JJ (j:=1) ?_) ?_
  focus omega
  clear F a;intro a F;refine Xa F rfl ?_;clear F a;intro a F;refine J4 ?_
  (have he:¬ y=x:=of_decide_eq_false h34
   exact ⟨_,by omega,_,⟨i+1,b,rfl,rfl,hil,hb.trans ⟨fun hh=>hin.2 (.inl hh),fun hh=>(hin.1 hh).resolve_right fun e=>he e.symm⟩,H.sel [0,1,2,3,4] rfl rfl⟩,F.tt⟩)
 replace h26:=of_decide_eq_false h26
 obtain rfl:i=(Qj p mc s).length:=by omega
 rw [List.take_length] at hb;refine wp_exit ?_;refine hK4 _ _ ?_;clear hK4;refine JD (fun K10 hK10=>?_);refine cSR fun K11 hK11=>Xf F rfl (Cc rfl rfl rfl (qNK hK11 ?_));clear hK11;clear F a;intro a F
 refine cIf F rfl (fun h36=>?_) (fun h36=>?_)
 ·
  replace h36:=N1 h36
  have hnot:¬ x ∈ Qj p mc s:=fun hh=>by rw [hb.2 hh] at h36;cases h36
  refine cSR fun K12 hK12=>Xhn (places:=[(0,36),(36,6),(42,96),(138,4)]) N3 XG (by kernel_rfl) F rfl rfl rfl FillB.nil ?_;clear F a;intro a F;refine Xt H 1 XL F rfl rfl rfl ?_;clear H;intro w H;rw [JE] at H;refine Xa F rfl (qNK hK12 ?_);clear hK12;clear F a;intro a F;refine wp_ret ?_;simp only [Exit.then];refine QJ Y5 F rfl rfl XG rfl XL H 1 rfl ?_
  refine ⟨?_,H.below⟩
  clear F H
  rw [Ll,if_neg hnot,BH,if_neg hnot]
 replace h36:=N2 h36
 have hin:x ∈ Qj p mc s:=hb.1 h36
 obtain ⟨hr,hxm⟩:=CV hin
 have V:=valid hr.prog
 have hV4:=V.thr4
 have hV6:=V.locs6
 have hW:=XiQ hr hxm
 have hS:Ll p mc s x=J5 p mc s x:=if_pos hin
 have hE:BH p mc s x=0:=if_pos hin
 rw [← hS] at hW;refine wp_skip (hK10 _ _ ?_);clear hK10;refine JD (fun K13 hK13=>?_);refine cSR fun K14 hK14=>Xb (f:=1) (k:=1) X6 rfl YQ rfl rfl F rfl (Xc Y6 rfl (H.cell 2 rfl rfl) (qNK hK14 ?_));clear hK14;clear F a;intro a F
 refine cIf F rfl (fun h39=>?_) (fun h39=>?_)
 ·
  obtain ⟨t,g,hD,hxt,hhit,hno,hres⟩:∃ t g,DrainOf p mc s t g∧x.t.toNat=t∧(mc=2∨JU s t g=x.l)∧(∀ i,i < g→¬ mc=2∧¬ JU s t i=x.l)∧Ll p mc s x=Qy s t g:=XeQ hr hW h39
  refine cSR fun K15 hK15=>Xs XG rfl XL F rfl (H.whole 3 rfl) (Xh rfl ?_);clear F a;intro a F
  refine Xw X6 rfl ?si F rfl (H.whole 2 rfl) ?_
  case si=>exact Jz Yd
  clear F a;intro a F;refine Xu call36 F rfl (Xdm x _ hD hxt hhit hno) (gG H ?_);clear F a H;intro a w F H;refine Xt H 1 XL F rfl rfl rfl ?_;clear H;intro w H;rw [JE] at H;refine Xa F rfl (qNK hK15 ?_);clear hK15;clear F a;intro a F;refine wp_ret ?_;simp only [Exit.then];refine QJ Y5 F rfl rfl XG rfl XL H 1 rfl ?_
  refine ⟨?_,H.below⟩
  clear F H
  (rw [hres,hE];done)
 obtain ⟨u,l,ix,hEx,hxu,hres⟩:∃ (u:UInt8) (l:List Ins) (ix:Ins),ExecOf p mc s u.toNat l ix∧x.t=u∧Ll p mc s x=Ql mc ix s u.toNat:=XgB hW h39
 subst hxu
 have hu4:=hEx.t4
 obtain ⟨bT,oT,BT,CT,rfl,hT1,hT2,hT3⟩:=hp.threads x.t.toNat l hEx.hl
 obtain ⟨bI,oI,rfl,hI⟩:=hT2 (s (x.t.toNat * 9)).toNat ix.cells (by rw [List.getElem?_map,show l[(s (x.t.toNat * 9)).toNat]? = some ix from hEx.hx];rfl)
 have hpc:(s (x.t.toNat * 9)).toNat < l.length:=hEx.lt
 have hul:x.t.toNat < p.threads.length:=(List.getElem?_eq_some_iff.1 hEx.hl).1
 have hm12:=(hr.many hu4).1
 have hbl:=NC s x.t.toNat
 refine wp_skip (hK13 _ _ (cSR fun K16 hK16=>Xb (f:=0) (k:=0) X6 rfl XH rfl rfl F rfl (Xc XJ rfl (H.cell 2 rfl rfl) (qCv XO XT rfl rfl rfl (QG _) (Xd rfl (qNK hK16 (qSR fun K17 hK17=>Xh rfl (Xr (f:=0) (k:=0) XG rfl Yc rfl rfl rfl ?_))))))));clear hK13 hK16;clear F a;intro a F
 refine Ed XW XN F rfl rfl rfl rfl ?_ ?_
 focus (omega)
 clear F a;intro a F;refine Xs XK rfl XN F rfl (H.ra' 3 _ 9 rfl) ?_;clear F a;intro a F;refine Mo H Xe1 F rfl rfl ?_;clear F a H;intro b14 a w F H;refine Xt H 0 XN F rfl rfl rfl ?_;clear H;intro w H;rw [JE] at H;refine nK hK17 ?_;clear hK17;refine JD (fun K18 hK18=>?_);refine Xi H ?_;replace H:=H.drew;refine Xj 0 rfl F rfl (fun w=>rFa (f:=3) (k:=3) XM rfl Yo rfl rfl F rfl) H qq0 (Xl 1 rfl rfl rfl (fun a F w H=>rLd Yp F rfl (H.cell 5 rfl rfl)) H qq0 (Xm 2 rfl rfl (fun a F w=>rMv F rfl) H qq0 ?_));clear F a;intro a F
 refine Xq (k:=3) (i:=3) rfl F rfl (fun w=>rIx X7 YB F rfl rfl ?_) H (fun _ _ _ h=>h) ?_
 focus exact hul
 clear F a;intro a F;refine Xv 4 rfl F rfl rfl (fun w H=>rLd YI F rfl (H.arg hT1)) H qq0 (Xm 5 rfl rfl (fun a F w=>rFa (f:=0) (k:=0) XK rfl XH rfl rfl F rfl) H qq0 (Xl 6 rfl rfl rfl (fun a F w H=>rLd XJ F rfl (H.ce' 0 rfl)) H qq0 (Xm 7 rfl rfl (fun a F w=>rCv XO XT F rfl (QG _)) H qq0 ?_)));clear F a;intro a F
 refine Xq (k:=8) (i:=8) rfl F rfl (fun w=>rIx Yl XP F rfl rfl ?_) H (fun _ _ _ h=>h) ?_
 focus exact hpc
 clear F a;intro a F
 refine Xk (k:=9) (i:=9) rfl F rfl rfl (fun w H=>rLr XI rfl ?si F rfl (H.argR hI)) H (fun _ _ _ h=>h) ?_
 case si=>exact Jz XP
 clear F a;intro a F;refine Xn (k:=10) (i:=10) rfl F (oAl H Yu F rfl ?_);clear F a H;intro b15 a w F H;refine JR H.tail ?_
 refine Xn (k:=11) (i:=11) rfl F (oSr H 0 ?si F rfl rfl ?s1 rfl rfl ?_)
 case si=>exact Jz XP
 case s1=>rfl
 clear H;intro w H;refine Xo H ?_;refine Xp (k:=12) ?_;refine hK18 _ _ ?_;clear hK18;refine JD (fun K19 hK19=>?_);refine cSR fun K20 hK20=>Xb (f:=0) (k:=0) XI rfl XH rfl rfl F rfl (Xc XJ rfl (H.cell 0 rfl rfl) (Xe rfl rfl (JL (y:=2)) (Xh rfl ?_)));clear F a;intro a F
 refine F.split 64 rfl ?_ ?_ <;> (clear F;intro h64 F)
 ·
  replace h64:=J1 h64;refine Xf F rfl (Xe rfl rfl (DY (y:=1)) (Xy rfl rfl (qNK hK20 ?_)));clear hK20;clear F a;intro a F
  refine cIf F rfl (fun h67=>?_) (fun h67=>?_)
  ·
   replace h67:=of_decide_eq_true h67
   have ho2:ix.op=2:=h64
   have hm1:¬ mc=1:=fun e=>by rw [e] at h67;exact absurd h67 (by decide)
   have hbu:Qz mc ix:=⟨ho2,hm1⟩
   have hroom:=hEx.room
   have href:=XjI hN hEx hbu
   refine JD (fun K21 hK21=>?_);refine Xi H ?_;replace H:=H.drew;refine Xv 0 rfl F rfl rfl (fun w H=>Nt XG rfl XL F rfl (H.whole 5 rfl)) H qq0 (Xm 1 rfl rfl (fun a F w=>rMv F rfl) H qq0 (Xm 3 rfl rfl (fun a F w=>rFa (f:=2) (k:=2) XI rfl XH rfl rfl F rfl) H qq0 (Xl 4 rfl rfl rfl (fun a F w H=>rLd XJ F rfl (H.cell 0 rfl rfl)) H qq0 (Xm 5 rfl rfl (fun a F w=>rFa (f:=3) (k:=3) XI rfl XR rfl rfl F rfl) H qq0 ?_))));clear F a;intro a F
   refine Xk (k:=5) (i:=6) rfl F rfl rfl (fun w H=>rLr XV rfl ?si F rfl (H.range 0 rfl _ 2)) H (fun _ _ _ h=>h) ?_
   case si=>exact Jz XR
   clear F a;intro a F;refine Xj 7 rfl F rfl (fun w=>rFa (f:=1) (k:=1) XK rfl X1 rfl rfl F rfl) H qq0 (Xl 8 rfl rfl rfl (fun a F w H=>Nt X9 rfl X1 F rfl (H.ra' 1 _ 8 rfl)) H qq0 ?_);clear F a;intro a F;refine Xn (k:=8) (i:=2) rfl F (J3 call34 F rfl rfl (EK s x.t.toNat _ hu4 hm12) ?_);rintro e w ⟨AR,cR,rfl,H2⟩;replace H:=H.join H2;clear H2;refine ⟨_,rfl,?_⟩;clear F a;intro a F;refine JR H.tail ?_;refine Xn (k:=9) (i:=9) rfl F (J3 call37 F rfl rfl (MD ix.aR ix.aN (cut (cut s (x.t.toNat * 9)) 1) _) (gG H ?_));clear F a H;intro a w F H;refine JR H.tail ?_;refine Xv 10 rfl F rfl rfl (fun w H=>rBdB (places:=[(0,1),(1,1)]) Xeg XQ (by kernel_rfl) F rfl (FillB.one rfl rfl (FillB.one rfl rfl FillB.nil))) H.tail qq0 ?_;clear F a;intro a F;refine Xn (k:=11) (i:=11) rfl F (Xkf H X4 XS Y0 rfl F rfl rfl rfl rfl ?_);clear F a H;intro b79 a w F H;refine Xo H ?_
   refine Xn (k:=12) (i:=12) rfl F (Xkg (bytes:=2) H 1 X4 Zh rfl rfl rfl rfl rfl rfl F rfl rfl rfl rfl (H.whole 0 rfl) rfl ?s1 ?s2 ?_)
   case s1=>rfl
   case s2=>(rw [Nc];omega)
   clear F a H;intro A80 c80 a w F H;refine Xo H ?_;refine Xj 13 rfl F rfl (fun w=>rAs F rfl) H qq0 ?_;clear F a;intro a F;refine Xp (k:=14) ?_
   have e2:QN (QU s x.t.toNat)++[bs 2 (put (put zb 0 ix.loc) 1 (NQ ix.aR ix.aN (cut (cut s (x.t.toNat * 9)) 1)))]=QN (QU s x.t.toNat++[(ix.loc,Ns ix (cut s (x.t.toNat * 9)))]):=L8 (QU s x.t.toNat) (ix.loc,Ns ix (cut s (x.t.toNat * 9)))
   rw [e2,Nc] at H F;refine hK21 _ _ ?_;clear hK21
   refine Mx [6,8,13,14] (fun ups w=>∃ (AQ:Option Addr) (cQ:Nat) (q:List (UInt8 × UInt8)),ups=[(16,.slice AQ q.length cQ)]∧q=(if mc=3 then N5 (QU s x.t.toNat++[(ix.loc,Ns ix (cut s (x.t.toNat * 9)))]) N else QU s x.t.toNat++[(ix.loc,Ns ix (cut s (x.t.toNat * 9)))])∧Own w0 none w [.rws 55 2 (.slice AQ q.length cQ) (QN q),.blk b14 (bs 9 (cut s (x.t.toNat * 9))) 52,.blk b8 (bs 142 zb) 60,.blk b6 (bs 142 s) 60]) F ?_ ?_
   ·
    refine cSR fun K22 hK22=>Xf F rfl (Xe rfl rfl (JL (y:=3)) (qNK hK22 ?_));clear hK22;clear F a;intro a F
    refine cIf F rfl (fun h82=>?_) (fun h82=>?_)
    ·
     replace h82:=J1 h82;refine JY (Xf F rfl ?_);clear F a;intro a F;refine Xu call38 F rfl (Xeo A80 c80 (QU s x.t.toNat++[(ix.loc,Ns ix (cut s (x.t.toNat * 9)))]) N hN _ (by rw [List.length_append,List.length_singleton];omega) (H.rowsAt 1 rfl (QA _) (by decide))) ?_;rintro e w ⟨AS,cS,rfl,H2⟩;replace H:=H.join H2;clear H2;refine ⟨_,rfl,?_⟩;clear F a;intro a F;refine Xa F rfl ?_;clear F a;intro a F;refine J4 ?_
     exact ⟨_,⟨AS,cS,_,rfl,(if_pos h82).symm,H.sel [0,4,6,8] rfl rfl⟩,F.tt⟩
    replace h82:=J2 h82;refine wp_skip ?_
    exact ⟨_,⟨A80,c80,_,rfl,(if_neg h82).symm,H.sel [1,3,5,7] rfl rfl⟩,F.tt⟩
   clear F H
   intro ups a w hI F
   obtain ⟨AQ,cQ,q,rfl,hq,H⟩:=hI
   rw [← hq] at href
   have hqn:q.length≤12:=by
    rw [hq,Xg4 hN hEx hbu,NC]
    exact (hEx.right.many hu4).1
   refine cSR fun K23 hK23=>Xs XG rfl XL F rfl (H.whole 3 rfl) (Xh rfl (Xh rfl ?_));clear F a;intro a F;refine Xu call39 F rfl (Be s x.t.toNat AQ cQ q _ hu4 hqn (H.rowsAt 0 rfl (QA _) (by decide))) (gG H ?_);clear F a H;intro a w F H;refine Xt H 3 XL F rfl rfl rfl ?_;clear H;intro w H;rw [JE] at H;refine nK hK23 (cSR fun K24 hK24=>Xf F rfl (Xr (f:=0) (k:=0) XK rfl XH rfl rfl rfl (Xc XJ rfl (H.ce' 1 rfl) (Xe rfl rfl (ND (y:=1)) (Xr (f:=0) (k:=0) XG rfl Yc rfl rfl rfl ?_)))));clear hK23;clear F a;intro a F
   refine Ed XW XN F rfl rfl rfl rfl ?_ ?_
   focus (omega)
   clear F a;intro a F;refine Xe2 (f:=0) XK rfl XH rfl rfl F rfl rfl rfl ?_;clear F a;intro a F;refine LJ H 3 XH F rfl rfl rfl rfl (by omega) ?_;clear H;intro w H;refine nK hK24 (cSR fun K25 hK25=>Xs XG rfl XL F rfl (H.whole 3 rfl) ?_);clear hK24;clear F a;intro a F;refine Xt H 2 XL F rfl rfl rfl ?_;clear H;intro w H;rw [JE] at H;refine Xa F rfl (qNK hK25 ?_);clear hK25;clear F a;intro a F;refine wp_ret ?_;simp only [Exit.then];refine QJ Y5 F rfl rfl XG rfl XL H 2 rfl ?_
   refine ⟨?_,H.below⟩
   clear F H
   (rw [hres,hE]
    exact Lo fun i _=>(congrFun href i).symm ▸ rfl)
  replace h67:=of_decide_eq_false h67;refine wp_skip (hK19 _ _ ?_);clear hK19;refine JD (fun K26 hK26=>?_);refine cSR fun K27 hK27=>Xb (f:=0) (k:=0) XI rfl XH rfl rfl F rfl (Xc XJ rfl (H.cell 0 rfl rfl) (Xe rfl rfl (JL (y:=1)) (qNK hK27 ?_)));clear hK27;clear F a;intro a F
  refine cIf F rfl (fun h99=>?_) (fun h99=>?_)
  ·
   replace h99:=J1 h99
   have ho1:ix.op=1:=h99
   have hld:=hEx.loc6 (by simp [JB,ho1])
   refine JD (fun K28 hK28=>?_);refine Xi H ?_;replace H:=H.drew;refine Xj 0 rfl F rfl (fun w=>rMv F rfl) H qq0 (Xm 1 rfl rfl (fun a F w=>rFa (f:=1) (k:=1) XK rfl X1 rfl rfl F rfl) H qq0 (Xl 2 rfl rfl rfl (fun a F w H=>Nt X9 rfl X1 F rfl (H.ra' 1 _ 8 rfl)) H qq0 (Xm 3 rfl rfl (fun a F w=>rFa (f:=1) (k:=1) XI rfl XH rfl rfl F rfl) H qq0 (Xl 4 rfl rfl rfl (fun a F w H=>rLd XJ F rfl (H.cell 0 rfl rfl)) H qq0 (Xl 5 rfl rfl rfl (fun a F w H=>Nt XG rfl XL F rfl (H.whole 5 rfl)) H qq0 (Xm 6 rfl rfl (fun a F w=>rMv F rfl) H qq0 (Xm 7 rfl rfl (fun a F w=>rFa (f:=2) (k:=2) XI rfl XH rfl rfl F rfl) H qq0 (Xl 8 rfl rfl rfl (fun a F w H=>rLd XJ F rfl (H.cell 0 rfl rfl)) H qq0 (Xm 11 rfl rfl (fun a F w=>rFa (f:=0) (k:=0) XG rfl Yc rfl rfl F rfl) H qq0 ?_)))))))));clear F a;intro a F;refine Xn (k:=10) (i:=9) rfl F (J3 call41 F rfl rfl (CH s x.t.toNat ix.loc _ hu4 hld hm12) (gG H ?_));clear F a H;intro a w F H;refine JR H ?_;refine Xn (k:=11) (i:=10) rfl F (J3 call40 F rfl rfl (EH (cut (cut s (x.t.toNat * 9)) 1) ix.dst _ _) ?_)
   rintro e w ⟨rfl,hb⟩;replace H:=H.grow hb;clear hb;refine ⟨_,rfl,?_⟩;clear F a;intro a F;refine Xo H ?_
   refine Xq (k:=12) (i:=12) rfl F rfl (fun w=>Xhw XW XN F rfl rfl ?_) H (fun _ _ _ h=>h) ?_
   focus (omega)
   clear F a;intro a F;refine Xj 13 rfl F rfl (fun w=>rFa (f:=1) (k:=_+1) XK rfl X1 rfl rfl F rfl) H qq0 ?_;clear F a;intro a F;refine Xn (k:=14) (i:=14) rfl F (DV H 5 X1 F rfl rfl rfl (by omega) ?_);clear H;intro w H;refine Xo H ?_;refine Xp (k:=15) ?_;refine hK28 _ _ (cSR fun K29 hK29=>Xf F rfl (Xr (f:=0) (k:=0) XK rfl XH rfl rfl rfl (Xc XJ rfl (H.ce' 1 rfl) (Xe rfl rfl (ND (y:=1)) (Xr (f:=0) (k:=0) XG rfl Yc rfl rfl rfl ?_)))));clear hK28;clear F a;intro a F
   refine Ed XW XN F rfl rfl rfl rfl ?_ ?_
   focus (omega)
   clear F a;intro a F;refine Xe2 (f:=0) XK rfl XH rfl rfl F rfl rfl rfl ?_;clear F a;intro a F;refine LJ H 5 XH F rfl rfl rfl rfl (by omega) ?_;clear H;intro w H;refine nK hK29 (cSR fun K30 hK30=>Xs XG rfl XL F rfl (H.whole 5 rfl) ?_);clear hK29;clear F a;intro a F;refine Xt H 3 XL F rfl rfl rfl ?_;clear H;intro w H;rw [JE] at H;refine Xa F rfl (qNK hK30 ?_);clear hK30;clear F a;intro a F;refine wp_ret ?_;simp only [Exit.then];refine QJ Y5 F rfl rfl XG rfl XL H 3 rfl ?_
   refine ⟨?_,H.below⟩
   clear F H
   (rw [hres,hE]
    exact Lo fun i _=>BR hu4 ho1 _ rfl i)
  replace h99:=J2 h99;refine wp_skip (hK26 _ _ ?_);clear hK26;refine JD (fun K31 hK31=>?_);refine Xi H ?_;replace H:=H.drew
  refine Xk (k:=0) (i:=0) rfl F rfl rfl (fun w H=>rLr XM rfl ?si F rfl (H.whole 6 rfl)) H (fun _ _ _ h=>h) ?_
  case si=>exact Jz Ya
  clear F a;intro a F;refine Xv 1 rfl F rfl rfl (fun w H=>Nt XG rfl XL F rfl (H.whole 5 rfl)) H qq0 (Xm 3 rfl rfl (fun a F w=>rMv F rfl) H qq0 ?_);clear F a;intro a F
  refine XaZ F H [6,8] 9 [true,true,true,true,true,true,true,true,true,false,false] (fun rs ups w=>∃ b17,ups=[(125,.agg (bs 142 (Qf s)).toArray),(128,.agg (bs 142 (M3 p (Qf s) ((x.t.toNat:Nat):Int))).toArray),(129,.int .i64 (Dq p (Qf s) ((x.t.toNat:Nat):Int))),(17,.pointer (some ⟨b17,0,none⟩))]∧Own w0 none w ((.blk b17 (bs 142 zb) 60) :: rs)) (by repeat (first | exact SubR.nil | (apply SubR.cons;· rfl))) ?_ (fun hJ=>?_)
  rotate_left
  ·
   refine Xdl (k:=3) (i:=2) (j:=8) (by kernel_rfl) F rfl rfl rfl rfl ?_ ?_
   ·
    refine J3 call43 F rfl rfl (Mj s _) (gG H ?_);clear F a H;intro a w F H;refine JR H ?_
    refine Xdl (k:=4) (i:=4) (j:=8) (by kernel_rfl) F rfl rfl rfl rfl ?_ ?_
    ·
     refine J3 call42 F rfl rfl (NK _ p _ (hP0.own H) hd (Qf s) ((x.t.toNat:Nat):Int)) (gG H ?_);clear F a H;intro a w F H;refine JR H ?_;refine Xj 5 rfl F rfl (fun w=>rMv F rfl) H qq0 (Xm 6 rfl rfl (fun a F w=>Mi F rfl rfl) H qq0 (Xm 7 rfl rfl (fun a F w=>Mi F rfl rfl) H qq0 ?_));clear F a;intro a F;refine Xn (k:=8) (i:=8) rfl F (Cj H N3 F rfl ?_);clear F a H;intro b17 a w F H;refine JR H.tail ?_
     exact eGo hJ (by kernel_rfl) _ ⟨b17,rfl,H.sel [0,1,2,3,4,5,6,7] rfl rfl⟩ F.tt
    refine Cj H N3 F rfl ?_;clear F a H;intro b17 a w F H;refine JR H.tail ?_;refine Xn (k:=5) (i:=4) rfl F (J3 call42 F rfl rfl (NK _ p _ (hP0.own H) hd (Qf s) ((x.t.toNat:Nat):Int)) (gG H ?_));clear F a H;intro a w F H;refine JR H.tail ?_;refine Xj 5 rfl F rfl (fun w=>rMv F rfl) H.tail qq0 (Xm 6 rfl rfl (fun a F w=>Mi F rfl rfl) H.tail qq0 (Xm 7 rfl rfl (fun a F w=>Mi F rfl rfl) H.tail qq0 ?_));clear F a;intro a F
    exact eGo hJ (by kernel_rfl) _ ⟨b17,rfl,H.sel [0,1,2,3,4,5,6,7] rfl rfl⟩ F.tt
   refine Cj H N3 F rfl ?_;clear F a H;intro b17 a w F H;refine JR H.tail ?_;refine Xn (k:=4) (i:=2) rfl F (J3 call43 F rfl rfl (Mj s _) (gG H ?_));clear F a H;intro a w F H;refine JR H.tail ?_;refine Xn (k:=5) (i:=4) rfl F (J3 call42 F rfl rfl (NK _ p _ (hP0.own H) hd (Qf s) ((x.t.toNat:Nat):Int)) (gG H ?_));clear F a H;intro a w F H;refine JR H.tail ?_;refine Xj 5 rfl F rfl (fun w=>rMv F rfl) H.tail qq0 (Xm 6 rfl rfl (fun a F w=>Mi F rfl rfl) H.tail qq0 (Xm 7 rfl rfl (fun a F w=>Mi F rfl rfl) H.tail qq0 ?_));clear F a;intro a F
   exact eGo hJ (by kernel_rfl) _ ⟨b17,rfl,H.sel [0,1,2,3,4,5,6,7] rfl rfl⟩ F.tt
  clear F H;intro ups a w hI F
  obtain ⟨b17,rfl,H⟩:=hI
  refine Xn (k:=9) (i:=9) rfl F (DV H 0 XL F rfl rfl rfl (by omega) ?_);clear H;intro w H;rw [JE] at H;refine Xo H ?_;refine Xj 10 rfl F rfl (fun w=>rAs F rfl) H qq0 ?_;clear F a;intro a F;refine Xp (k:=11) ?_;refine hK31 _ _ ?_;clear hK31;refine JD (fun K32 hK32=>?_);refine Xi (H.sel [6] rfl rfl) ?_;replace H:=H.drew;refine Xj 0 rfl F rfl (fun w=>rFa (f:=2) (k:=42) XG rfl Yb rfl rfl F rfl) (H.sel [6] rfl rfl) qq0 (Xl 1 rfl rfl rfl (fun a F w H=>Nt XZ rfl Yb F rfl (H.ra' 0 _ 96 rfl)) (H.sel [6] rfl rfl) qq0 (Xm 2 rfl rfl (fun a F w=>rFa (f:=3) (k:=138) XG rfl Yh rfl rfl F rfl) (H.sel [6] rfl rfl) qq0 (Xl 3 rfl rfl rfl (fun a F w H=>Nt X8 rfl Yh F rfl (H.ra' 0 _ 4 rfl)) (H.sel [6] rfl rfl) qq0 (Xm 4 rfl rfl (fun a F w=>rFa (f:=2) (k:=42) XG rfl Yb rfl rfl F rfl) (H.sel [6] rfl rfl) qq0 ?_))));clear F a;intro a F;refine Xn (k:=5) (i:=5) rfl F (DV H 0 Yb F rfl rfl rfl (by omega) ?_);clear H;intro w H;refine JR (H.sel [6] rfl rfl) ?_;refine Xj 6 rfl F rfl (fun w=>rFa (f:=3) (k:=138) XG rfl Yh rfl rfl F rfl) (H.sel [6] rfl rfl) qq0 ?_;clear F a;intro a F;refine Xn (k:=7) (i:=7) rfl F (DV H 0 Yh F rfl rfl rfl (by omega) ?_)
  clear H;intro w H;refine Xo H ?_;refine Xp (k:=8) ?_;refine hK32 _ _ (cSR fun K33 hK33=>Xs XG rfl XL F rfl (H.whole 0 rfl) ?_);clear hK32;clear F a;intro a F;refine Xt H 4 XL F rfl rfl rfl ?_;clear H;intro w H;rw [JE] at H;refine Xa F rfl (qNK hK33 ?_);clear hK33;clear F a;intro a F;refine wp_ret ?_;refine QJ Y5 F rfl rfl XG rfl XL H 4 rfl ?_
  refine ⟨?_,H.below⟩
  clear F H
  (rw [hres,hE]
   exact Lo fun i hi=>XdY hEx h99 (fun hh=>h67 (by have:=hr.known;simp only [QS,Bool.and_eq_true,decide_eq_true_eq] at this;exact UInt8.lt_iff_toNat_lt.2 (by have e1:(1:UInt8).toNat=1:=rfl;have h2:=UInt8.le_iff_toNat_le.1 this.1;have h3:mc.toNat ≠ 1:=fun e=>hh.2 (UInt8.toNat_inj.1 e);omega))) i hi)
 replace h64:=J2 h64;refine XB F (XC (Xy rfl rfl (qNK hK20 ?_)));clear hK20;clear F a;intro a F;refine LB F rfl ?_;refine wp_skip (hK19 _ _ ?_);clear hK19;refine JD (fun K34 hK34=>?_);refine cSR fun K35 hK35=>Xb (f:=0) (k:=0) XI rfl XH rfl rfl F rfl (Xc XJ rfl (H.cell 0 rfl rfl) (Xe rfl rfl (JL (y:=1)) (qNK hK35 ?_)));clear hK35;clear F a;intro a F
 refine cIf F rfl (fun h99=>?_) (fun h99=>?_)
 ·
  replace h99:=J1 h99
  have ho1:ix.op=1:=h99
  have hld:=hEx.loc6 (by simp [JB,ho1])
  refine JD (fun K36 hK36=>?_);refine Xi H ?_;replace H:=H.drew;refine Xj 0 rfl F rfl (fun w=>rMv F rfl) H qq0 (Xm 1 rfl rfl (fun a F w=>rFa (f:=1) (k:=1) XK rfl X1 rfl rfl F rfl) H qq0 (Xl 2 rfl rfl rfl (fun a F w H=>Nt X9 rfl X1 F rfl (H.ra' 1 _ 8 rfl)) H qq0 (Xm 3 rfl rfl (fun a F w=>rFa (f:=1) (k:=1) XI rfl XH rfl rfl F rfl) H qq0 (Xl 4 rfl rfl rfl (fun a F w H=>rLd XJ F rfl (H.cell 0 rfl rfl)) H qq0 (Xl 5 rfl rfl rfl (fun a F w H=>Nt XG rfl XL F rfl (H.whole 5 rfl)) H qq0 (Xm 6 rfl rfl (fun a F w=>rMv F rfl) H qq0 (Xm 7 rfl rfl (fun a F w=>rFa (f:=2) (k:=2) XI rfl XH rfl rfl F rfl) H qq0 (Xl 8 rfl rfl rfl (fun a F w H=>rLd XJ F rfl (H.cell 0 rfl rfl)) H qq0 (Xm 11 rfl rfl (fun a F w=>rFa (f:=0) (k:=0) XG rfl Yc rfl rfl F rfl) H qq0 ?_)))))))));clear F a;intro a F;refine Xn (k:=10) (i:=9) rfl F (J3 call41 F rfl rfl (CH s x.t.toNat ix.loc _ hu4 hld hm12) (gG H ?_));clear F a H;intro a w F H;refine JR H ?_;refine Xn (k:=11) (i:=10) rfl F (J3 call40 F rfl rfl (EH (cut (cut s (x.t.toNat * 9)) 1) ix.dst _ _) ?_)
  rintro e w ⟨rfl,hb⟩;replace H:=H.grow hb;clear hb;refine ⟨_,rfl,?_⟩;clear F a;intro a F;refine Xo H ?_
  refine Xq (k:=12) (i:=12) rfl F rfl (fun w=>Xhw XW XN F rfl rfl ?_) H (fun _ _ _ h=>h) ?_
  focus (omega)
  clear F a;intro a F;refine Xj 13 rfl F rfl (fun w=>rFa (f:=1) (k:=_+1) XK rfl X1 rfl rfl F rfl) H qq0 ?_;clear F a;intro a F;refine Xn (k:=14) (i:=14) rfl F (DV H 5 X1 F rfl rfl rfl (by omega) ?_);clear H;intro w H;refine Xo H ?_;refine Xp (k:=15) ?_;refine hK36 _ _ (cSR fun K37 hK37=>Xf F rfl (Xr (f:=0) (k:=0) XK rfl XH rfl rfl rfl (Xc XJ rfl (H.ce' 1 rfl) (Xe rfl rfl (ND (y:=1)) (Xr (f:=0) (k:=0) XG rfl Yc rfl rfl rfl ?_)))));clear hK36;clear F a;intro a F
  refine Ed XW XN F rfl rfl rfl rfl ?_ ?_
  focus (omega)
  clear F a;intro a F;refine Xe2 (f:=0) XK rfl XH rfl rfl F rfl rfl rfl ?_;clear F a;intro a F;refine LJ H 5 XH F rfl rfl rfl rfl (by omega) ?_;clear H;intro w H;refine nK hK37 (cSR fun K38 hK38=>Xs XG rfl XL F rfl (H.whole 5 rfl) ?_);clear hK37;clear F a;intro a F;refine Xt H 3 XL F rfl rfl rfl ?_;clear H;intro w H;rw [JE] at H;refine Xa F rfl (qNK hK38 ?_);clear hK38;clear F a;intro a F;refine wp_ret ?_;simp only [Exit.then];refine QJ Y5 F rfl rfl XG rfl XL H 3 rfl ?_
  refine ⟨?_,H.below⟩
  clear F H
  (rw [hres,hE]
   exact Lo fun i _=>BR hu4 ho1 _ rfl i)
 replace h99:=J2 h99;refine wp_skip (hK34 _ _ ?_);clear hK34;refine JD (fun K39 hK39=>?_);refine Xi H ?_;replace H:=H.drew
 refine Xk (k:=0) (i:=0) rfl F rfl rfl (fun w H=>rLr XM rfl ?si F rfl (H.whole 6 rfl)) H (fun _ _ _ h=>h) ?_
 case si=>exact Jz Ya
 clear F a;intro a F;refine Xv 1 rfl F rfl rfl (fun w H=>Nt XG rfl XL F rfl (H.whole 5 rfl)) H qq0 (Xm 3 rfl rfl (fun a F w=>rMv F rfl) H qq0 ?_);clear F a;intro a F
 refine XaZ F H [6,8] 9 [true,true,true,true,true,true,true,true,true,false,false] (fun rs ups w=>∃ b17,ups=[(125,.agg (bs 142 (Qf s)).toArray),(128,.agg (bs 142 (M3 p (Qf s) ((x.t.toNat:Nat):Int))).toArray),(129,.int .i64 (Dq p (Qf s) ((x.t.toNat:Nat):Int))),(17,.pointer (some ⟨b17,0,none⟩))]∧Own w0 none w ((.blk b17 (bs 142 zb) 60) :: rs)) (by repeat (first | exact SubR.nil | (apply SubR.cons;· rfl))) ?_ (fun hJ=>?_)
 rotate_left
 ·
  refine Xdl (k:=3) (i:=2) (j:=8) (by kernel_rfl) F rfl rfl rfl rfl ?_ ?_
  ·
   refine J3 call43 F rfl rfl (Mj s _) (gG H ?_);clear F a H;intro a w F H;refine JR H ?_
   refine Xdl (k:=4) (i:=4) (j:=8) (by kernel_rfl) F rfl rfl rfl rfl ?_ ?_
   ·
    refine J3 call42 F rfl rfl (NK _ p _ (hP0.own H) hd (Qf s) ((x.t.toNat:Nat):Int)) (gG H ?_);clear F a H;intro a w F H;refine JR H ?_;refine Xj 5 rfl F rfl (fun w=>rMv F rfl) H qq0 (Xm 6 rfl rfl (fun a F w=>Mi F rfl rfl) H qq0 (Xm 7 rfl rfl (fun a F w=>Mi F rfl rfl) H qq0 ?_));clear F a;intro a F;refine Xn (k:=8) (i:=8) rfl F (Cj H N3 F rfl ?_);clear F a H;intro b17 a w F H;refine JR H.tail ?_
    exact eGo hJ (by kernel_rfl) _ ⟨b17,rfl,H.sel [0,1,2,3,4,5,6,7] rfl rfl⟩ F.tt
   refine Cj H N3 F rfl ?_;clear F a H;intro b17 a w F H;refine JR H.tail ?_;refine Xn (k:=5) (i:=4) rfl F (J3 call42 F rfl rfl (NK _ p _ (hP0.own H) hd (Qf s) ((x.t.toNat:Nat):Int)) (gG H ?_));clear F a H;intro a w F H;refine JR H.tail ?_;refine Xj 5 rfl F rfl (fun w=>rMv F rfl) H.tail qq0 (Xm 6 rfl rfl (fun a F w=>Mi F rfl rfl) H.tail qq0 (Xm 7 rfl rfl (fun a F w=>Mi F rfl rfl) H.tail qq0 ?_));clear F a;intro a F
   exact eGo hJ (by kernel_rfl) _ ⟨b17,rfl,H.sel [0,1,2,3,4,5,6,7] rfl rfl⟩ F.tt
  refine Cj H N3 F rfl ?_;clear F a H;intro b17 a w F H;refine JR H.tail ?_;refine Xn (k:=4) (i:=2) rfl F (J3 call43 F rfl rfl (Mj s _) (gG H ?_));clear F a H;intro a w F H;refine JR H.tail ?_;refine Xn (k:=5) (i:=4) rfl F (J3 call42 F rfl rfl (NK _ p _ (hP0.own H) hd (Qf s) ((x.t.toNat:Nat):Int)) (gG H ?_));clear F a H;intro a w F H;refine JR H.tail ?_;refine Xj 5 rfl F rfl (fun w=>rMv F rfl) H.tail qq0 (Xm 6 rfl rfl (fun a F w=>Mi F rfl rfl) H.tail qq0 (Xm 7 rfl rfl (fun a F w=>Mi F rfl rfl) H.tail qq0 ?_));clear F a;intro a F
  exact eGo hJ (by kernel_rfl) _ ⟨b17,rfl,H.sel [0,1,2,3,4,5,6,7] rfl rfl⟩ F.tt
 clear F H;intro ups a w hI F
 obtain ⟨b17,rfl,H⟩:=hI
 refine Xn (k:=9) (i:=9) rfl F (DV H 0 XL F rfl rfl rfl (by omega) ?_);clear H;intro w H;rw [JE] at H;refine Xo H ?_;refine Xj 10 rfl F rfl (fun w=>rAs F rfl) H qq0 ?_;clear F a;intro a F;refine Xp (k:=11) ?_;refine hK39 _ _ ?_;clear hK39;refine JD (fun K40 hK40=>?_);refine Xi (H.sel [6] rfl rfl) ?_;replace H:=H.drew;refine Xj 0 rfl F rfl (fun w=>rFa (f:=2) (k:=42) XG rfl Yb rfl rfl F rfl) (H.sel [6] rfl rfl) qq0 (Xl 1 rfl rfl rfl (fun a F w H=>Nt XZ rfl Yb F rfl (H.ra' 0 _ 96 rfl)) (H.sel [6] rfl rfl) qq0 (Xm 2 rfl rfl (fun a F w=>rFa (f:=3) (k:=138) XG rfl Yh rfl rfl F rfl) (H.sel [6] rfl rfl) qq0 (Xl 3 rfl rfl rfl (fun a F w H=>Nt X8 rfl Yh F rfl (H.ra' 0 _ 4 rfl)) (H.sel [6] rfl rfl) qq0 (Xm 4 rfl rfl (fun a F w=>rFa (f:=2) (k:=42) XG rfl Yb rfl rfl F rfl) (H.sel [6] rfl rfl) qq0 ?_))));clear F a;intro a F;refine Xn (k:=5) (i:=5) rfl F (DV H 0 Yb F rfl rfl rfl (by omega) ?_);clear H;intro w H;refine JR (H.sel [6] rfl rfl) ?_;refine Xj 6 rfl F rfl (fun w=>rFa (f:=3) (k:=138) XG rfl Yh rfl rfl F rfl) (H.sel [6] rfl rfl) qq0 ?_;clear F a;intro a F;refine Xn (k:=7) (i:=7) rfl F (DV H 0 Yh F rfl rfl rfl (by omega) ?_)
 clear H;intro w H;refine Xo H ?_;refine Xp (k:=8) ?_;refine hK40 _ _ (cSR fun K41 hK41=>Xs XG rfl XL F rfl (H.whole 0 rfl) ?_);clear hK40;clear F a;intro a F;refine Xt H 4 XL F rfl rfl rfl ?_;clear H;intro w H;rw [JE] at H;refine Xa F rfl (qNK hK41 ?_);clear hK41;clear F a;intro a F;refine wp_ret ?_;refine QJ Y5 F rfl rfl XG rfl XL H 4 rfl ?_
 refine ⟨?_,H.below⟩
 clear F H
 (rw [hres,hE]
  exact Lo fun i hi=>XdY hEx h99 (fun hh=>h64 hh.1) i hi)
-- RnQ
def NM (q:List (Int × Pss)):Nat→Nat→List Pss
 | 0,_=>[]
 | f+1,k=>if k=0 then [] else match q[k]? with
   | some (g,x)=>NM q f g.toNat++[x]
   | none=>[]
def E8 (a:Fnd) (k:Nat):List Pss:=NM a.links k k
theorem Xg0 {p:Prg} {m:UInt8} {most n:Nat} {a:Fnd} (h:FndI p m most n a):∀ (k f:Nat),k≤f→NM a.links f k=NM a.links k k:=by
 intro k
 induction k using Nat.strongRecOn with
 | ind k ih=>
   intro f hf
   rcases Nat.eq_zero_or_pos k with e | e
   · subst e
     cases f with
     | zero=>rfl
     | succ f=>rfl
   · obtain ⟨f,rfl⟩:∃ g,f=g+1:=⟨f - 1,by omega⟩
     obtain ⟨k',rfl⟩:∃ g,k=g+1:=⟨k - 1,by omega⟩
     rw [NM,NM,if_neg (by omega),if_neg (by omega)]
     cases hq:a.links[k'+1]? with
     | none=>rfl
     | some y=>
       obtain ⟨g,x⟩:=y
       obtain ⟨i,rfl,hi,_⟩:=h.link _ _ _ e hq
       show NM a.links f (i:Int).toNat++[x]=NM a.links k' (i:Int).toNat++[x]
       rw [Int.toNat_natCast,ih i hi f (by omega),ih i hi k' (by omega)]
theorem DZ (a:Fnd):E8 a 0=[]:=rfl
theorem EA {p:Prg} {m:UInt8} {most n:Nat} {a:Fnd} (h:FndI p m most n a) {k i:Nat} {x:Pss} (hk:0 < k) (hq:a.links[k]? = some ((i:Int),x)):E8 a k=E8 a i++[x]:=by
 obtain ⟨j,e,hj,_⟩:=h.link k _ _ hk hq
 obtain rfl:i=j:=by omega
 obtain ⟨k',rfl⟩:∃ g,k=g+1:=⟨k - 1,by omega⟩
 unfold E8
 rw [NM,if_neg (by omega),hq]
 show NM a.links k' (i:Int).toNat++[x]=_
 rw [Int.toNat_natCast,Xg0 h i k' (by omega)]
theorem RunM.snoc {p:Prg} {m:UInt8} {y:By} {x:Pss}:∀ {r:List Pss} {s:By},RunM p m s r y→x ∈ JG p m y→RunM p m s (r++[x]) (J5 p m y x)
 | [],s,h,hx=>by
   have h:y=s:=h
   subst h
   exact ⟨hx,rfl⟩
 | z :: r,s,h,hx=>⟨h.1,RunM.snoc h.2 hx⟩
theorem RunM.unsnoc {p:Prg} {m:UInt8} {z:By} {x:Pss}:∀ {r:List Pss} {s:By},RunM p m s (r++[x]) z→∃ y,RunM p m s r y∧x ∈ JG p m y∧z=J5 p m y x
 | [],s,h=>⟨s,rfl,h.1,h.2⟩
 | w :: r,s,h=>by
   obtain ⟨y,h1,h2,h3⟩:=RunM.unsnoc (r:=r) h.2
   exact ⟨y,⟨h.1,h1⟩,h2,h3⟩
theorem XiR {p:Prg} {m:UInt8} {most n:Nat} {a:Fnd} (h:FndI p m most n a):∀ (k:Nat) (s:By),a.list[k]? = some s→RunM p m (Qr p) (E8 a k) s:=by
 intro k
 induction k using Nat.strongRecOn with
 | ind k ih=>
   intro s hs
   rcases Nat.eq_zero_or_pos k with e | e
   · subst e
     rw [h.head] at hs
     cases hs;exact rfl
   · obtain ⟨⟨f,x⟩,hq⟩:∃ f,a.links[k]? = some f:=⟨_,List.getElem?_eq_getElem (by rw [h.len];exact (List.getElem?_eq_some_iff.1 hs).1)⟩
     obtain ⟨i,rfl,hi,_,y,h1,h2,h3⟩:=h.link _ _ _ e hq
     rw [hs] at h3;cases h3
     rw [EA h e hq]
     exact (ih i hi y h1).snoc h2
theorem Xg9 {p:Prg} {m:UInt8} {most n:Nat} {a:Fnd} (h:FndI p m most n a):∀ (j i:Nat),i≤j→j < a.list.length→(E8 a i).length≤(E8 a j).length:=by
 intro j
 induction j using Nat.strongRecOn with
 | ind j ih=>
   intro i hij hj
   rcases Nat.eq_zero_or_pos i with e | e
   · subst e;rw [DZ];exact Nat.zero_le _
   · obtain ⟨⟨f,x⟩,hq⟩:∃ f,a.links[i]? = some f:=⟨_,List.getElem?_eq_getElem (by rw [h.len];omega)⟩
     obtain ⟨⟨g,y⟩,hq2⟩:∃ f,a.links[j]? = some f:=⟨_,List.getElem?_eq_getElem (by rw [h.len];omega)⟩
     obtain ⟨i',rfl,hi,_⟩:=h.link _ _ _ e hq
     obtain ⟨j',rfl,hj2,_⟩:=h.link _ _ _ (by omega) hq2
     have:=h.mono i j _ _ _ _ hij hq hq2
     rw [EA h e hq,EA h (by omega) hq2,List.length_append,List.length_append]
     have:=ih j' hj2 i' (by omega) (by omega)
     simpa using this
theorem Xfa {p:Prg} {m:UInt8} {most:Nat} {a:Fnd} (h:FndI p m most a.list.length a) (r:List Pss):∀ (z:By),RunM p m (Qr p) r z→∃ j,a.list[j]? = some z∧(E8 a j).length≤r.length:=by
 suffices ∀ (n:Nat) (r:List Pss) (z:By),r.length=n→RunM p m (Qr p) r z→∃ j,a.list[j]? = some z∧(E8 a j).length≤r.length from fun z hz=>this _ r z rfl hz
 intro n
 induction n with
 | zero=>
   intro r z hn hz
   obtain rfl:r=[]:=List.eq_nil_of_length_eq_zero hn
   have hz:z=Qr p:=hz
   subst hz
   exact ⟨0,h.head,by rw [DZ];exact Nat.le_refl _⟩
 | succ n ih=>
   intro r z hn hz
   have hne:r ≠ []:=fun e=>by rw [e] at hn;simp at hn
   obtain ⟨r',x,rfl⟩:∃ r' x,r=r'++[x]:=⟨r.dropLast,r.getLast hne,(List.dropLast_concat_getLast hne).symm⟩
   obtain ⟨y,h1,h2,rfl⟩:=hz.unsnoc
   simp only [List.length_append,List.length_singleton] at hn
   obtain ⟨j,hj,hjl⟩:=ih r' y (by omega) h1
   obtain ⟨j2,h3,h4⟩:=h.next j y x (List.getElem?_eq_some_iff.1 hj).1 hj h2
   refine ⟨j2,h3,?_⟩
   rcases Nat.eq_zero_or_pos j2 with e | e
   · subst e;rw [DZ];exact Nat.zero_le _
   · obtain ⟨f,w,hq,hf⟩:=h4 e
     obtain ⟨i,rfl,hi,_⟩:=h.link _ _ _ e hq
     rw [EA h e hq,List.length_append,List.length_append]
     have:=Xg9 h j i (by omega) (List.getElem?_eq_some_iff.1 hj).1
     simp only [List.length_singleton]
     omega
theorem La {p:Prg} {m:UInt8} {most:Nat} {a:Fnd} (h:FndI p m most a.list.length a) {k:Nat}:k ∈ a.ends ↔ ∃ s,a.list[k]? = some s∧JG p m s=[]:=by
 rw [h.ends,List.mem_filter,List.mem_range]
 constructor
 · rintro ⟨hk,h2⟩
   rw [List.getElem?_eq_getElem hk] at h2
   exact ⟨_,List.getElem?_eq_getElem hk,by simpa using h2⟩
 · rintro ⟨s,hs,he⟩
   refine ⟨(List.getElem?_eq_some_iff.1 hs).1,?_⟩
   rw [hs]
   simp [he]
theorem Xdi {p:Prg} {m:UInt8} {most n:Nat} {a:Fnd} (h:FndI p m most n a):a.ends.Pairwise (· < ·):=by
 rw [h.ends]
 exact List.Pairwise.filter _ List.pairwise_lt_range
theorem Xca {p:Prg} {m:UInt8} {most:Nat} {a:Fnd} (h:FndI p m most a.list.length a) {r:List Pss} {z:By} (hz:RunM p m (Qr p) r z) (he:JG p m z=[]):∃ k,k ∈ a.ends∧a.list[k]? = some z∧(E8 a k).length≤r.length:=by
 obtain ⟨j,h1,h2⟩:=Xfa h r z hz
 exact ⟨j,(La h).2 ⟨z,h1,he⟩,h1,h2⟩
theorem Xjt {p:Prg} {m:UInt8} {most:Nat} {a:Fnd} (h:FndI p m most a.list.length a) {k:Nat} (hk:k ∈ a.ends):∃ z,a.list[k]? = some z∧RunM p m (Qr p) (E8 a k) z∧JG p m z=[]:=by
 obtain ⟨z,h1,h2⟩:=(La h).1 hk
 exact ⟨z,h1,XiR h k z h1,h2⟩
theorem Xh3 {p:Prg} {m:UInt8} {most:Nat} {a:Fnd} (h:FndI p m most a.list.length a):a.ends ≠ []:=by
 have hr:RightM p m (Qr p):=(h.fine _ (List.mem_of_getElem? h.head)).r
 obtain ⟨r,z,_,h2,h3⟩:=DE [] (nu p (Qr p)) (Qr p) [] hr (Nat.le_refl _)
 obtain ⟨k,hk,_⟩:=Xca h h2 h3
 exact fun e=>by rw [e] at hk;cases hk
theorem Ls {p:Prg} {m:UInt8} {most k:Nat} {s:By}:∀ (r:List Pss) (l:List By) (q:List (Int × Pss)) {l':List By} {q':List (Int × Pss)},Qd p m most k s r l q=some (l',q')→l.length≤l'.length
 | [],l,q,l',q',h=>by simp only [Qd,Option.some.injEq,Prod.mk.injEq] at h;rw [h.1];exact Nat.le_refl _
 | x :: r,l,q,l',q',h=>by
   rw [Qd] at h
   split at h
   · exact Ls r l q h
   · split at h
     · cases h
     · have:=Ls r _ _ h
       simp only [List.length_append,List.length_singleton] at this
       omega
theorem Bh {p:Prg} {m:UInt8} {A B k:Nat} {s:By}:∀ (r:List Pss) (l:List By) (q:List (Int × Pss)) {l':List By} {q':List (Int × Pss)},Qd p m A k s r l q=some (l',q')→l.length≤B →
   (l'.length≤B→Qd p m B k s r l q=some (l',q'))∧(B < l'.length→Qd p m B k s r l q=none)
 | [],l,q,l',q',h,hB=>by
   have h2:=h
   simp only [Qd,Option.some.injEq,Prod.mk.injEq] at h2
   exact ⟨fun _=>h,fun hh=>by rw [← h2.1] at hh;omega⟩
 | x :: r,l,q,l',q',h,hB=>by
   rw [Qd] at h ⊢
   by_cases hc:Xbi l (J5 p m s x)=true
   · rw [if_pos hc] at h ⊢
     exact Bh r l q h hB
   · rw [if_neg hc] at h ⊢
     by_cases hA:A≤l.length
     · rw [if_pos hA] at h;cases h
     · rw [if_neg hA] at h
       have hl:=Ls r _ _ h
       simp only [List.length_append,List.length_singleton] at hl
       by_cases hB2:B≤l.length
       · rw [if_pos hB2]
         exact ⟨fun hh=>absurd hh (by omega),fun _=>rfl⟩
       · rw [if_neg hB2]
         exact Bh r _ _ h (by simp;omega)
theorem Dh {p:Prg} {m:UInt8} {A:Nat}:∀ (f k:Nat) (a b:Fnd),Qa p m A f k a=some b→a.list.length≤b.list.length
 | 0,k,a,b,h=>by simp only [Qa,Option.some.injEq] at h;rw [h];exact Nat.le_refl _
 | f+1,k,a,b,h=>by
   rw [Qa] at h
   cases hk:a.list[k]? with
   | none=>rw [hk] at h;simp only [Option.some.injEq] at h;rw [h];exact Nat.le_refl _
   | some s=>
     rw [hk] at h
     cases hv:Qd p m A k s (JG p m s) a.list a.links with
     | none=>simp only [hv] at h;cases h
     | some lq=>
       obtain ⟨l,q⟩:=lq
       simp only [hv] at h
       have h1:=Ls _ _ _ hv
       have h2:=Dh f (k+1) _ b h
       exact Nat.le_trans h1 h2
theorem Dg {p:Prg} {m:UInt8} {A B:Nat}:∀ (f k:Nat) (a b:Fnd),Qa p m A f k a=some b→b.list.length≤k+f→a.list.length≤B→k≤a.list.length →
   (b.list.length≤B→∀ f',b.list.length≤k+f'→Qa p m B f' k a=some b)∧(B < b.list.length→∀ f',B≤k+f'→Qa p m B f' k a=none)
 | f,k,a,b,h,hf,hB,hk=>by
   cases hn:a.list[k]? with
   | none=>
     have e:a=b:=by
       cases f with
       | zero=>simpa [Qa] using h
       | succ f=>rw [Qa,hn] at h;simpa using h
     subst e
     refine ⟨fun _ f' _=>?_,fun hh=>absurd hh (by omega)⟩
     cases f' with
     | zero=>rfl
     | succ f'=>rw [Qa,hn]
   | some s=>
     have hkl:=(List.getElem?_eq_some_iff.1 hn).1
     have hab:=Dh f k a b h
     cases f with
     | zero=>omega
     | succ f=>
       rw [Qa,hn] at h
       cases hv:Qd p m A k s (JG p m s) a.list a.links with
       | none=>simp only [hv] at h;cases h
       | some lq=>
         obtain ⟨l,q⟩:=lq
         simp only [hv] at h
         have h1:=Bh _ _ _ hv hB
         have h2:=Ls _ _ _ hv
         have h3:=Dh f (k+1) _ b h
         have h3:l.length≤b.list.length:=h3
         refine ⟨fun hb f' hf'=>?_,fun hb f' hf'=>?_⟩
         · obtain ⟨f',rfl⟩:∃ g,f'=g+1:=⟨f' - 1,by omega⟩
           rw [Qa,hn]
           simp only [h1.1 (by omega)]
           exact (Dg f (k+1) _ b h (by omega) (show l.length≤B by omega) (show k+1≤l.length by omega)).1 hb f' (by omega)
         · obtain ⟨f',rfl⟩:∃ g,f'=g+1:=⟨f' - 1,by omega⟩
           rw [Qa,hn]
           rcases Nat.lt_or_ge B l.length with h4 | h4
           · simp only [h1.2 h4]
           · simp only [h1.1 h4]
             exact (Dg f (k+1) _ b h (by omega) (show l.length≤B from h4) (show k+1≤l.length by omega)).2 hb f' (by omega)
theorem Xby {p:Prg} {m:UInt8} {A B:Nat} {b:Fnd} (h:JH p=0) (hm:QS m=true) (hA:1≤A) (hB:1≤B) (e:QX p m A=some b):(b.list.length≤B→QX p m B=some b)∧(B < b.list.length→QX p m B=none):=by
 have hI:=D4 h hm hA e
 have:=hI.many
 have h1:=Dg (B:=B) (A+1) 0 _ b e (by omega) hB (Nat.zero_le _)
 exact ⟨fun hb=>h1.1 hb (B+1) (by omega),fun hb=>h1.2 hb (B+1) (by omega)⟩
-- RnE
def ofN (n:Nat):By:=fun i=>if i < 142 then UInt8.ofNat (n / 256 ^ i % 256) else 0
theorem XdS (n:Nat):Xin (ofN n):=fun i hi=>if_neg (by omega)
def Cr (p:Prg) (m:UInt8) (most k:Nat) (L:List Nat) (s:By):List Pss→Nat→List (Int × Pss)→Option (Nat × List (Int × Pss))
 | [],n,q=>some (n,q)
 | x :: r,n,q=>if (L.take n).any (fun y=>same 142 (J5 p m s x) (ofN y))=true then Cr p m most k L s r n q
   else if most≤n then none
   else match L[n]? with
     | none=>none
     | some y=>if same 142 (J5 p m s x) (ofN y)=true then Cr p m most k L s r (n+1) (q++[((k:Int),x)]) else none
def Eb (p:Prg) (m:UInt8) (most:Nat) (L:List Nat):Nat→Nat→Nat→List (Int × Pss)→List Nat→Option (Nat × List (Int × Pss) × List Nat)
 | 0,_,n,q,e=>some (n,q,e)
 | f+1,k,n,q,e=>if n≤k then some (n,q,e) else match L[k]? with
   | none=>none
   | some y=>match Cr p m most k L (ofN y) (JG p m (ofN y)) n q with
     | none=>none
     | some (n',q')=>Eb p m most L f (k+1) n' q' (if (JG p m (ofN y)).isEmpty then e++[k] else e)
theorem Bj {p:Prg} {m:UInt8} {most k:Nat} {L:List Nat} {s:By} (hs:Fine p m s):∀ (r:List Pss) (n:Nat) (q:List (Int × Pss)) (n':Nat) (q':List (Int × Pss)),Cr p m most k L s r n q=some (n',q')→n≤L.length→(∀ y ∈ L.take n,Fine p m (ofN y))→(∀ x ∈ r,x ∈ JG p m s) →
   Qd p m most k s r ((L.take n).map ofN) q=some ((L.take n').map ofN,q')∧n'≤L.length∧n≤n'∧(∀ y ∈ L.take n',Fine p m (ofN y))
 | [],n,q,n',q',h,hn,hF,_=>by
   simp only [Cr,Option.some.injEq,Prod.mk.injEq] at h
   obtain ⟨rfl,rfl⟩:=h
   exact ⟨rfl,hn,Nat.le_refl _,hF⟩
 | x :: r,n,q,n',q',h,hn,hF,hr=>by
   have hz:=hs.step (hr x (by simp))
   have ein:Xbi ((L.take n).map ofN) (J5 p m s x)=(L.take n).any (fun y=>same 142 (J5 p m s x) (ofN y)):=by
     unfold Xbi
     rw [List.any_map];rfl
   have elen:((L.take n).map ofN).length=n:=by rw [List.length_map,List.length_take];omega
   rw [Cr] at h;rw [Qd,ein,elen]
   split at h
   · rename_i hc
     rw [if_pos hc]
     exact Bj hs r n q n' q' h hn hF (fun y hy=>hr y (by simp [hy]))
   · rename_i hc
     rw [if_neg hc]
     split at h
     · cases h
     · rename_i hm
       rw [if_neg hm]
       split at h
       · cases h
       · rename_i y hy
         split at h
         · rename_i hsame
           have e:J5 p m s x=ofN y:=(Xap hz.t (XdS y)).1 hsame
           have hnl:=(List.getElem?_eq_some_iff.1 hy).1
           have et:L.take (n+1)=L.take n++[y]:=by rw [List.take_add_one,hy];rfl
           have:=Bj hs r (n+1) _ n' q' h (by omega) (fun w hw=>by
             rw [et] at hw
             rcases List.mem_append.1 hw with h1 | h1
             · exact hF w h1
             · obtain rfl:w=y:=by simpa using h1
               rw [← e];exact hz) (fun y hy=>hr y (by simp [hy]))
           rw [et,List.map_append] at this
           obtain ⟨h1,h2,h3,h4⟩:=this
           refine ⟨?_,h2,by omega,h4⟩
           rw [e];exact h1
         · cases h
theorem CJ {p:Prg} {m:UInt8} {most:Nat} {L:List Nat}:∀ (f k n:Nat) (q:List (Int × Pss)) (e:List Nat) (n':Nat) (q':List (Int × Pss)) (e':List Nat),Eb p m most L f k n q e=some (n',q',e')→n≤L.length→(∀ y ∈ L.take n,Fine p m (ofN y)) →
   Qa p m most f k ⟨(L.take n).map ofN,q,e⟩=some ⟨(L.take n').map ofN,q',e'⟩
 | 0,k,n,q,e,n',q',e',h,hn,hF=>by
   simp only [Eb,Option.some.injEq,Prod.mk.injEq] at h
   obtain ⟨rfl,rfl,rfl⟩:=h
   rfl
 | f+1,k,n,q,e,n',q',e',h,hn,hF=>by
   rw [Eb] at h
   split at h
   · rename_i hk
     simp only [Option.some.injEq,Prod.mk.injEq] at h
     obtain ⟨rfl,rfl,rfl⟩:=h
     rw [Qa,List.getElem?_eq_none (by rw [List.length_map,List.length_take];omega)]
   · rename_i hk
     split at h
     · cases h
     · rename_i y hy
       have hk2:((L.take n).map ofN)[k]? = some (ofN y):=by
         rw [List.getElem?_map,List.getElem?_take_of_lt (by omega),hy];rfl
       have hFy:=hF y (by
         rw [List.mem_iff_getElem?]
         exact ⟨k,by rw [List.getElem?_take_of_lt (by omega),hy]⟩)
       split at h
       · cases h
       · rename_i n2 q2 hv
         obtain ⟨h1,h2,h3,h4⟩:=Bj hFy _ _ _ _ _ hv hn hF (fun x hx=>hx)
         rw [Qa]
         simp only [hk2]
         simp only [h1]
         have:=CJ f (k+1) n2 q2 _ n' q' e' h h2 h4
         rw [← this]
         congr 2
         by_cases hm:JG p m (ofN y)=[]
         · simp [hm]
         · have:(JG p m (ofN y)).isEmpty=false:=by simpa using hm
           simp [hm]
theorem Xiz {p:Prg} {m:UInt8} {most:Nat} {L:List Nat} {y0 n:Nat} {q:List (Int × Pss)} {e:List Nat} (hp:JH p=0) (hm:QS m=true) (hy:L[0]? = some y0) (h0:same 142 (Qr p) (ofN y0)=true) (h:Eb p m most L (most+1) 0 1 [(-1,⟨0,false,0⟩)] []=some (n,q,e)):QX p m most=some ⟨(L.take n).map ofN,q,e⟩:=by
 have hF:=C5 (p:=p) hp hm
 have e0:Qr p=ofN y0:=(Xap hF.t (XdS y0)).1 h0
 have et:L.take 1=[y0]:=by
   cases L with
   | nil=>cases hy
   | cons a r=>cases hy;rfl
 have:=CJ (most+1) 0 1 _ [] n q e h (by have:=(List.getElem?_eq_some_iff.1 hy).1;omega) (fun y hy=>by
   rw [et] at hy
   obtain rfl:y=y0:=by simpa using hy
   rw [← e0];exact hF)
 rw [et] at this
 unfold QX EW
 rw [e0];exact this
-- RnS
def toL (n:Nat) (f:By):List UInt8:=(List.range n).map f
theorem Lt (n:Nat) (f:By):(toL n f).length=n:=by simp [toL]
theorem Bm {n i:Nat} {f:By} (h:i < n):(toL n f)[i]? = some (f i):=by simp [toL,h]
theorem toL_eq {n:Nat} {f g:By}:toL n f=toL n g ↔ same n f g=true:=by
 rw [same_iff]
 constructor
 · intro h i hi
   have:=congrArg (fun l=>l[i]?) h
   simp only [Bm hi] at this
   exact Option.some.inj this
 · intro h
   exact List.map_congr_left fun i hi=>h i (List.mem_range.1 hi)
def Nb:List UInt8→List UInt8→Int
 | [],[]=>0
 | [],_ :: _=>-1
 | _ :: _,[]=>1
 | a :: r,b :: q=>if a < b then -1 else if b < a then 1 else Nb r q
theorem N9:∀ l,Nb l l=0
 | []=>rfl
 | a :: r=>by rw [Nb,if_neg (by simp),if_neg (by simp)];exact N9 r
theorem CW:∀ {l q},Nb l q=0→l=q
 | [],[],_=>rfl
 | [],_ :: _,h=>by simp [Nb] at h
 | _ :: _,[],h=>by simp [Nb] at h
 | a :: r,b :: q,h=>by
   rw [Nb] at h
   split at h
   · cases h
   · split at h
     · cases h
     · rename_i h1 h2
       have:a=b:=UInt8.toNat_inj.1 (by rw [UInt8.lt_iff_toNat_lt] at h1 h2;omega)
       rw [this,CW h]
theorem Ly:∀ l q,Nb q l = - Nb l q
 | [],[]=>rfl
 | [],_ :: _=>rfl
 | _ :: _,[]=>rfl
 | a :: r,b :: q=>by
   rw [Nb,Nb]
   by_cases h1:a < b
   · have h2:¬ b < a:=fun h=>by rw [UInt8.lt_iff_toNat_lt] at h h1;omega
     simp [h1,h2]
   · by_cases h2:b < a
     · simp [h1,h2]
     · simp [h1,h2,Ly r q]
theorem MI:∀ {l q s},Nb l q < 0→Nb q s < 0→Nb l s < 0
 | [],[],_,h,_=>by simp [Nb] at h
 | [],_ :: _,[],_,h=>by simp [Nb] at h
 | [],_ :: _,_ :: _,_,_=>by simp [Nb]
 | _ :: _,[],_,h,_=>by simp [Nb] at h
 | _ :: _,_ :: _,[],_,h=>by simp [Nb] at h
 | a :: r,b :: q,c :: s,h1,h2=>by
   rw [Nb] at h1 h2 ⊢
   simp only [UInt8.lt_iff_toNat_lt] at h1 h2 ⊢
   by_cases e1:a.toNat < b.toNat
   · by_cases e2:b.toNat < c.toNat
     · rw [if_pos (by omega)];decide
     · rw [if_neg e2] at h2
       by_cases e3:c.toNat < b.toNat
       · rw [if_pos e3] at h2;exact absurd h2 (by decide)
       · rw [if_pos (by omega)];decide
   · rw [if_neg e1] at h1
     by_cases e4:b.toNat < a.toNat
     · rw [if_pos e4] at h1;exact absurd h1 (by decide)
     · rw [if_neg e4] at h1
       by_cases e2:b.toNat < c.toNat
       · rw [if_pos (by omega)];decide
       · rw [if_neg e2] at h2
         by_cases e3:c.toNat < b.toNat
         · rw [if_pos e3] at h2;exact absurd h2 (by decide)
         · rw [if_neg e3] at h2
           rw [if_neg (by omega),if_neg (by omega)]
           exact MI h1 h2
theorem Dt:∀ {l q:List UInt8} (a b:List UInt8),l.length=q.length→Nb (l++a) (q++b)=if Nb l q=0 then Nb a b else Nb l q
 | [],[],a,b,_=>rfl
 | [],_ :: _,_,_,h=>by simp at h
 | _ :: _,[],_,_,h=>by simp at h
 | x :: r,y :: q,a,b,h=>by
   rw [List.cons_append,List.cons_append,Nb,Nb]
   by_cases h1:x < y
   · rw [if_pos h1,if_pos h1,if_neg (by decide)]
   · rw [if_neg h1,if_neg h1]
     by_cases h2:y < x
     · rw [if_pos h2,if_pos h2,if_neg (by decide)]
     · rw [if_neg h2,if_neg h2]
       exact Dt a b (by simpa using h)
def MO (l:List (List UInt8)):Prop:=l.Pairwise fun a b=>Nb a b < 0
theorem MY:∀ {l q:List (List UInt8)},MO l→MO q→(∀ x,x ∈ l ↔ x ∈ q)→l=q
 | [],[],_,_,_=>rfl
 | [],b :: q,_,_,h=>by have:=(h b).2 (by simp);cases this
 | a :: r,[],_,_,h=>by have:=(h a).1 (by simp);cases this
 | a :: r,b :: q,hl,hq,h=>by
   have hl':=List.pairwise_cons.1 hl
   have hq':=List.pairwise_cons.1 hq
   have hab:a=b:=by
     apply Decidable.byContradiction
     intro hne
     have h1:a ∈ q:=by
       rcases List.mem_cons.1 ((h a).1 (by simp)) with e | e
       · exact absurd e hne
       · exact e
     have h2:b ∈ r:=by
       rcases List.mem_cons.1 ((h b).2 (by simp)) with e | e
       · exact absurd e.symm hne
       · exact e
     have h3:=hl'.1 b h2
     have h4:=hq'.1 a h1
     have:=Ly a b
     omega
   subst hab
   have:r=q:=MY hl'.2 hq'.2 fun x=>by
     have hx:=h x
     constructor
     · intro hr
       rcases List.mem_cons.1 (hx.1 (by simp [hr])) with e | e
       · subst e
         have:=hl'.1 x hr
         rw [N9] at this;omega
       · exact e
     · intro hr
       rcases List.mem_cons.1 (hx.2 (by simp [hr])) with e | e
       · subst e
         have:=hq'.1 x hr
         rw [N9] at this;omega
       · exact e
   rw [this]
def JQ:List (List UInt8)→List (List UInt8)
 | []=>[]
 | [a]=>[a]
 | a :: b :: r=>if a=b then JQ (b :: r) else a :: JQ (b :: r)
theorem Eo:∀ {l:List (List UInt8)} {x},x ∈ JQ l ↔ x ∈ l
 | [],x=>by simp [JQ]
 | [a],x=>by simp [JQ]
 | a :: b :: r,x=>by
   have ih:=Eo (l:=b :: r) (x:=x)
   rw [JQ]
   split
   · rename_i h
     subst h
     rw [ih];simp
   · rw [List.mem_cons,ih,List.mem_cons (a:=x) (b:=a)]
theorem L2:∀ {l:List (List UInt8)},(l.Pairwise fun a b=>¬ Nb b a < 0)→MO (JQ l)
 | [],_=>List.Pairwise.nil
 | [a],_=>by simp [JQ,MO]
 | a :: b :: r,h=>by
   have h':=List.pairwise_cons.1 h
   have ih:=L2 h'.2
   rw [JQ]
   split
   · exact ih
   · rename_i hne
     refine List.pairwise_cons.2 ⟨fun x hx=>?_,ih⟩
     rw [Eo] at hx
     have h1:=h'.1 b (by simp)
     have hab:Nb a b < 0:=by
       have:=Ly a b
       rcases Int.lt_trichotomy (Nb a b) 0 with h2 | h2 | h2
       · exact h2
       · exact absurd (CW h2) hne
       · omega
     rcases List.mem_cons.1 hx with e | e
     · subst e;exact hab
     · have h2:=(List.pairwise_cons.1 h'.2).1 x e
       have:=Ly b x
       rcases Int.lt_trichotomy (Nb b x) 0 with h3 | h3 | h3
       · exact MI hab h3
       · rw [← CW h3];exact hab
       · omega
def OutM (p:Prg) (m:UInt8) (x:List UInt8):Prop:=∃ r z,RunM p m (Qr p) r z∧JG p m z=[]∧x=toL 38 (Qh z)
def Xda (a:Fnd):List (List UInt8):=a.ends.map fun k=>toL 38 (Qh (a.list.getD k zb))
theorem XaU {p:Prg} {m:UInt8} {most:Nat} {a:Fnd} (h:FndI p m most a.list.length a) {x:List UInt8}:x ∈ Xda a ↔ OutM p m x:=by
 unfold Xda OutM
 rw [List.mem_map]
 constructor
 · rintro ⟨k,hk,rfl⟩
   obtain ⟨z,h1,h2,h3⟩:=Xjt h hk
   exact ⟨_,z,h2,h3,by rw [List.getD_eq_getElem?_getD,h1];rfl⟩
 · rintro ⟨r,z,h1,h2,rfl⟩
   obtain ⟨k,hk,hz,_⟩:=Xca h h1 h2
   exact ⟨k,hk,by rw [List.getD_eq_getElem?_getD,hz];rfl⟩
-- RnO
open Go.RowKit
set_option maxRecDepth 100000
def c8 (x y:UInt8):Int:=if x < y then -1 else if y < x then 1 else 0
theorem XiF (x:UInt8) (w:World):Calls Tryz.prog 128 #[b8 x] w fun e w'=>e = .returned (.bool false)∧w'=w:=by
 unfold YtcpehikcegoojaaGreatDoor.b8
 go_enter Tryz.func128,Tryz.ntmps128
 go_wp2
 go_ret
 exact ⟨by simp,rfl⟩
theorem Xie (x y:UInt8) (w:World):Calls Tryz.prog 105 #[b8 x,b8 y] w fun e w'=>e = .returned (.int .i64 (c8 x y))∧w'=w:=by
 have n1:=XiF x
 have n2:=XiF y
 unfold YtcpehikcegoojaaGreatDoor.b8 at *
 go_enter Tryz.func105,Tryz.ntmps105
 go_wp2_with (go_at_call 128;first | (refine (n1 _).mono ?_;rintro e w' ⟨rfl,rfl⟩) | (refine (n2 _).mono ?_;rintro e w' ⟨rfl,rfl⟩))
 all_goals (go_ret;refine ⟨?_,rfl⟩;unfold c8;simp only [UInt8.lt_iff_toNat_lt];(repeat' split) <;> first | rfl | (exfalso;omega))
theorem XhL {xs ys:List UInt8} {i:Nat} {x y:UInt8} (hx:xs[i]? = some x) (hy:ys[i]? = some y):Nb (xs.drop i) (ys.drop i)=if c8 x y=0 then Nb (xs.drop (i+1)) (ys.drop (i+1)) else c8 x y:=by
 obtain ⟨h1,rfl⟩:=List.getElem?_eq_some_iff.1 hx
 obtain ⟨h2,rfl⟩:=List.getElem?_eq_some_iff.1 hy
 rw [List.drop_eq_getElem_cons h1,List.drop_eq_getElem_cons h2,Nb]
 unfold c8
 by_cases h3:xs[i] < ys[i]
 · rw [if_pos h3,if_pos h3,if_neg (by decide)]
 · rw [if_neg h3,if_neg h3]
   by_cases h4:ys[i] < xs[i]
   · rw [if_pos h4,if_pos h4,if_neg (by decide)]
   · rw [if_neg h4,if_neg h4,if_pos rfl]
theorem Xd9 (b1 o1 C1 b2 o2 C2 n:Nat) (xs ys:List UInt8) (w:World) (hx:xs.length=n) (hy:ys.length=n) (hn:n≤1000) (h1:w.rangeAt b1 o1 (xs.map b8)) (h2:w.rangeAt b2 o2 (ys.map b8)) :
   Calls Tryz.prog 77 #[.slice (some ⟨b1,o1,none⟩) n C1,.slice (some ⟨b2,o2,none⟩) n C2] w fun e w'=>e = .returned (.int .i64 (Nb xs ys))∧w'=w:=by
 go_enter Tryz.func77,Tryz.ntmps77
 go_wp2
 go_loopg [11] n (fun m v wr=>∃ i:Nat,Hid (m=n - i)∧v = .int .i64 i∧i≤n∧wr=w∧Hid (Nb xs ys=Nb (xs.drop i) (ys.drop i)))
 case atStart=>exact ⟨0,Lib.hid rfl,rfl,Nat.zero_le _,rfl,Lib.hid rfl⟩
 case round=>
   obtain ⟨i,hm,rfl,hi,rfl,he⟩:=hrel
   by_cases hlt:i < n
   · obtain ⟨x,ex⟩:∃ x,xs[i]? = some x:=⟨_,List.getElem?_eq_getElem (by omega)⟩
     obtain ⟨y,ey⟩:∃ x,ys[i]? = some x:=⟨_,List.getElem?_eq_getElem (by omega)⟩
     have c1:=h1 i (b8 x) (by rw [List.getElem?_map,ex];rfl)
     have c2:=h2 i (b8 y) (by rw [List.getElem?_map,ey];rfl)
     have c3:wr.cell? ⟨b1,o1+i * 1,none⟩=some (b8 x):=by rw [Nat.mul_one];exact c1
     have c4:wr.cell? ⟨b2,o2+i * 1,none⟩=some (b8 y):=by rw [Nat.mul_one];exact c2
     have st:=XhL ex ey
     have hcon:=Xie x y
     unfold YtcpehikcegoojaaGreatDoor.b8 at c1 c2 c3 c4 hcon
     generalize c8 x y=c at st hcon
     have Hst:=Lib.hid st
     clear st h1 h2 ex ey hx hy
     by_cases h0:c=0
     · subst h0
       go_wp2_with (go_at_call 105;refine (hcon _).mono ?_;rintro e w' ⟨rfl,rfl⟩)
       go_roundg (n - (i+1))
       case measure=>rw [hm.out];omega
       case rel=>exact ⟨i+1,Lib.hid rfl,by simp,by omega,rfl,Lib.hid (he.out.trans (by rw [Hst.out];simp))⟩
     · have Hc:=Lib.hid h0
       go_wp2_with (go_at_call 105;refine (hcon _).mono ?_;rintro e w' ⟨rfl,rfl⟩)
       go_returns
       exact ⟨Q3 (by rw [he.out,Hst.out,if_neg Hc.out]),rfl⟩
   · have hl:Nb (xs.drop i) (ys.drop i)=0:=by rw [List.drop_eq_nil_of_le (by omega),List.drop_eq_nil_of_le (by omega)];rfl
     have Hl:=Lib.hid hl
     clear hl h1 h2 hx hy
     go_wp2
     go_returns
     exact ⟨Q3 (by rw [he.out,Hl.out]),rfl⟩
def Xd8 (o n:Nat) (f:By):List UInt8:=((toL 38 f).drop o).take n
theorem Em {o n:Nat} (f:By) (h:o+n≤38):(Xd8 o n f).length=n:=by
 unfold Xd8
 rw [List.length_take,List.length_drop,Lt];omega
theorem E1 {w:World} {b o n:Nat} {f:By} (h:w.rangeAt b 0 (bs 38 f)) (hn:o+n≤38):w.rangeAt b o ((Xd8 o n f).map b8):=fun j v hv=>by
 have hj:=(List.getElem?_eq_some_iff.1 hv).1
 rw [List.length_map,Em f hn] at hj
 have:=h (o+j) v (by
   rw [List.getElem?_map] at hv
   unfold Xd8 at hv
   rw [List.getElem?_take_of_lt hj,List.getElem?_drop,Bm (by omega)] at hv;rw [Ln];rw [List.getElem?_map,List.getElem?_map,List.getElem?_range (by omega)]
   exact hv)
 rwa [Nat.zero_add] at this
theorem Xf8 {f g:By} {o n:Nat} (h:o+n≤38):Nb ((toL 38 f).drop o) ((toL 38 g).drop o)=if Nb (Xd8 o n f) (Xd8 o n g)=0 then Nb ((toL 38 f).drop (o+n)) ((toL 38 g).drop (o+n)) else Nb (Xd8 o n f) (Xd8 o n g):=by
 have e:∀ f:By,(toL 38 f).drop o=Xd8 o n f++(toL 38 f).drop (o+n):=fun f=>by
   unfold Xd8
   rw [← List.drop_drop,List.take_append_drop]
 rw [e f,e g,Dt _ _ (by rw [Em f h,Em g h])]
theorem BL {w wr:World} (n:Nat) (h:∃ q os,wr=Go.Sort.grow (w.drewN q) os):∃ q os,wr.drewN n=Go.Sort.grow (w.drewN q) os:=by
 obtain ⟨q,os,rfl⟩:=h
 exact ⟨q+n,os,by rw [← World.drewN_drewN];rfl⟩
theorem XhM (f g:By):Nb ((toL 38 f).drop (32+6)) ((toL 38 g).drop (32+6))=0:=by
 rw [List.drop_eq_nil_of_le (by rw [Lt];omega),List.drop_eq_nil_of_le (by rw [Lt];omega)];rfl
theorem XfP (x y:By) (w:World) :
   Calls Tryz.prog 52 #[.agg (bs 38 x).toArray,.agg (bs 38 y).toArray] w fun e w'=>e = .returned (.int .i64 (Nb (toL 38 x) (toL 38 y)))∧∃ q os,w'=Go.Sort.grow (w.drewN q) os:=by
 go_enter Tryz.func52,Tryz.ntmps52
 go_wp2
 go_loopg [7] 4 (fun m v wr=>∃ i:Nat,Hid (m=4 - i)∧v = .int .i64 i∧i≤4∧Hid (Blk wr w.heap.size (bs 38 x) 34∧Blk wr (w.heap.size+1) (bs 38 y) 34∧∃ q os,wr=Go.Sort.grow (w.drewN q) os)∧Hid (Nb (toL 38 x) (toL 38 y)=Nb ((toL 38 x).drop (i * 8)) ((toL 38 y).drop (i * 8))))
 case atStart=>
   refine ⟨0,Lib.hid rfl,rfl,by omega,Lib.hid ⟨(Blk.new _ _ _).alloc _,Blk.newAt (by simp),0,#[.cells (bs 38 x).toArray 34,.cells (bs 38 y).toArray 34],?_⟩,Lib.hid (by simp)⟩
   rw [Go.Sort.alloc_eq_grow,Go.Sort.alloc_eq_grow,Go.Sort.grow_grow]
   rfl
 case round=>
   obtain ⟨i,hm,rfl,hi,hw,he⟩:=hrel
   have r1:=hw.out.1
   have r2:=hw.out.2.1
   by_cases hlt:i < 4
   · have g:i * 8+8≤38:=by omega
     have hcon:=fun q=>Xd9 w.heap.size (i * 8) 8 (w.heap.size+1) (i * 8) 8 8 _ _ (wr.drewN q) (Em x g) (Em y g) (by omega) (E1 (r1.range 0 38) g) (E1 (r2.range 0 38) g)
     have st:=Xf8 (f:=x) (g:=y) g
     generalize Nb (Xd8 (i * 8) 8 x) (Xd8 (i * 8) 8 y)=c at st hcon
     have Hst:=Lib.hid st
     clear st
     by_cases h0:c=0
     · subst h0
       go_wp2
       go_quiet ((go_at_call 77;exact Calls.quiet_of_same (hcon _)))
       go_wp2
       go_roundg (4 - (i+1))
       case measure=>rw [hm.out];omega
       case rel=>exact ⟨i+1,Lib.hid rfl,by simp,by omega,Lib.hid ⟨r1,r2,BL _ hw.out.2.2⟩,Lib.hid (he.out.trans (by rw [Hst.out];simp [Nat.add_mul]))⟩
     · have Hc:=Lib.hid h0
       go_wp2
       go_quiet ((go_at_call 77;exact Calls.quiet_of_same (hcon _)))
       go_wp2
       go_returns
       exact ⟨Q3 (by rw [he.out,Hst.out,if_neg Hc.out]),BL _ hw.out.2.2⟩
   · obtain rfl:i=4:=by omega
     have hcon:=fun q=>Xd9 w.heap.size 32 6 (w.heap.size+1) 32 6 6 _ _ (wr.drewN q) (Em x (by omega)) (Em y (by omega)) (by omega) (E1 (r1.range 0 38) (by omega)) (E1 (r2.range 0 38) (by omega))
     have st:=Xf8 (f:=x) (g:=y) (o:=32) (n:=6) (by omega)
     generalize Nb (Xd8 32 6 x) (Xd8 32 6 y)=c at st hcon
     have Hst:=Lib.hid st
     clear st
     go_wp2
     go_quiet ((go_at_call 77;exact Calls.quiet_of_same (hcon _)))
     go_wp2
     go_returns
     exact ⟨Q3 (by rw [he.out];refine Eq.trans ?_ Hst.out.symm;rw [XhM];split <;> simp_all),BL _ hw.out.2.2⟩
end Go.Proofs.YtcpehikcegoojaaGreatDoor
