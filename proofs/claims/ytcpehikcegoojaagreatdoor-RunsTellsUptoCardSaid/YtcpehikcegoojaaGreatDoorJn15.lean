/-
  WALK2. The law RunsTells: its verdict is true. Conditions: the program lies in memory; its condition's depth is a Ml that an int holds; block 0 holds the table of needs.
-/
import Derived.Test.YtcpehikcegoojaaGreatDoorJn14
import Derived.Test.YtcpehikcegoojaaGreatDoorRows
import Derived.WalkKit
import Derived.ProofKit
import Derived.OpenShut
import Derived.ShutString
import Derived.Below
import Derived.ChangeSame
import Derived.Test.YtcpehikcegoojaaGreatDoorCkK
import Derived.Deep.Slices
import Derived.Deep.Fields
import Derived.SizedLaws
import Derived.WideKeyArgs
import Derived.LaidMore
import Derived.Stop.Joined
import Derived.Test.YtcpehikcegoojaaGreatDoorVcL
import Derived.Test.YtcpehikcegoojaaGreatDoorJn5
set_option linter.unusedSimpArgs false
set_option linter.unusedVariables false
namespace Go.Proofs.YtcpehikcegoojaaGreatDoor
open Go.Proofs.Tryz
section
-- RsK
open Go.RowKit
set_option maxRecDepth 100000
theorem XcI {cs vs:List Value} (h:vs.length=cs.length):Qn cs 0 vs=vs:=by
 have:=De (v:=[]) h
 rwa [List.append_nil,List.append_nil] at this
theorem XcO {w:World} {A:Option Addr} {sz:Nat} {rows:List (List Value)} (h:RowsAt w A sz rows) (n:Nat):RowsAt w A sz (rows.take n):=fun j cs hj=>h j cs (by
 have hl:=(List.getElem?_eq_some_iff.1 hj).1
 rw [List.length_take] at hl;rw [List.getElem?_take_of_lt (by omega)] at hj
 exact hj)
theorem XbV {b:Bool} {v:Int} (h:b=true ↔ v=0):decide (v=0)=b:=by
 cases b
 · exact decide_eq_false fun e=>Bool.noConfusion (h.2 e)
 · exact decide_eq_true (h.1 rfl)
set_option maxHeartbeats 4000000 in
theorem Xaw (cs:List Value) (p:Prg) (w0:World) (hP:ProgAt w0 cs p) (hd:Nw p.cond≤9223372036854775807) (hN:NeedsAt w0) (mc:UInt8) (n:Int) (hlo : -9223372036854775808≤n) (hhi:n≤9223372036854775807) (f:By) :
   Calls Tryz.prog 3 #[.agg cs.toArray,YtcpehikcegoojaaGreatDoor.b8 mc,.int .i64 n,.agg (bs 38 f).toArray] w0 fun e w'=>e = .returned (.bool true)∧Below w0.heap.size w0 w':=by
 have H:=Own.start w0 none
 obtain ⟨d1,d2,d3,d4,d5,d6,d7,d8,d9,d10,rfl⟩:=hP.len10
 have hsm:=Bo p mc n
 refine JF func3 rfl ntmps3 rfl (fun a F=>?_);refine cSR fun K1 hK1=>?_;refine sBx H F rfl rfl rfl ?_;clear F a H;intro b4 a w F H;refine Mg H F rfl rfl rfl ?_;clear F a H;intro b7 a w F H;refine Xa F rfl (qNK hK1 ?_);clear hK1;clear F a;intro a F;refine JD (fun K2 hK2=>?_);refine cSR fun K3 hK3=>Xf F rfl (Xe rfl rfl L3 (qNK hK3 ?_));clear hK3;clear F a;intro a F
 refine cIf F rfl (fun h31=>?_) (fun h31=>?_)
 ·
  replace h31:=of_decide_eq_true h31;refine cSR fun K4 hK4=>?_;refine Xu call4 F rfl (Ev _ (hN.own H)) (gG H ?_);clear F a H;intro a w F H;refine Xa F rfl (qNK hK4 ?_);clear hK4;clear F a;intro a F;refine wp_ret ?_;simp only [Exit.then];refine JI results3 F rfl ?_
  exact ⟨rfl,H.below⟩
 replace h31:=of_decide_eq_false h31;refine wp_skip (hK2 _ _ (cSR fun K5 hK5=>?_));clear hK2
 refine Xw XM rfl ?si F rfl (H.whole 1 rfl) ?_
 case si=>exact Jz Ya
 clear F a;intro a F;refine Xf F rfl (Xh rfl ?_);clear F a;intro a F;refine Xu call5 F rfl (Xeq _ p _ (hP.own H) hd mc n hlo hhi) ?_;rintro e w ⟨A1,k1,rows,S,K,rfl,hrw,H2⟩;replace H:=H.join H2;clear H2;refine ⟨_,rfl,?_⟩;clear F a;intro a F;refine Xf F rfl (NU rfl rfl rfl rfl (NU rfl rfl rfl rfl (Xd rfl (Xd rfl ?_))));clear F a;intro a F;refine J4 ?_
 have hrl:=hrw.len
 refine hK5 _ _ (cSR fun K6 hK6=>?_);clear hK5
 refine Xw XM rfl ?si F rfl (H.whole 3 rfl) ?_
 case si=>exact Jz Ya
 clear F a;intro a F;refine Xf F rfl (Xh rfl ?_);clear F a;intro a F;refine Xu call6 F rfl (XcR _ p _ (hP.own H) (hN.own H) mc n hlo hhi) ?_;rintro e w ⟨A2,k2,rfl,H2⟩;replace H:=H.join H2;clear H2;refine ⟨_,rfl,?_⟩;clear F a;intro a F;refine Xf F rfl (NU rfl rfl rfl rfl (NU rfl rfl rfl rfl (Xd rfl (Xd rfl (qNK hK6 (qSR fun K7 hK7=>?_))))));clear hK6;clear F a;intro a F
 refine Xw XM rfl ?si F rfl (H.whole 4 rfl) ?_
 case si=>exact Jz Ya
 clear F a;intro a F;refine Xf F rfl (Xh rfl ?_);clear F a;intro a F;refine Xu call7 F rfl (C6 _ p _ (hP.own H) (hN.own H) mc n hlo hhi) ?_;rintro e w ⟨A3,k3,l3,rfl,hf3,H2⟩;replace H:=H.join H2;clear H2;refine ⟨_,rfl,?_⟩;clear F a;intro a F;refine Xf F rfl (NU rfl rfl rfl rfl (NU rfl rfl rfl rfl (Xd rfl (Xd rfl (qNK hK7 (qSR fun K8 hK8=>?_))))));clear hK7;clear F a;intro a F
 refine Xw XM rfl ?si F rfl (H.whole 5 rfl) ?_
 case si=>exact Jz Ya
 clear F a;intro a F;refine Xf F rfl (Xh rfl ?_);clear F a;intro a F;refine Xu call8 F rfl (B2 _ p _ (hP.own H) (hN.own H) mc n hlo hhi) (gG H ?_);clear F a H;intro a w F H;refine Xf F rfl (NU rfl rfl rfl rfl (NU rfl rfl rfl rfl (NU rfl rfl rfl rfl (Xd rfl (Xd rfl (Xd rfl (qNK hK8 (qSR fun K9 hK9=>?_))))))));clear hK8;clear F a;intro a F
 refine Xw XM rfl ?si F rfl (H.whole 5 rfl) ?_
 case si=>exact Jz Ya
 clear F a;intro a F;refine Xf F rfl (Nu X5 rfl X0 rfl rfl rfl (H.whole 4 rfl) (Xh rfl ?_));clear F a;intro a F;refine Xu call9 F rfl (Bg _ p _ (hP.own H) (hN.own H) mc f n hlo hhi) ?_;rintro e w ⟨A4,k4,rfl,H2⟩;replace H:=H.join H2;clear H2;refine ⟨_,rfl,?_⟩;clear F a;intro a F;refine Xf F rfl (NU rfl rfl rfl rfl (NU rfl rfl rfl rfl (Xd rfl (Xd rfl (qNK hK9 ?_)))));clear hK9;clear F a;intro a F;refine JD (fun K10 hK10=>?_);refine cSR fun K11 hK11=>Xf F rfl (Xh rfl (Xe rfl rfl DR (Xh rfl ?_)));clear F a;intro a F
 refine F.split 73 rfl ?_ ?_ <;> (clear F;intro h73 F)
 ·
  replace h73:=Ep h73
  exact absurd rfl h73
 replace h73:=Er h73;refine Xf F rfl (Xh rfl (Xe rfl rfl DR (Xy rfl rfl (Xh rfl ?_))));clear F a;intro a F
 refine F.split 78 rfl ?_ ?_ <;> (clear F;intro h78 F)
 ·
  replace h78:=Ep h78
  exact absurd rfl h78
 replace h78:=Er h78;refine Xf F rfl (Xh rfl (Xe rfl rfl DR (Xy rfl rfl (Xh rfl ?_))));clear F a;intro a F
 refine F.split 83 rfl ?_ ?_ <;> (clear F;intro h83 F)
 ·
  replace h83:=Ep h83
  exact absurd rfl h83
 replace h83:=Er h83;refine Xf F rfl (Xx YK rfl (Xh rfl (Xx Yn rfl (Xe rfl rfl DR (Xy rfl rfl (Xh rfl ?_))))));clear F a;intro a F
 refine F.split 90 rfl ?_ ?_ <;> (clear F;intro h90 F)
 ·
  replace h90:=Ep h90
  omega
 replace h90:=Er h90;refine Xf F rfl (Xh rfl (Xx Yn rfl (Xe rfl rfl DR (Xy rfl rfl (qNK hK11 ?_)))));clear hK11;clear F a;intro a F
 refine cIf F rfl (fun h95=>?_) (fun h95=>?_)
 ·
  replace h95:=Ep h95
  omega
 replace h95:=Er h95;refine wp_skip (hK10 _ _ ?_);clear hK10;refine JD (fun K12 hK12=>?_);refine cSR fun K13 hK13=>Xf F rfl (Xe rfl rfl DR (qNK hK13 ?_));clear hK13;clear F a;intro a F
 refine cIf F rfl (fun h97=>?_) (fun h97=>?_)
 ·
  replace h97:=Ep h97
  have hE:J8 p mc n ≠ 0:=h97
  have hnn:=L7 hE
  have hl3:l3=[]:=hf3.1 hE
  have hl3n:l3.length=0:=by rw [hl3];rfl
  have hw:Xeh p mc f n=J8 p mc n:=if_neg hE
  refine cSR fun K14 hK14=>Xf F rfl (Xh rfl (Xe rfl rfl Mp (Xh rfl ?_)));clear F a;intro a F
  refine F.split 101 rfl ?_ ?_ <;> (clear F;intro h101 F)
  ·
   replace h101:=J1 h101;refine Xf F rfl (Xx XU rfl (Xh rfl ?_));clear F a;intro a F
   refine Xg F rfl rfl (XjG ?_) ?_
   focus omega
   clear F a;intro a F;refine Xg F rfl rfl Mp (Xy rfl rfl (Xh rfl ?_));clear F a;intro a F
   refine F.split 108 rfl ?_ ?_ <;> (clear F;intro h108 F)
   ·
    replace h108:=J1 h108;refine Xu call4 F rfl (Ev _ (hN.own H)) (gG H ?_);clear F a H;intro a w F H;refine sPk F rfl rfl rfl rfl (Xd rfl (qNK hK14 ?_));clear hK14;clear F a;intro a F;refine wp_ret ?_;simp only [Exit.then];refine JI results3 F rfl ?_
    exact ⟨rfl,H.below⟩
   replace h108:=J2 h108
   (rw [hl3,hnn] at h108;exact absurd rfl h108)
  replace h101:=J2 h101
  exact absurd hw h101
 replace h97:=Er h97
 have hE:J8 p mc n=0:=by exact h97
 obtain ⟨fd,hfd,hI,hn65,hv,hk⟩:=L6 hE
 have hfo:fo (J7 p mc n)=fd:=by rw [hfd];rfl
 rw [hfo] at hrw hrl;rw [hfo] at H F
 have hrl65:=(NR hfd).1
 have hen65:=(NR hfd).2
 refine wp_skip (hK12 _ _ (cSR fun K15 hK15=>Xa F rfl (qNK hK15 ?_)));clear hK12 hK15;clear F a;intro a F;refine JD (fun K16 hK16=>?_);refine cSR fun K17 hK17=>Xf F rfl (Xx Yn rfl (Xh rfl (qNK hK17 ?_)));clear hK17;clear F a;intro a F;refine wp_block ?_
 refine JN [1,2,4,7,9,11,13,16,111,112] (fun m ups w=>∃ (j cn:Nat),m=rows.length - j∧ups=[(20,.int .i64 ((cn:Nat):Int)),(113,.int .i64 ((j:Nat):Int))]∧j≤rows.length∧cn=XcW p mc (rows.take j)∧Own w0 none w [.rws 73 3 (.slice A4 (Xak p mc f n).length k4) ((Xak p mc f n).map Pss.cells),.rws 34 38 (.slice A3 l3.length k3) (l3.map (bs 38)),.rws 60 142 (.slice A2 fd.list.length k2) (fd.list.map (bs 142)),.rws 62 143 (.slice A1 rows.length k1) (rows.map RowQ.cells),.mem S K,.blk b7 (bs 38 f) 34,.blk b4 [d1,d2,d3,d4,d5,d6,d7,d8,d9,d10] 29]) F (rows.length) [(20,.int .i64 ((0:Nat):Int)),(113,.int .i64 ((0:Nat):Int))] ?_ ?_
 · exact ⟨0,0,rfl,rfl,by omega,rfl,H.sel [0,1,2,3,4,5,6] rfl rfl⟩
 clear F
 clear H
 intro m ups a w hI F
 obtain ⟨j,cn,rfl,rfl,hj,hcn,H⟩:=hI
 refine cSR fun K18 hK18=>Xg F rfl rfl QF (qNK hK18 ?_);clear hK18;clear F a;intro a F;refine JD (fun K19 hK19=>?_)
 refine cIf F rfl (fun h114=>?_) (fun h114=>?_)
 ·
  replace h114:=of_decide_eq_true h114
  have hjl:j < rows.length:=by omega
  obtain ⟨r,hr⟩:∃ r,rows[j]? = some r:=⟨_,List.getElem?_eq_getElem hjl⟩
  obtain ⟨hfr,hmr,hwr⟩:=Mh hrw hI hr
  obtain ⟨bR,oR,rfl,_⟩:=H.rowsAt 3 rfl (NN _) (by decide) j r.cells (by rw [List.getElem?_map,hr];rfl)
  obtain ⟨bS,oS,rfl,_⟩:=H.rowsAt 2 rfl (My _) (by decide) j (bs 142 r.s) (by rw [List.getElem?_map,hfr];rfl)
  have hov:=Xey p mc hr
  have hovn:cn≤j:=by
   rw [hcn]
   unfold XcW
   refine Nat.le_trans (List.length_filter_le _ _) ?_
   rw [List.length_take];omega
  refine wp_skip (hK19 _ _ ?_);clear hK19;refine JD (fun K20 hK20=>?_);refine wp_block ?_;refine cSR fun K21 hK21=>Xf F rfl ?_;clear F a;intro a F
  refine sIx Yn YD F rfl rfl rfl rfl ?_ ?_
  focus exact hjl
  clear F a;intro a F
  refine Xw Yv rfl ?si F rfl (by obtain ⟨b',o',g1,g2⟩:=H.rowsAt 3 rfl (NN _) (by decide) j r.cells (by rw [List.getElem?_map,hr];rfl);cases g1;exact g2) ?_
  case si=>exact Jz YD
  clear F a;intro a F;refine sAl H Zb F rfl rfl ?_;clear F a H;intro b22 a w F H;refine Xa F rfl ?_;clear F a;intro a F
  refine sSr H 0 ?si F rfl rfl rfl ?s1 rfl rfl ?_
  case si=>exact Jz YD
  case s1=>rfl
  clear H;intro w H;refine J4 ?_
  have es:Qn (Value.agg Tryz.zeroCells62).cells.toList 0 r.cells=r.cells:=XcI (by rw [Xay];exact (show 143=(Value.agg Tryz.zeroCells62).cells.toList.length by kernel_rfl))
  rw [es] at H;refine hK21 _ _ ?_;clear hK21;refine JD (fun K22 hK22=>?_);refine JD (fun K23 hK23=>?_);refine Xi H ?_;replace H:=H.drew;refine Xj 0 rfl F rfl (fun w=>rMv F rfl) H qq0 (Xm 1 rfl rfl (fun a F w=>rMv F rfl) H qq0 ?_);clear F a;intro a F
  refine Xq (k:=2) (i:=2) rfl F rfl (fun w=>rIx YK XL F rfl rfl ?_) H (fun _ _ _ h=>h) ?_
  focus omega
  clear F a;intro a F
  refine Xk (k:=3) (i:=3) rfl F rfl rfl (fun w H=>Nt XG rfl XL F rfl (by obtain ⟨b',o',g1,g2⟩:=H.rowsAt 3 rfl (My _) (by decide) j (bs 142 r.s) (by rw [List.getElem?_map,hfr];rfl);cases g1;exact g2)) H (fun _ _ _ h=>h) ?_;clear F a;intro a F
  refine Xj 4 rfl F rfl (fun w=>rFa (f:=0) (k:=0) Yv rfl XL rfl rfl F rfl) H qq0 (Xl 5 rfl rfl rfl (fun a F w H=>Nt XG rfl XL F rfl (NJ (H.whole 0 rfl))) H qq0 (Xm 6 rfl rfl (fun a F w=>Q0 F rfl rfl (XjD eT60 gT60 rfl)) H qq0 ?_));clear F a;intro a F;refine Xp (k:=7) ?_;refine hK23 _ _ ?_;clear hK23
  refine cIf F rfl (fun h124=>?_) (fun h124=>?_)
  ·
   replace h124:=N1 h124
   exact absurd ((same_iff.2 fun _ _=>rfl):same 142 r.s r.s=true) (by rw [h124];decide)
  replace h124:=N2 h124;refine wp_skip (hK22 _ _ (cSR fun K24 hK24=>?_));clear hK22
  refine Xw XM rfl ?si F rfl (H.whole 7 rfl) ?_
  case si=>exact Jz Ya
  clear F a;intro a F;refine Xf F rfl ?_;clear F a;intro a F
  refine Xw Yv rfl ?si F rfl (H.whole 0 rfl) ?_
  case si=>exact Jz YD
  clear F a;intro a F;refine Xu call10 F rfl (Dp _ p _ (hP.own H) hd mc r) (gG H ?_);clear F a H;intro a w F H;refine nK hK24 ?_;clear hK24
  refine cIf F rfl (fun h128=>?_) (fun h128=>?_)
  ·
   refine JY (Xf F rfl ?_);clear F a;intro a F
   refine Xg F rfl rfl (JJ (j:=1) ?_) ?_
   focus omega
   clear F a;intro a F;refine Xa F rfl (qNK hK20 (Ef ?_));clear hK20;clear F a;intro a F
   refine Xg F rfl rfl (JJ (j:=1) ?_) ?_
   focus omega
   clear F a;intro a F;refine Xf F rfl ?_;clear F a;intro a F;refine J4 ?_
   (have ho:N7 p mc r=true:=h128
    rw [if_pos ho] at hov
    exact ⟨_,by omega,_,⟨j+1,cn+1,rfl,rfl,by omega,by rw [hov,← hcn],H.sel [1,2,3,4,5,6,7] rfl rfl⟩,F.tt⟩)
  refine wp_skip (hK20 _ _ (JY ?_));clear hK20
  refine Xg F rfl rfl (JJ (j:=1) ?_) ?_
  focus omega
  clear F a;intro a F;refine Xf F rfl ?_;clear F a;intro a F;refine J4 ?_
  (have ho:¬ N7 p mc r=true:=by rw [h128];decide
   rw [if_neg ho,Nat.add_zero] at hov
   exact ⟨_,by omega,_,⟨j+1,cn,rfl,rfl,by omega,hcn.trans hov.symm,H.sel [1,2,3,4,5,6,7] rfl rfl⟩,F.tt⟩)
 replace h114:=of_decide_eq_false h114
 obtain rfl:j=rows.length:=by omega
 have hov:cn=fd.ends.length:=by rw [hcn,List.take_length];exact Xez hrw hI
 refine wp_exit ?_;refine hK16 _ _ (cSR fun K25 hK25=>?_);clear hK16
 refine Xw XM rfl ?si F rfl (H.whole 6 rfl) ?_
 case si=>exact Jz Ya
 clear F a;intro a F;refine Xf F rfl (Xh rfl ?_);clear F a;intro a F;refine Xu call11 F rfl (XaV _ p _ (hP.own H) hd mc A1 k1 rows (H.rowsAt 3 rfl (NN _) (by decide)) (by omega)) ?_;rintro e w ⟨A5,k5,q5,rfl,hq5,H2⟩;replace H:=H.join H2;clear H2;refine ⟨_,rfl,?_⟩;clear F a;intro a F;refine Xa F rfl (qNK hK25 ?_);clear hK25;clear F a;intro a F;refine JD (fun K26 hK26=>?_);refine cSR fun K27 hK27=>Xf F rfl (Xh rfl (Xe rfl rfl DR (Xh rfl ?_)));clear F a;intro a F
 refine F.split 139 rfl ?_ ?_ <;> (clear F;intro h139 F)
 ·
  replace h139:=Ep h139
  omega
 replace h139:=Er h139;refine Xf F rfl (Xh rfl ?_);clear F a;intro a F
 refine Xu call12 F rfl ((by
   have hf4:=hf3.2 hE
   have e1:tl l3=tl q5:=MY hf4.2.2.1 hq5.1 (fun x=>(hf4.2.2.2 x).trans ((XfO hrw hI).symm.trans (hq5.2 x).symm))
   have hq5n:q5.length≤9223372036854775807:=by have:=congrArg List.length e1;simp only [tl,List.length_map] at this;omega
   have:=C4 A3 A5 k3 k5 l3 q5 _ (H.rowsAt 2 rfl (Mc _) (by decide)) (H.rowsAt 0 rfl (Mc _) (by decide)) (by omega) hq5n
   rw [decide_eq_true e1] at this
   exact this)) ?_
 rintro e w ⟨rfl,hb⟩;replace H:=H.grow hb;clear hb;refine ⟨_,rfl,?_⟩;clear F a;intro a F;refine Xav F rfl rfl rfl (Xy rfl rfl (qNK hK27 ?_));clear hK27;clear F a;intro a F
 refine cIf F rfl (fun h144=>?_) (fun h144=>?_)
 ·
  replace h144:=N1 h144
  cases h144
 replace h144:=N2 h144;refine wp_skip (hK26 _ _ ?_);clear hK26;refine JD (fun K28 hK28=>?_);refine JD (fun K29 hK29=>?_);refine Xi H ?_;replace H:=H.drew;refine Xv 0 rfl F rfl rfl (fun w H=>Nt X5 rfl X0 F rfl (H.whole 6 rfl)) H qq0 (Xm 2 rfl rfl (fun a F w=>rMv F rfl) H qq0 (Xm 3 rfl rfl (fun a F w=>rMv F rfl) H qq0 (Xl 4 rfl rfl rfl (fun a F w H=>Bw XU F rfl) H qq0 (Xl 5 rfl rfl rfl (fun a F w H=>Xj7 (j:=6) F rfl rfl) H qq0 ?_))));clear F a;intro a F
 refine Xk (k:=5) (i:=6) rfl F rfl rfl (fun w H=>rSlH XU (fun w=>⟨_,X0 w⟩) F rfl rfl ?_) H (fun _ _ _ h=>h) ?_
 focus (have h1:q5.length≤k5:=(H.rwsLen 0 rfl).2.1;have h3:=Nat.min_le_left q5.length 6;generalize min q5.length 6=mq at h3 ⊢;omega)
 clear F a;intro a F;refine Xj 9 rfl F rfl (fun w=>rMv F rfl) H qq0 ?_;clear F a;intro a F;refine Xn (k:=7) (i:=1) rfl F (Xkf H XU X0 YZ rfl F rfl rfl rfl rfl ?_);clear F a H;intro b146 a w F H;refine JR H.tail ?_
 replace H:=H.blkRws 0 (n:=1) (sz:=38) [bs 38 f] rfl (by rfl) rfl (by exact bs_length _ _) (by decide)
 refine Xn (k:=8) (i:=7) rfl F (XhD (bytes:=38) (sz:=38) H 0 XU Zg rfl rfl rfl rfl rfl rfl F rfl rfl rfl rfl ?hm ((XcO (show RowsAt _ A5 38 (q5.map (bs 38)) from H.rowsAt 1 rfl (Mc _) (by decide)) (min q5.length 6))) ((fun r hr=>Mc _ r (List.mem_of_mem_take hr))) ((fun r hr=>by obtain ⟨x,_,rfl⟩:=List.mem_map.1 (List.mem_of_mem_take hr);rfl)) ?hb ?_)
 case hm=>(simp;done)
 case hb=>exact ((by simp only [List.length_cons,List.length_nil];omega))
 clear F a H;intro A152 c152 a w F H;refine Xo H ?_;refine Xv 8 rfl F rfl rfl (fun w H=>Bw XU F rfl) H qq0 ?_;clear F a;intro a F;refine Xp (k:=10) ?_;refine hK29 _ _ ?_;clear hK29;refine wp_block ?_
 have exs:[bs 38 f]++(q5.map (bs 38)).take (min q5.length 6)=(f :: q5.take (min q5.length 6)).map (bs 38):=by rw [← List.map_take];rfl
 rw [exs,List.length_map] at H F
 obtain ⟨xs,hxs⟩:∃ xs,xs=f :: q5.take (min q5.length 6):=⟨_,rfl⟩
 rw [← hxs] at H F
 have hxn:xs.length≤7:=by rw [hxs,List.length_cons,List.length_take];omega
 refine JN [1,2,4,9,152,153] (fun m ups w=>∃ i:Nat,m=xs.length - i∧ups=[(154,.int .i64 ((i:Nat):Int))]∧i≤xs.length∧Own w0 none w [.rws 34 38 (.slice A152 xs.length c152) (xs.map (bs 38)),.rws 62 143 (.slice A1 rows.length k1) (rows.map RowQ.cells),.mem S K,.blk b4 [d1,d2,d3,d4,d5,d6,d7,d8,d9,d10] 29]) F (xs.length) [(154,.int .i64 ((0:Nat):Int))] ?_ ?_
 · exact ⟨0,rfl,rfl,by omega,H.sel [0,5,6,8] rfl rfl⟩
 clear F
 clear H
 intro m ups a w hI F
 obtain ⟨i,rfl,rfl,hi,H⟩:=hI
 refine cSR fun K30 hK30=>Xg F rfl rfl QF (qNK hK30 ?_);clear hK30;clear F a;intro a F;refine JD (fun K31 hK31=>?_)
 refine cIf F rfl (fun h155=>?_) (fun h155=>?_)
 ·
  replace h155:=of_decide_eq_true h155
  have hix:i < xs.length:=by omega
  obtain ⟨x,hx⟩:∃ x,xs[i]? = some x:=⟨_,List.getElem?_eq_getElem hix⟩
  obtain ⟨bX,oX,rfl,_⟩:=H.rowsAt 0 rfl (Mc _) (by decide) i (bs 38 x) (by rw [List.getElem?_map,hx];rfl)
  obtain ⟨AW,cW,eW,hinW,hsW,h06⟩:=Xe9 hrw hfd hE hI x
  refine wp_skip (hK31 _ _ ?_);clear hK31;refine JD (fun K32 hK32=>?_);refine wp_block ?_;refine cSR fun K33 hK33=>?_
  refine sIx XU X0 F rfl rfl rfl rfl ?_ ?_
  focus exact hix
  clear F a;intro a F
  refine Xs X5 rfl X0 F rfl (by obtain ⟨b',o',g1,g2⟩:=H.rowsAt 0 rfl (Mc _) (by decide) i (bs 38 x) (by rw [List.getElem?_map,hx];rfl);cases g1;exact g2) ?_;clear F a;intro a F
  refine Mo H Xg8 F rfl rfl ?_;clear F a H;intro b25 a w F H;refine Xt H 0 X0 F rfl rfl rfl ?_;clear H;intro w H;rw [JE] at H;refine nK hK33 (cSR fun K34 hK34=>?_);clear hK33
  refine Xw XM rfl ?si F rfl (H.whole 4 rfl) ?_
  case si=>exact Jz Ya
  clear F a;intro a F;refine Xf F rfl (Nu X5 rfl X0 rfl rfl rfl (H.whole 0 rfl) (Xh rfl ?_));clear F a;intro a F;refine Xu call9 F rfl (Bg _ p _ (hP.own H) (hN.own H) mc x n hlo hhi) ?_;rintro e w ⟨A6,k6,rfl,H2⟩;replace H:=H.join H2;clear H2;refine ⟨_,rfl,?_⟩;clear F a;intro a F;refine Xf F rfl (NU rfl rfl rfl rfl (NU rfl rfl rfl rfl (Xd rfl (Xd rfl (qNK hK34 (qSR fun K35 hK35=>?_))))));clear hK34;clear F a;intro a F
  refine Xw XM rfl ?si F rfl (H.whole 5 rfl) ?_
  case si=>exact Jz Ya
  clear F a;intro a F;refine Xf F rfl (Nu X5 rfl X0 rfl rfl rfl (H.whole 1 rfl) (Xh rfl ?_));clear F a;intro a F;refine Xu call13 F rfl ((by have:=Xei _ p _ (hP.own H) hd mc x A1 k1 rows (H.rowsAt 3 rfl (NN _) (by decide)) (by omega);rw [eW] at this;exact this)) (gG H ?_);clear F a H;intro a w F H;refine Xf F rfl (NU rfl rfl rfl rfl (NU rfl rfl rfl rfl (Xd rfl (Xd rfl (qNK hK35 (qSR fun K36 hK36=>Xh rfl (Xh rfl ?_)))))));clear hK35;clear F a;intro a F
  refine Xu call14 F rfl ((by
   have hwn:=(H.rwsLen 0 rfl).2
   simp only [maxLen] at hwn
   have:=Do A6 AW k6 cW (Xak p mc x n) (Xak p mc x n) _ (H.rowsAt 0 rfl (Xax _) (by decide)) (show RowsAt _ AW 3 ((Xak p mc x n).map Pss.cells) from (H.memAt 4 rfl).at hinW) (by omega) (by omega)
   rw [decide_eq_true rfl] at this
   exact this)) ?_
  rintro e w ⟨rfl,hb⟩;replace H:=H.grow hb;clear hb;refine ⟨_,rfl,?_⟩;clear F a;intro a F;refine Xav F rfl rfl rfl (Xh rfl ?_);clear F a;intro a F
  refine F.split 178 rfl ?_ ?_ <;> (clear F;intro h178 F)
  ·
   replace h178:=N1 h178
   cases h178
  replace h178:=N2 h178;refine Xf F rfl (Xe rfl rfl Mp (Xh rfl (Xe rfl rfl (XjF Za) (Xy rfl rfl (Xh rfl ?_)))));clear F a;intro a F
  refine F.split 184 rfl ?_ ?_ <;> (clear F;intro h184 F)
  ·
   replace h184:=Xkh h184
   (exact absurd (XbV hsW) h184)
  replace h184:=Xki h184;refine Xf F rfl (Cc rfl rfl rfl (Xh rfl ?_));clear F a;intro a F
  refine F.split 187 rfl ?_ ?_ <;> (clear F;intro h187 F)
  ·
   replace h187:=N1 h187;refine Xf F rfl (Xe rfl rfl DR (Xy rfl rfl (Xy rfl rfl (qNK hK36 ?_))));clear hK36;clear F a;intro a F
   refine cIf F rfl (fun h191=>?_) (fun h191=>?_)
   ·
    replace h191:=Ep h191
    exact h06.elim (fun h=>by have:=hsW.2 h;rw [this] at h187;simp at h187) (fun h=>absurd h h191)
   replace h191:=Er h191;refine wp_skip (hK32 _ _ (JY ?_));clear hK32
   refine Xg F rfl rfl (JJ (j:=1) ?_) ?_
   focus omega
   clear F a;intro a F;refine Xf F rfl ?_;clear F a;intro a F;refine J4 ?_
   exact ⟨_,by omega,_,⟨i+1,rfl,rfl,by omega,H.sel [2,3,4,5] rfl rfl⟩,F.tt⟩
  replace h187:=N2 h187;refine XB F (XC (Xy rfl rfl (Xy rfl rfl (qNK hK36 ?_))));clear hK36;clear F a;intro a F;refine LB F rfl ?_;refine wp_skip (hK32 _ _ (JY ?_));clear hK32
  refine Xg F rfl rfl (JJ (j:=1) ?_) ?_
  focus omega
  clear F a;intro a F;refine Xf F rfl ?_;clear F a;intro a F;refine J4 ?_
  exact ⟨_,by omega,_,⟨i+1,rfl,rfl,by omega,H.sel [2,3,4,5] rfl rfl⟩,F.tt⟩
 replace h155:=of_decide_eq_false h155;refine wp_exit ?_;refine hK28 _ _ (cSR fun K37 hK37=>?_);clear hK28;refine Xu call4 F rfl (Ev _ (hN.own H)) (gG H ?_);clear F a H;intro a w F H;refine Xa F rfl (qNK hK37 ?_);clear hK37;clear F a;intro a F;refine wp_ret ?_;refine JI results3 F rfl ?_
 exact ⟨rfl,H.below⟩
-- OpK
open Go.RowKit Go.WideShapes Go.ChangeShapes
section
variable {H:Type} {enc:TypeId × Value→H} {P:Program}
theorem XaC {f:Func} {s:ChangeSpec} {apart fresh handsOn again:Bool} {W W':World} {args:Array Value} {v:Value} {ds gs:List (DataW H)} {before pa pv:List MemPlace}
   (hW:DataW.Whole enc P f.params.toList s.vars apart W args.toList ds gs before)
   (hres:∀ (b:Nat) (sp:Nat→Bool) (hd:Bool),DataW.TrodAll enc P W' b sp hd f.resultTypes.toList (v.resultList f.resultTypes.size) (s.fn H (ds++gs)).results [])
   (hargs:∀ sp:Nat→Bool,(∀ p ∈ before,sp p.block=true)→DataW.TrodAll enc P W' 0 sp true f.params.toList args.toList (s.fn H (ds++gs)).args pa)
   (hvars:∀ sp:Nat→Bool,(∀ p ∈ before,sp p.block=true)→DataW.TrodVars enc P W' sp s.vars (s.fn H (ds++gs)).vars pv)
   (hps:before=pa++pv) (hb:Below W.heap.size W W')
   (hok:∀ (j:Nat) (t:TypeId) (r:Value),f.resultTypes[j]? = some t→(v.resultList f.resultTypes.size)[j]? = some r→Value.okWide P W' .any 0 t r) :
   s.post enc P f apart fresh handsOn again W args v W':=by
 have hlt:∀ p ∈ before,p.block < W.heap.size:=fun p hp=>hW.lt p hp
 have hold:∀ p ∈ before,(fun b=>decide (b < W.heap.size)) p.block=true:=fun p hp=>by simpa using hlt p hp
 refine ⟨ds,gs,before,[],pa,pv,hW,hres _ _ _,hargs _ hold,hvars _ hold,World.keptBut_mono (fun p hp=>⟨hp,?_⟩) (hb.frame (· ∈ before)),fun _=>?_⟩
 · rw [hps,List.mem_append] at hp
   exact Or.inr hp
 · obtain ⟨_,_,_,_,_,hz,hn⟩:=hW
   refine ⟨hok,_,_,([]++pa)++pv,⟨[]++pa,pv,trodAll_append (hargs _ (fun _ _=>rfl)) (hres _ _ _),hvars _ (fun _ _=>rfl),rfl,?_,?_⟩,?_⟩
   · intro b off hp
     have hin:MemPlace.cell b off ∈ before:=by rw [hps];simpa using hp
     rw [hb.frozen (hlt _ hin)]
     exact hz b off hin
   · intro ha
     have:=hn ha
     rw [hps] at this
     simpa using this
   · intro p hp _
     rw [hps]
     simpa using hp
end
theorem Xhp:ownKnob Tryz.prog.godebug=none:=by kernel_rfl
end
section
open Go.ChangeShapes Go.WideShapes Go.ChangeAt Go.RowKit Go.Deep
section
variable {H:Type} {enc:TypeId × Value→H} {P:Program} {w:World} {spare:Nat→Bool} {held:Bool} {fuel:Nat} {t:TypeId} {cs:List Value} {x:DataW H × List MemPlace}
theorem XaI {fs:Array Field} (ht:P.underlying t=some (.struct fs)) (h:DataW.trod enc P w 0 spare held fuel t cs=some x) :
   cs.length=P.cellsOf t∧∃ n,fuel=n+1∧∀ (i:Nat) (f:Field),fs[i]? = some f→∃ y,DataW.trod enc P w 0 spare held n f.type ((cs.drop f.offset).take (P.cellsOf f.type))=some y:=by
 obtain ⟨xs,n,hn,_,hl,hxl,hf⟩:=DataW.trod_struct ht h
 refine ⟨hl,n,hn,fun i f hi=>?_⟩
 have hlt:i < xs.length:=by rw [hxl];exact (Array.getElem?_eq_some_iff.1 hi).1
 exact ⟨_,(hf i f hi).trans (List.getElem?_eq_getElem hlt)⟩
theorem Xjg {n:Nat} {e:TypeId} (ht:P.underlying t=some (.array n e)) (h:DataW.trod enc P w 0 spare held fuel t cs=some x) :
   cs.length=P.cellsOf t∧∃ m,fuel=m+1∧∀ i,i < n→∃ y,DataW.trod enc P w 0 spare held m e ((cs.drop (i * P.cellsOf e)).take (P.cellsOf e))=some y:=by
 obtain ⟨xs,m,hm,_,hl,hxl,hf⟩:=DataW.trod_array ht h
 exact ⟨hl,m,hm,fun i hi=>⟨_,(hf i hi).trans (List.getElem?_eq_getElem (by omega))⟩⟩
theorem XaJ {e:TypeId} (ht:P.underlying t=some (.slice e)) (hpos:0 < P.cellsOf e) (h:DataW.trod enc P w 0 spare held fuel t cs=some x) :
   ∃ A len cap,cs=[.slice A len cap]∧len≤cap∧cap≤maxLen∧(A=none→len=0∧cap=0) ∧
     ∃ m,fuel=m+1∧∀ i,i < len→∃ b off cs' y,A=some ⟨b,off,none⟩∧b < w.heap.size∧cs'.length=P.cellsOf e∧w.rangeAt b (off+i * P.cellsOf e) cs'∧DataW.trod enc P w 0 spare held m e cs'=some y:=by
 rcases DataW.trod_slice ht h with ⟨rfl,_⟩ | ⟨a,len,cap,elems,rest,n,hn,rfl,_,hb,hl,hm,hlen,hel,_,_⟩
 · cases fuel with
   | zero=>simp [DataW.trod] at h
   | succ m=>exact ⟨none,0,0,rfl,Nat.le_refl _,Nat.zero_le _,fun _=>⟨rfl,rfl⟩,m,rfl,fun i hi=>by omega⟩
 · refine ⟨some a,len,cap,rfl,hl,hm,(fun h=>by cases h),n,hn,fun i hi=>?_⟩
   obtain ⟨b,o,sp⟩:=a
   have hsp:sp=none:=by
     have he:=hel 0 (by omega)
     rw [List.getElem?_eq_getElem (by omega)] at he
     obtain ⟨cs',hc,_⟩:=Option.bind_eq_some_iff.1 he
     obtain ⟨_,hcl,hat⟩:=World.cells?_some hc
     have h0:=hat 0 hpos
     rw [List.getElem?_eq_getElem (by omega)] at h0
     simpa [Addr.add] using World.cell?_spot h0
   subst hsp
   have he:=hel i hi
   rw [List.getElem?_eq_getElem (by omega)] at he
   obtain ⟨cs',hc,ht'⟩:=Option.bind_eq_some_iff.1 he
   obtain ⟨_,hcl,hat⟩:=World.cells?_some hc
   have hc0:w.cell? ⟨b,o+i * P.cellsOf e+0,none⟩=some (cs'[0]'(by omega)):=by
     have:=hat 0 hpos
     rw [List.getElem?_eq_getElem (by omega),Addr.add_mid,Addr.add_mid] at this
     exact this
   refine ⟨b,o,cs',_,rfl,World.block_lt_of_cell? w _ hc0,hcl,fun j v hj=>?_,ht'⟩
   have hjl:j < cs'.length:=(List.getElem?_eq_some_iff.1 hj).1
   have:=hat j (by omega)
   rw [Addr.add_mid,Addr.add_mid,hj] at this
   exact this
theorem Xjb (ht:P.underlying t=some (.int .u8)) (h:DataW.trod enc P w 0 spare held fuel t cs=some x):∃ u:UInt8,cs=[b8 u]:=by
 obtain ⟨n,rfl,_,hwf⟩:=DataW.trod_int ht h
 simp only [Lit.wf,Bool.and_eq_true,decide_eq_true_eq] at hwf
 rw [show IntKind.u8.min=0 from by decide,show IntKind.u8.max=255 from by decide] at hwf
 refine ⟨UInt8.ofNat n.toNat,?_⟩
 have:(UInt8.ofNat n.toNat).toNat=n.toNat:=by rw [UInt8.toNat_ofNat'];omega
 simp only [b8,this]
 rw [Int.toNat_of_nonneg hwf.1]
theorem Xkd (ht:P.underlying t=some .bool) (h:DataW.trod enc P w 0 spare held fuel t cs=some x):∃ b:Bool,cs=[.bool b]:=by
 obtain ⟨b,h1,_⟩:=DataW.trod_bool ht h
 exact ⟨b,h1⟩
theorem Xkc (ht:P.underlying t=some .string) (h:DataW.trod enc P w 0 spare held fuel t cs=some x):∃ s:ByteArray,cs=[.string s]∧s.size≤maxLen:=by
 obtain ⟨s,h1,_,h2⟩:=DataW.trod_string ht h
 exact ⟨s,h1,h2⟩
def ByT (P:Program) (t:TypeId) (n:Nat):Prop:=P.cellsOf t=n∧∀ {H:Type} (enc:TypeId × Value→H) (w:World) (spare:Nat→Bool) (held:Bool) (fuel:Nat) (cs:List Value) (x:DataW H × List MemPlace),
 DataW.trod enc P w 0 spare held fuel t cs=some x→cs.length=n∧∀ i,i < n→∃ u:UInt8,cs[i]? = some (b8 u)
theorem XkG (ht:P.underlying t=some (.int .u8)) (hc:P.cellsOf t=1):ByT P t 1:=⟨hc,fun enc w sp hd fuel cs x h=>by
 obtain ⟨u,rfl⟩:=Xjb ht h
 refine ⟨rfl,fun i hi=>?_⟩
 obtain rfl:i=0:=by omega
 exact ⟨u,rfl⟩⟩
theorem B7 {n m:Nat} {e:TypeId} (ht:P.underlying t=some (.array n e)) (he:ByT P e m) (hm:0 < m) (hc:P.cellsOf t=n * m):ByT P t (n * m):=⟨hc,fun enc w sp hd fuel cs x h=>by
 obtain ⟨hl,f,_,hi⟩:=Xjg ht h
 rw [hc] at hl
 refine ⟨hl,fun i hin=>?_⟩
 have hq:i / m < n:=Nat.div_lt_of_lt_mul (by rwa [Nat.mul_comm] at hin)
 obtain ⟨y,hy⟩:=hi (i / m) hq
 rw [he.1] at hy
 obtain ⟨_,h2⟩:=he.2 enc w sp hd _ _ _ hy
 have hmod:=Nat.mod_lt i hm
 obtain ⟨u,hu⟩:=h2 (i % m) hmod
 rw [List.getElem?_take,if_pos hmod,List.getElem?_drop] at hu
 have e1:i / m * m+i % m=i:=Nat.div_add_mod' i m
 rw [e1] at hu
 exact ⟨u,hu⟩⟩
theorem XeX {fs:Array Field} {n:Nat} (ht:P.underlying t=some (.struct fs)) (hc:P.cellsOf t=n)
   (hf:∀ i,i < n→∃ (k:Nat) (f:Field) (m:Nat),fs[k]? = some f∧ByT P f.type m∧f.offset≤i∧i < f.offset+m):ByT P t n:=⟨hc,fun enc w sp hd fuel cs x h=>by
 obtain ⟨hl,q,_,hi⟩:=XaI ht h
 refine ⟨by rw [hl,hc],fun i hin=>?_⟩
 obtain ⟨k,f,m,hk,hb,h1,h2⟩:=hf i hin
 obtain ⟨y,hy⟩:=hi k f hk
 rw [hb.1] at hy
 obtain ⟨_,h3⟩:=hb.2 enc w sp hd _ _ _ hy
 obtain ⟨u,hu⟩:=h3 (i - f.offset) (by omega)
 rw [List.getElem?_take,if_pos (by omega),List.getElem?_drop] at hu;rw [show f.offset+(i - f.offset)=i by omega] at hu
 exact ⟨u,hu⟩⟩
end
theorem len2 {α:Type} {l:List α} (h:l.length=2):∃ a b,l=[a,b]:=by
 match l,h with
 | [a,b],_=>exact ⟨a,b,rfl⟩
theorem XiE {α:Type} {l:List α} (h:l.length=10):∃ a0 a1 a2 a3 a4 a5 a6 a7 a8 a9,l=[a0,a1,a2,a3,a4,a5,a6,a7,a8,a9]:=by
 match l,h with
 | [a0,a1,a2,a3,a4,a5,a6,a7,a8,a9],_=>exact ⟨a0,a1,a2,a3,a4,a5,a6,a7,a8,a9,rfl⟩
theorem len5' {α:Type} {l:List α} (h:l.length=5):∃ a0 a1 a2 a3 a4,l=[a0,a1,a2,a3,a4]:=by
 match l,h with
 | [a0,a1,a2,a3,a4],_=>exact ⟨a0,a1,a2,a3,a4,rfl⟩
instance:Inhabited Ins:=⟨⟨0,0,0,false,0,false,0,0,0,0⟩⟩
instance:Inhabited Cnd:=⟨.mk 0 0 0 0 []⟩
theorem cU8:Tryz.prog.cellsOf 5=1:=by kernel_rfl
theorem cBool:Tryz.prog.cellsOf 4=1:=by kernel_rfl
theorem cStr:Tryz.prog.cellsOf 9=1:=by kernel_rfl
theorem cArg:Tryz.prog.cellsOf 90=2:=by kernel_rfl
theorem cIns:Tryz.prog.cellsOf 92=10:=by kernel_rfl
theorem XiK:Tryz.prog.cellsOf 93=1:=by kernel_rfl
theorem Xjz:Tryz.prog.cellsOf 24=1:=by kernel_rfl
theorem cStrs:Tryz.prog.cellsOf 22=1:=by kernel_rfl
theorem cU8s:Tryz.prog.cellsOf 23=1:=by kernel_rfl
theorem Xig:Tryz.prog.cellsOf 27=5:=by kernel_rfl
theorem XkF:Tryz.prog.cellsOf 25=1:=by kernel_rfl
theorem cProg:Tryz.prog.cellsOf 29=10:=by kernel_rfl
section
variable {H:Type} {enc:TypeId × Value→H} {w:World} {spare:Nat→Bool} {held:Bool} {fuel:Nat} {cs:List Value} {x:DataW H × List MemPlace}
theorem o_arg (h:DataW.trod enc Tryz.prog w 0 spare held fuel 90 cs=some x):∃ (r:Bool) (n:UInt8),cs=[.bool r,b8 n]:=by
 obtain ⟨hl,m,_,hf⟩:=XaI XV h
 rw [cArg] at hl
 obtain ⟨a,b,rfl⟩:=len2 hl
 obtain ⟨y0,h0⟩:=hf 0 _ rfl
 obtain ⟨y1,h1⟩:=hf 1 _ rfl
 replace h0:DataW.trod enc Tryz.prog w 0 spare held m 4 (([a,b].drop 0).take (Tryz.prog.cellsOf 4))=_:=h0
 replace h1:DataW.trod enc Tryz.prog w 0 spare held m 5 (([a,b].drop 1).take (Tryz.prog.cellsOf 5))=_:=h1
 rw [cBool] at h0;rw [cU8] at h1
 obtain ⟨r,e0⟩:=Xkd Za h0
 obtain ⟨n,e1⟩:=Xjb XO h1
 simp only [List.drop,List.take,List.cons.injEq,and_true] at e0 e1
 exact ⟨r,n,by rw [e0,e1]⟩
theorem o_ins (h:DataW.trod enc Tryz.prog w 0 spare held fuel 92 cs=some x):∃ i:Ins,cs=i.cells:=by
 obtain ⟨hl,m,_,hf⟩:=XaI XI h
 rw [cIns] at hl
 obtain ⟨a0,a1,a2,a3,a4,a5,a6,a7,a8,a9,rfl⟩:=XiE hl
 have key:∀ o,DataW.trod enc Tryz.prog w 0 spare held m 5 (([a0,a1,a2,a3,a4,a5,a6,a7,a8,a9].drop o).take (Tryz.prog.cellsOf 5)) ≠ none→∃ u:UInt8,([a0,a1,a2,a3,a4,a5,a6,a7,a8,a9].drop o).take 1=[b8 u]:=by
   intro o ho
   obtain ⟨y,hy⟩:=Option.ne_none_iff_exists'.1 ho
   rw [cU8] at hy
   exact Xjb XO hy
 have karg:∀ o,DataW.trod enc Tryz.prog w 0 spare held m 90 (([a0,a1,a2,a3,a4,a5,a6,a7,a8,a9].drop o).take (Tryz.prog.cellsOf 90)) ≠ none→∃ (r:Bool) (n:UInt8),([a0,a1,a2,a3,a4,a5,a6,a7,a8,a9].drop o).take 2=[.bool r,b8 n]:=by
   intro o ho
   obtain ⟨y,hy⟩:=Option.ne_none_iff_exists'.1 ho
   rw [cArg] at hy
   exact o_arg hy
 have nn:∀ {z:Option (DataW H × List MemPlace)},(∃ y,z=some y)→z ≠ none:=fun ⟨y,hy⟩=>by rw [hy];exact fun h=>by cases h
 obtain ⟨u0,e0⟩:=key 0 (nn (hf 0 _ rfl))
 obtain ⟨u1,e1⟩:=key 1 (nn (hf 1 _ rfl))
 obtain ⟨u2,e2⟩:=key 2 (nn (hf 2 _ rfl))
 obtain ⟨r3,n3,e3⟩:=karg 3 (nn (hf 3 _ rfl))
 obtain ⟨r4,n4,e4⟩:=karg 5 (nn (hf 4 _ rfl))
 obtain ⟨u5,e5⟩:=key 7 (nn (hf 5 _ rfl))
 obtain ⟨u6,e6⟩:=key 8 (nn (hf 6 _ rfl))
 obtain ⟨u7,e7⟩:=key 9 (nn (hf 7 _ rfl))
 simp only [List.drop,List.take,List.cons.injEq,and_true] at e0 e1 e2 e3 e4 e5 e6 e7
 obtain ⟨e3,e3'⟩:=e3
 obtain ⟨e4,e4'⟩:=e4
 subst e0 e1 e2 e3 e3' e4 e4' e5 e6 e7
 exact ⟨⟨u0,u1,u2,r3,n3,r4,n4,u5,u6,u7⟩,rfl⟩
theorem XiC {α:Type} [Inhabited α] {t e:TypeId} {f:α→List Value} {n:Nat} (ht:Tryz.prog.underlying t=some (.slice e)) (hn:Tryz.prog.cellsOf e=n) (hpos:0 < n)
   (he:∀ {fuel:Nat} {cs:List Value} {x:DataW H × List MemPlace},DataW.trod enc Tryz.prog w 0 spare held fuel e cs=some x→∃ a,cs=f a)
   (h:DataW.trod enc Tryz.prog w 0 spare held fuel t cs=some x):∃ A C,∃ l:List α,cs=[.slice A l.length C]∧RowsAt w A n (l.map f)∧l.length≤C∧C≤maxLen∧(A=none→C=0):=by
 obtain ⟨A,len,cap,rfl,hl,hc,hA,m,_,hi⟩:=XaJ ht (by omega) h
 rw [hn] at hi
 obtain ⟨T,hT⟩:=choose_lt (p:=fun i (a:α)=>∃ b off,A=some ⟨b,off,none⟩∧w.rangeAt b (off+i * n) (f a)) (fun i him=>by
   obtain ⟨b,off,cs',y,h1,_,_,h2,h3⟩:=hi i him
   obtain ⟨a,rfl⟩:=he h3
   exact ⟨a,b,off,h1,h2⟩)
 refine ⟨A,cap,(List.range len).map T,by simp,fun j c hj=>?_,by simpa using hl,hc,fun h=>(hA h).2⟩
 rw [List.map_map,List.getElem?_map] at hj
 obtain ⟨q,hq,rfl⟩:=Option.map_eq_some_iff.1 hj
 obtain ⟨hjl,rfl⟩:=List.getElem?_eq_some_iff.1 hq
 rw [List.length_range] at hjl;rw [List.getElem_range]
 exact hT j hjl
theorem Xjf (h:DataW.trod enc Tryz.prog w 0 spare held fuel 23 cs=some x):∃ A C,∃ l:List UInt8,cs=[.slice A l.length C]∧RowsAt w A 1 (l.map fun x=>[b8 x])∧l.length≤C∧C≤maxLen∧(A=none→C=0):=
 XiC Yt cU8 (by omega) (fun h=>Xjb XO h) h
theorem Xjd (h:DataW.trod enc Tryz.prog w 0 spare held fuel 93 cs=some x):∃ A C,∃ l:List Ins,cs=[.slice A l.length C]∧RowsAt w A 10 (l.map Ins.cells)∧l.length≤C∧C≤maxLen∧(A=none→C=0):=
 XiC Yl cIns (by omega) (fun h=>o_ins h) h
theorem Xkb (h:DataW.trod enc Tryz.prog w 0 spare held fuel 22 cs=some x):∃ A C,∃ l:List ByteArray,cs=[.slice A l.length C]∧StrsAt w A l∧(∀ s ∈ l,s.size≤maxLen)∧l.length≤C∧C≤maxLen∧(A=none→C=0):=by
 obtain ⟨A,len,cap,rfl,hl,hc,hA,m,_,hi⟩:=XaJ Yk (by rw [cStr];omega) h
 rw [cStr] at hi
 obtain ⟨T,hT⟩:=choose_lt (p:=fun i (s:ByteArray)=>s.size≤maxLen∧∃ b off,A=some ⟨b,off,none⟩∧w.rangeAt b (off+i * 1) [.string s]) (fun i him=>by
   obtain ⟨b,off,cs',y,h1,_,_,h2,h3⟩:=hi i him
   obtain ⟨a,rfl,h4⟩:=Xkc underlying9 h3
   exact ⟨a,h4,b,off,h1,h2⟩)
 refine ⟨A,cap,(List.range len).map T,by simp,fun j c hj=>?_,fun s hs=>?_,by simpa using hl,hc,fun h=>(hA h).2⟩
 · rw [List.map_map,List.getElem?_map] at hj
   obtain ⟨q,hq,rfl⟩:=Option.map_eq_some_iff.1 hj
   obtain ⟨hjl,rfl⟩:=List.getElem?_eq_some_iff.1 hq
   rw [List.length_range] at hjl;rw [List.getElem_range]
   exact (hT j hjl).2
 · obtain ⟨i,hi2,rfl⟩:=List.mem_map.1 hs
   exact (hT i (List.mem_range.1 hi2)).1
theorem XfS (h:DataW.trod enc Tryz.prog w 0 spare held fuel 24 cs=some x):∃ A C,∃ l:List (List Ins),cs=[.slice A l.length C]∧ThreadsAt w A l∧l.length≤C∧C≤maxLen∧(A=none→C=0):=by
 obtain ⟨A,len,cap,rfl,hl,hc,hA,m,_,hi⟩:=XaJ X7 (by rw [XiK];omega) h
 rw [XiK] at hi
 obtain ⟨T,hT⟩:=choose_lt (p:=fun i (t:List Ins)=>∃ b off B C,A=some ⟨b,off,none⟩∧w.cell? ⟨b,off+i * 1,none⟩=some (.slice B t.length C)∧RowsAt w B 10 (t.map Ins.cells)∧t.length≤9223372036854775807) (fun i him=>by
   obtain ⟨b,off,cs',y,h1,_,_,h2,h3⟩:=hi i him
   obtain ⟨B,C,l,rfl,h4,h5,h6,_⟩:=Xjd h3
   exact ⟨l,b,off,B,C,h1,by have:=h2 0 _ rfl;rwa [Nat.add_zero] at this,h4,by unfold maxLen at h6;omega⟩)
 refine ⟨A,cap,(List.range len).map T,by simp,fun j c hj=>?_,by simpa using hl,hc,fun h=>(hA h).2⟩
 rw [List.getElem?_map] at hj
 obtain ⟨q,hq,rfl⟩:=Option.map_eq_some_iff.1 hj
 obtain ⟨hjl,rfl⟩:=List.getElem?_eq_some_iff.1 hq
 rw [List.length_range] at hjl;rw [List.getElem_range]
 exact hT j hjl
theorem CondAt.succ:∀ (h:Nat) (cs:List Value) (c:Cnd),CondAt w h cs c→CondAt w (h+1) cs c
 | 0,_,_,hc=>hc.elim
 | h+1,cs,.mk k t n v kids,hc=>by
   obtain ⟨A,C,h1,h2,h3⟩:=hc
   refine ⟨A,C,h1,h2,fun j kid hj=>?_⟩
   obtain ⟨b,off,cs',h4,h5,h6⟩:=h3 j kid hj
   exact ⟨b,off,cs',h4,h5,CondAt.succ h cs' kid h6⟩
theorem CondAt.mono {a b:Nat} (h:a≤b) {cs:List Value} {c:Cnd} (hc:CondAt w a cs c):CondAt w b cs c:=by
 induction h with
 | refl=>exact hc
 | step _ ih=>exact CondAt.succ _ _ _ ih
end
theorem D8:laidOutB Tryz.prog=true:=by kernel_rfl
end
section
open Go.ChangeShapes Go.WideShapes Go.ChangeAt Go.RowKit Go.Deep
set_option maxRecDepth 100000
def Xko : List (String × DataW Unit) := [("seisin/check.needs", Rows.laid_seisin_check_needs)]
theorem Xgg {P:Program} {W:World} {n:String} {d:DataW Unit}:∀ {l:List (String × DataW Unit)} {ps:List MemPlace},DataW.LaidVars P W l ps→(n,d) ∈ l →
   ∃ g t cs fuel p,P.globalNamed n=some g∧(P.globals[g]?).map (·.type)=some t∧W.var? P n=some cs∧DataW.trod (fun _=>()) P W 0 (fun _=>true) false fuel t cs.toList=some (d,p)
 | [],_,_,hm=>by cases hm
 | (n0,d0) :: r,ps,⟨g,t,cs,f,p,q,h1,h2,h3,h4,h5,_⟩,hm=>by
   rcases List.mem_cons.1 hm with e | e
   · cases e;exact ⟨g,t,cs,f,p,h1,h2,h3,h4⟩
   · exact Xgg h5 e
theorem gNeeds : Tryz.prog.globalNamed "seisin/check.needs" = some 0 := by kernel_rfl
theorem tNeeds:(Tryz.prog.globals[0]?).map (·.type)=some 217:=by kernel_rfl
theorem XaK {W:World} (h:laidMetH Tryz.prog Xko W):NeedsAt W:=by
 rw [MakeChecks.laidMetH_plain _ _ _ (by kernel_rfl)] at h
 obtain ⟨ps,hps,_,_⟩:=h
 obtain ⟨g0, t0, cs0, f0, p0, hg0, ht0, hv0, hd0⟩ := Xgg (n := "seisin/check.needs") (d := Rows.laid_seisin_check_needs) hps (by unfold Xko; exact .head _)
 obtain rfl:=Option.some.inj (gNeeds.symm.trans hg0)
 obtain rfl:=Option.some.inj (tNeeds.symm.trans ht0)
 obtain ⟨xs,m1,rfl,hx1,hlen,hn3,hel⟩:=DataW.trod_array underlying217 hd0
 have key:∀ i,i < 9→∃ n,cs0[i]? = some (.int .u8 n)∧(xs.map (·.1))[i]? = some (.lit (.int .u8 n)):=fun i hi=>by
   have h1:=hel i hi
   rw [cU8,List.getElem?_eq_getElem (by omega)] at h1
   obtain ⟨n,e1,e2,_⟩:=DataW.trod_int XO h1
   refine ⟨n,?_,?_⟩
   · have:(((cs0.toList.drop (i * 1)).take 1))[0]? = some (.int .u8 n):=by rw [e1];rfl
     rw [List.getElem?_take,if_pos (by omega),List.getElem?_drop,Nat.mul_one,Nat.add_zero,Array.getElem?_toList] at this
     exact this
   · rw [List.getElem?_map,List.getElem?_eq_getElem (by omega),e2];rfl
 simp only [Prod.mk.injEq] at hx1
 have hl:xs.map (·.1)=[.lit (.int .u8 0),.lit (.int .u8 35),.lit (.int .u8 38),.lit (.int .u8 29),.lit (.int .u8 7),.lit (.int .u8 7),.lit (.int .u8 15),.lit (.int .u8 32),.lit (.int .u8 92)]:=by
   have:=hx1.1
   simp only [Rows.laid_seisin_check_needs,DataW.agg.injEq] at this
   exact this.symm
 rw [hl] at key
 have fin:∀ i:UInt8,i < 9→∀ n:Int,(([.lit (.int .u8 0),.lit (.int .u8 35),.lit (.int .u8 38),.lit (.int .u8 29),.lit (.int .u8 7),.lit (.int .u8 7),.lit (.int .u8 15),.lit (.int .u8 32),.lit (.int .u8 92)]:List (DataW Unit))[i.toNat]? = some (.lit (.int .u8 n)))→Value.int .u8 n=b8 (XdW i):=by
   intro i hi n hn
   have h9:i.toNat < 9:=UInt8.lt_iff_toNat_lt.1 hi
   have hi2:i=UInt8.ofNat i.toNat:=by simp
   generalize i.toNat=k at h9 hn hi2
   subst hi2
   match k,h9 with
   | 0,_=>simp at hn;subst hn;rfl
   | 1,_=>simp at hn;subst hn;rfl
   | 2,_=>simp at hn;subst hn;rfl
   | 3,_=>simp at hn;subst hn;rfl
   | 4,_=>simp at hn;subst hn;rfl
   | 5,_=>simp at hn;subst hn;rfl
   | 6,_=>simp at hn;subst hn;rfl
   | 7,_=>simp at hn;subst hn;rfl
   | 8,_=>simp at hn;subst hn;rfl
   | k+9,h=>omega
 intro i hi
 obtain ⟨n,h1,h2⟩:=key i.toNat (UInt8.lt_iff_toNat_lt.1 hi)
 rw [World.var?_cell hg0 hv0,h1,fin i hi n h2]
section
variable {H:Type} {enc:TypeId × Value→H} {W:World} {v:Value} {d:DataW H} {p:List MemPlace}
theorem a_int (hv:Value.okWide Tryz.prog W .any 0 3 v) (h:DataW.Trod enc Tryz.prog W 0 (fun _=>true) true 3 v d p):∃ n:Int,v = .int .i64 n ∧ -9223372036854775808≤n∧n≤9223372036854775807:=by
 obtain ⟨n,rfl⟩:=okWide_int XT hv
 obtain ⟨fuel,hf⟩:=h
 obtain ⟨m,h1,_,hwf⟩:=DataW.trod_int XT hf
 simp only [Value.cells,List.cons.injEq,Value.int.injEq,and_true,true_and] at h1
 subst h1
 simp only [Lit.wf,Bool.and_eq_true,decide_eq_true_eq] at hwf
 rw [show IntKind.i64.min = -9223372036854775808 from by decide,show IntKind.i64.max=9223372036854775807 from by decide] at hwf
 exact ⟨n,rfl,hwf.1,hwf.2⟩
theorem a_u8 (hv:Value.okWide Tryz.prog W .any 0 5 v) (h:DataW.Trod enc Tryz.prog W 0 (fun _=>true) true 5 v d p):∃ u:UInt8,v=b8 u:=by
 obtain ⟨n,rfl⟩:=okWide_int XO hv
 obtain ⟨fuel,hf⟩:=h
 obtain ⟨u,h1⟩:=Xjb XO hf
 exact ⟨u,by simpa [Value.cells] using h1⟩
end
-- OpF
open Go.ChangeShapes Go.WideShapes Go.ChangeAt Go.RowKit Go.Deep
set_option maxRecDepth 100000
theorem Xih {P:Program} {t:TypeId} {n:Nat} (hb:ByT P t n) {H:Type} {enc:TypeId × Value→H} {w:World} {spare:Nat→Bool} {held:Bool} {fuel:Nat} {cs:List Value} {x:DataW H × List MemPlace} (h:DataW.trod enc P w 0 spare held fuel t cs=some x):∃ s:By,cs=bs n s:=by
 obtain ⟨hl,hi⟩:=hb.2 enc w spare held fuel cs x h
 obtain ⟨T,hT⟩:=choose_lt hi
 refine ⟨T,List.ext_getElem? fun i=>?_⟩
 rcases Nat.lt_or_ge i n with h1 | h1
 · rw [hT i h1,NW h1]
 · rw [List.getElem?_eq_none (by omega),Lc h1]
theorem b8T:ByT Tryz.prog 5 1:=XkG Tryz.underlying5 cU8
theorem bRegs:ByT Tryz.prog 30 8:=B7 Tryz.underlying30 b8T (by omega) (by kernel_rfl)
theorem XkK:ByT Tryz.prog 31 32:=B7 Tryz.underlying31 bRegs (by omega) (by kernel_rfl)
theorem bMem:ByT Tryz.prog 32 6:=B7 Tryz.underlying32 b8T (by omega) (by kernel_rfl)
theorem XkL:ByT Tryz.prog 34 38:=XeX Tryz.underlying34 (by kernel_rfl) fun i hi=>by
 rcases (by omega:i < 32∨32≤i) with h | h
 · exact ⟨0,_,32,rfl,XkK,Nat.zero_le _,by show i < 0+32;omega⟩
 · exact ⟨1,_,6,rfl,bMem,h,by show i < 32+6;omega⟩
section
variable {H:Type} {enc:TypeId × Value→H} {W:World} {v:Value} {d:DataW H} {p:List MemPlace}
theorem XjN (hv:Value.okWide Tryz.prog W .any 0 34 v) (h:DataW.Trod enc Tryz.prog W 0 (fun _=>true) true 34 v d p):∃ s:By,v = .agg (bs 38 s).toArray:=by
 obtain ⟨cs,rfl,_⟩:=okWide_struct Tryz.underlying34 hv
 obtain ⟨fuel,hf⟩:=h
 obtain ⟨s,hs⟩:=Xih XkL hf
 exact ⟨s,by rw [← hs];simp [Value.cells]⟩
end
-- OpM
open Go.ChangeShapes Go.WideShapes Go.ChangeAt Go.RowKit Go.Deep
set_option maxRecDepth 100000
theorem Xka {H:Type} (d:DataW H):1≤Rows.uptoBulk d:=by
 cases d with
 | lit l=>cases l <;> simp [Rows.uptoBulk]
 | nil=>simp [Rows.uptoBulk]
 | ptr d=>simp [Rows.uptoBulk]
 | slice elems spare=>simp [Rows.uptoBulk]
 | agg parts=>simp [Rows.uptoBulk]
 | iface t d=>simp [Rows.uptoBulk]
 | map entries=>simp [Rows.uptoBulk]
 | held h=>simp [Rows.uptoBulk]
theorem XaE {H:Type} {d:DataW H} {l:List (DataW H)} (h:d ∈ l):Rows.uptoBulk d≤Rows.uptoBulkAll l:=by
 induction l with
 | nil=>cases h
 | cons x r ih=>
   simp only [Rows.uptoBulkAll]
   cases List.mem_cons.1 h with
   | inl e=>subst e;omega
   | inr e=>have:=ih e;omega
section
variable {H:Type} {enc:TypeId × Value→H} {P:Program} {w:World} {spare:Nat→Bool} {held:Bool} {fuel:Nat} {t:TypeId} {cs:List Value} {x:DataW H × List MemPlace}
theorem XhC {e:TypeId} (ht:P.underlying t=some (.slice e)) (hpos:0 < P.cellsOf e) (h:DataW.trod enc P w 0 spare held fuel t cs=some x) :
   ∃ A len cap,cs=[.slice A len cap]∧len≤cap∧cap≤maxLen∧(A=none→len=0∧cap=0) ∧
     ∃ m,fuel=m+1∧∀ i,i < len→∃ b off cs' y,A=some ⟨b,off,none⟩∧b < w.heap.size∧cs'.length=P.cellsOf e∧w.rangeAt b (off+i * P.cellsOf e) cs'∧DataW.trod enc P w 0 spare held m e cs'=some y∧Rows.uptoBulk y.1+1≤Rows.uptoBulk x.1:=by
 obtain ⟨A,len,cap,rfl,hl,hc,hA,m,hm,hi⟩:=XaJ ht hpos h
 refine ⟨A,len,cap,rfl,hl,hc,hA,m,hm,fun i hil=>?_⟩
 rcases DataW.trod_slice ht h with ⟨h1,_⟩ | ⟨a,len',cap',elems,rest,n,hn,h1,hx,_,_,_,hlen,hel,_,_⟩
 · cases h1;omega
 · cases h1
   obtain ⟨b,off,cs',y,e1,e2,e3,e4,e5⟩:=hi i hil
   have he:=hel i hil
   rw [List.getElem?_eq_getElem (by omega)] at he
   obtain ⟨cs2,hc2,ht2⟩:=Option.bind_eq_some_iff.1 he
   obtain rfl:m=n:=by omega
   have hcs:cs2=cs':=by
     obtain ⟨_,hcl,hat⟩:=World.cells?_some hc2
     refine List.ext_getElem? fun k=>?_
     rcases Nat.lt_or_ge k (P.cellsOf e) with hk | hk
     · have h2:=hat k hk
       cases e1
       rw [Addr.add_mid,Addr.add_mid] at h2;rw [← h2];rw [e4 k _ (List.getElem?_eq_getElem (by omega))]
       exact (List.getElem?_eq_getElem (by omega)).symm
     · rw [List.getElem?_eq_none (by omega),List.getElem?_eq_none (by omega)]
   subst hcs
   refine ⟨b,off,cs2,y,e1,e2,e3,e4,e5,?_⟩
   rw [e5] at ht2
   have hy:y=elems[i]'(by omega):=Option.some.inj ht2
   rw [hx]
   have:=XaE (List.mem_map.2 ⟨_,List.getElem_mem (by omega:i < elems.length),rfl⟩:(elems[i]'(by omega)).1 ∈ elems.map (·.1))
   rw [hy]
   simp only [Rows.uptoBulk]
   omega
end
section
variable {H:Type} {enc:TypeId × Value→H} {w:World} {spare:Nat→Bool} {held:Bool} {fuel:Nat} {cs:List Value} {x:DataW H × List MemPlace}
theorem Xje:∀ (fuel:Nat) {cs:List Value} {x:DataW H × List MemPlace},DataW.trod enc Tryz.prog w 0 spare held fuel 27 cs=some x→∃ c:Cnd,CondAt w fuel cs c∧Nw c≤Rows.uptoBulk x.1:=by
 intro fuel
 induction fuel using Nat.strongRecOn with
 | ind fuel ih=>
   intro cs x h
   obtain ⟨xs,m,rfl,hx,hl,hxl,hf0⟩:=DataW.trod_struct Tryz.underlying27 h
   have hf:∀ (i:Nat) (f:Field),(_:Array Field)[i]? = some f→∃ y,DataW.trod enc Tryz.prog w 0 spare held m f.type ((cs.drop f.offset).take (Tryz.prog.cellsOf f.type))=some y:=fun i f hi=>⟨_,(hf0 i f hi).trans (List.getElem?_eq_getElem (by rw [hxl];exact (Array.getElem?_eq_some_iff.1 hi).1))⟩
   rw [Xig] at hl
   obtain ⟨a0,a1,a2,a3,a4,rfl⟩:=len5' hl
   have key:∀ o,DataW.trod enc Tryz.prog w 0 spare held m 5 (([a0,a1,a2,a3,a4].drop o).take (Tryz.prog.cellsOf 5)) ≠ none→∃ u:UInt8,([a0,a1,a2,a3,a4].drop o).take 1=[b8 u]:=by
     intro o ho
     obtain ⟨y,hy⟩:=Option.ne_none_iff_exists'.1 ho
     rw [cU8] at hy
     exact Xjb Tryz.underlying5 hy
   have nn:∀ {z:Option (DataW H × List MemPlace)},(∃ y,z=some y)→z ≠ none:=fun ⟨y,hy⟩=>by rw [hy];exact fun h=>by cases h
   obtain ⟨u0,e0⟩:=key 0 (nn (hf 0 _ rfl))
   obtain ⟨u1,e1⟩:=key 1 (nn (hf 1 _ rfl))
   obtain ⟨u2,e2⟩:=key 2 (nn (hf 2 _ rfl))
   obtain ⟨u3,e3⟩:=key 3 (nn (hf 3 _ rfl))
   obtain ⟨y4,h4⟩:=hf 4 _ rfl
   have hy4:xs[4]? = some y4:=(hf0 4 _ rfl).symm.trans h4
   replace h4:DataW.trod enc Tryz.prog w 0 spare held m 25 (([a0,a1,a2,a3,a4].drop 4).take (Tryz.prog.cellsOf 25))=_:=h4
   rw [XkF] at h4
   obtain ⟨A,len,cap,e4,hle,hc,hA,m2,rfl,hi⟩:=XhC Tryz.underlying25 (by rw [Xig];omega) h4
   rw [Xig] at hi
   simp only [List.drop,List.take,List.cons.injEq,and_true] at e0 e1 e2 e3 e4
   subst e0 e1 e2 e3 e4
   obtain ⟨T,hT⟩:=choose_lt (p:=fun i (c:Cnd)=>∃ b off cs',A=some ⟨b,off,none⟩∧w.rangeAt b (off+i * 5) cs'∧CondAt w (m2+1) cs' c∧Nw c+1≤Rows.uptoBulk y4.1) (fun i him=>by
     obtain ⟨b,off,cs',y,h1,_,_,h2,h3,h6⟩:=hi i him
     obtain ⟨c,hcc,hcd⟩:=ih m2 (by omega) h3
     exact ⟨c,b,off,cs',h1,h2,hcc.mono (by omega),by omega⟩)
   refine ⟨.mk u0 u1 u2 u3 ((List.range len).map T),⟨A,cap,by simp,by rw [List.length_map,List.length_range];unfold maxLen at hc;omega,fun j kid hj=>?_⟩,?_⟩
   · rw [List.getElem?_map] at hj
     obtain ⟨q,hq,rfl⟩:=Option.map_eq_some_iff.1 hj
     obtain ⟨hjl,rfl⟩:=List.getElem?_eq_some_iff.1 hq
     rw [List.length_range] at hjl;rw [List.getElem_range]
     obtain ⟨b,off,cs',h1,h2,h3,_⟩:=hT j hjl
     exact ⟨b,off,cs',h1,h2,h3⟩
   · have h1:El ((List.range len).map T)≤Rows.uptoBulk y4.1 - 1:=deepL_le.2 fun c hc=>by
       obtain ⟨i,hi2,rfl⟩:=List.mem_map.1 hc
       obtain ⟨_,_,_,_,_,_,h⟩:=hT i (List.mem_range.1 hi2)
       omega
     have h2:=XaE (List.mem_map.2 ⟨_,List.mem_of_getElem? hy4,rfl⟩:y4.1 ∈ xs.map (·.1))
     have h3:=Xka y4.1
     rw [Nw,hx]
     simp only [Rows.uptoBulk]
     omega
theorem Xjc (h:DataW.trod enc Tryz.prog w 0 spare held fuel 29 cs=some x):∃ p:Prg,ProgAt w cs p∧Nw p.cond≤Rows.uptoBulk x.1:=by
 obtain ⟨xs,m,_,hx,hl,hxl,hf0⟩:=DataW.trod_struct Tryz.underlying29 h
 have hf:∀ (i:Nat) (f:Field),(_:Array Field)[i]? = some f→∃ y,DataW.trod enc Tryz.prog w 0 spare held m f.type ((cs.drop f.offset).take (Tryz.prog.cellsOf f.type))=some y:=fun i f hi=>⟨_,(hf0 i f hi).trans (List.getElem?_eq_getElem (by rw [hxl];exact (Array.getElem?_eq_some_iff.1 hi).1))⟩
 rw [cProg] at hl
 obtain ⟨a0,a1,a2,a3,a4,a5,a6,a7,a8,a9,rfl⟩:=XiE hl
 obtain ⟨y0,h0⟩:=hf 0 _ rfl
 obtain ⟨y1,h1⟩:=hf 1 _ rfl
 obtain ⟨y2,h2⟩:=hf 2 _ rfl
 obtain ⟨y3,h3⟩:=hf 3 _ rfl
 obtain ⟨y4,h4⟩:=hf 4 _ rfl
 obtain ⟨y5,h5⟩:=hf 5 _ rfl
 have hy5:xs[5]? = some y5:=(hf0 5 _ rfl).symm.trans h5
 replace h0:DataW.trod enc Tryz.prog w 0 spare held m 9 (([a0,a1,a2,a3,a4,a5,a6,a7,a8,a9].drop 0).take (Tryz.prog.cellsOf 9))=_:=h0
 replace h1:DataW.trod enc Tryz.prog w 0 spare held m 22 (([a0,a1,a2,a3,a4,a5,a6,a7,a8,a9].drop 1).take (Tryz.prog.cellsOf 22))=_:=h1
 replace h2:DataW.trod enc Tryz.prog w 0 spare held m 23 (([a0,a1,a2,a3,a4,a5,a6,a7,a8,a9].drop 2).take (Tryz.prog.cellsOf 23))=_:=h2
 replace h3:DataW.trod enc Tryz.prog w 0 spare held m 24 (([a0,a1,a2,a3,a4,a5,a6,a7,a8,a9].drop 3).take (Tryz.prog.cellsOf 24))=_:=h3
 replace h4:DataW.trod enc Tryz.prog w 0 spare held m 5 (([a0,a1,a2,a3,a4,a5,a6,a7,a8,a9].drop 4).take (Tryz.prog.cellsOf 5))=_:=h4
 replace h5:DataW.trod enc Tryz.prog w 0 spare held m 27 (([a0,a1,a2,a3,a4,a5,a6,a7,a8,a9].drop 5).take (Tryz.prog.cellsOf 27))=_:=h5
 rw [cStr] at h0;rw [cStrs] at h1;rw [cU8s] at h2;rw [Xjz] at h3;rw [cU8] at h4;rw [Xig] at h5
 obtain ⟨s,e0,hs⟩:=Xkc Tryz.underlying9 h0
 obtain ⟨LA,LC,locs,e1,l1,l2,l3,l4,_⟩:=Xkb h1
 obtain ⟨IA,IC,init,e2,i1,i2,i3,_⟩:=Xjf h2
 obtain ⟨TA,TC,threads,e3,t1,t2,t3,_⟩:=XfS h3
 obtain ⟨ask,e4⟩:=Xjb Tryz.underlying5 h4
 obtain ⟨c,hc,hcd⟩:=Xje m h5
 simp only [List.drop,List.take,List.cons.injEq,and_true] at e0 e1 e2 e3 e4 hc
 subst e0 e1 e2 e3 e4
 unfold maxLen at l4 i3 t3
 refine ⟨⟨s,locs,init,threads,ask,c⟩,⟨LA,LC,IA,IC,TA,TC,m,[a5,a6,a7,a8,a9],rfl,hs,l1,(by show locs.length≤_;omega),l3,l2,i1,(by show init.length≤_;omega),t1,(by show threads.length≤_;omega),hc⟩,?_⟩
 · show Nw c≤_
   rw [hx]
   have:=XaE (List.mem_map.2 ⟨_,List.mem_of_getElem? hy5,rfl⟩:y5.1 ∈ xs.map (·.1))
   simp only [Rows.uptoBulk]
   omega
end
section
variable {H:Type} {enc:TypeId × Value→H} {W:World} {v:Value} {d:DataW H} {p:List MemPlace}
theorem XjM (hv:Value.okWide Tryz.prog W .any 0 29 v) (h:DataW.Trod enc Tryz.prog W 0 (fun _=>true) true 29 v d p):∃ cs q,v = .agg cs.toArray∧ProgAt W cs q∧Nw q.cond≤Rows.uptoBulk d:=by
 obtain ⟨cs,rfl,_⟩:=okWide_struct Tryz.underlying29 hv
 obtain ⟨fuel,hf⟩:=h
 obtain ⟨q,hq,hb⟩:=Xjc hf
 exact ⟨cs.toList,q,by simp,hq,hb⟩
end
end
end Go.Proofs.YtcpehikcegoojaaGreatDoor
