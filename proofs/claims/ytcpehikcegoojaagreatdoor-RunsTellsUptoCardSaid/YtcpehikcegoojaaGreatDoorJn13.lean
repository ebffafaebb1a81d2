/-
  WALK2. The laws of chapter 15: out, pass, drain, Finals, awake. Conditions: block 0 holds the table of needs.
-/
import Derived.Test.YtcpehikcegoojaaGreatDoorJn12
import Derived.Test.YtcpehikcegoojaaGreatDoorJn9
import Derived.Test.YtcpehikcegoojaaGreatDoorJn10
import Derived.Test.YtcpehikcegoojaaGreatDoorCkK
set_option linter.unusedSimpArgs false
set_option linter.unusedVariables false
namespace Go.Proofs.YtcpehikcegoojaaGreatDoor
-- RnX
open Go.Proofs.Tryz
open Go.RowKit
set_option maxRecDepth 100000
theorem Eh (x y z:UInt8) (w0:World) :
   Calls Tryz.prog 16 #[YtcpehikcegoojaaGreatDoor.b8 x,YtcpehikcegoojaaGreatDoor.b8 y,YtcpehikcegoojaaGreatDoor.b8 z] w0 fun e w'=>e = .returned (.agg (bs 38 (XbK x y z)).toArray)∧Below w0.heap.size w0 w':=by
 have H:=Own.start w0 none
 refine JF func16 rfl ntmps16 rfl (fun a F=>?_);refine cSR fun K1 hK1=>?_;refine Mo H Xg8 F rfl rfl ?_;clear F a H;intro b6 a w F H;refine nK hK1 (cSR fun K2 hK2=>Xf F rfl (qBaB zB32 Yj XH rfl rfl rfl (FillB.one rfl rfl (FillB.one (v:=1) rfl rfl FillB.nil)) (Xhx (places:=[(0,32),(32,6)]) Xg8 X5 (by kernel_rfl) rfl rfl rfl (FillB.row rfl rfl FillB.nil) ?_)));clear hK1;clear F a;intro a F;refine Mo H Xg8 F rfl rfl ?_;clear F a H;intro b7 a w F H;refine Xt H 0 X0 F rfl rfl rfl ?_;clear H;intro w H;rw [JE] at H;refine nK hK2 (cSR fun K3 hK3=>Xf F rfl (Xh rfl (Xr (f:=0) (k:=0) X5 rfl Zi rfl rfl rfl ?_)));clear hK2;clear F a;intro a F
 refine sIa (j:=0) YV X1 F rfl rfl rfl rfl ?_ ?_
 focus (omega)
 clear F a;intro a F
 refine sIa (j:=0) X9 XH F rfl rfl rfl rfl ?_ ?_
 focus (omega)
 clear F a;intro a F;refine LJ H 0 XH F rfl rfl rfl rfl (by omega) ?_;clear H;intro w H;refine Xb (f:=0) (k:=0) X5 rfl Zi rfl rfl F rfl ?_;clear F a;intro a F
 refine sIa (j:=1) YV X1 F rfl rfl rfl rfl ?_ ?_
 focus (omega)
 clear F a;intro a F
 refine sIa (j:=0) X9 XH F rfl rfl rfl rfl ?_ ?_
 focus (omega)
 clear F a;intro a F;refine LJ H 0 XH F rfl rfl rfl rfl (by omega) ?_;clear H;intro w H;refine nK hK3 (cSR fun K4 hK4=>Xs X5 rfl X0 F rfl (H.whole 0 rfl) ?_);clear hK3;clear F a;intro a F;refine Xt H 1 X0 F rfl rfl rfl ?_;clear H;intro w H;rw [JE] at H;refine nK hK4 ?_;clear hK4;refine wp_ret ?_;refine NE results16 F rfl X5 rfl X0 H 1 rfl ?_
 refine ⟨?_,H.below⟩
 refine congrArg (fun l:List Value=>Ending.returned (.agg l.toArray)) (Xcl fun i hi=>?_)
 simp only [put,lay,zb,XbK]
 by_cases h0:i=0
 · subst h0;rfl
 by_cases h8:i=8
 · subst h8;rfl
 by_cases h32:i=32
 · subst h32;rfl
 by_cases h33:i=33
 · subst h33;rfl
 rw [if_neg (by omega),if_neg (by omega),if_neg h0,if_neg h8,if_neg h32,if_neg h33]
 split
 · rw [if_neg (by omega),if_neg (by omega)]
 · rfl
theorem Nq (t:UInt8) (w0:World) :
   Calls Tryz.prog 17 #[YtcpehikcegoojaaGreatDoor.b8 t] w0 fun e w'=>e = .returned (.agg (Pss.mk t false 0).cells.toArray)∧Below w0.heap.size w0 w':=by
 have H:=Own.start w0 none
 refine JF func17 rfl ntmps17 rfl (fun a F=>?_);refine cSR fun K1 hK1=>?_;refine sAl H Ym F rfl rfl ?_;clear F a H;intro b2 a w F H;refine nK hK1 (cSR fun K2 hK2=>Xf F rfl (qBd (places:=[(0,1),(1,1),(2,1)]) Ym X6 (by kernel_rfl) rfl rfl rfl rfl ?_));clear hK1;clear F a;intro a F
 refine sSr H 0 ?si F rfl rfl rfl ?s1 rfl rfl ?_
 case si=>exact Jz Yd
 case s1=>rfl
 clear H;intro w H;refine nK hK2 ?_;clear hK2;refine wp_ret ?_;refine XjC results17 F rfl X6 rfl H 0 rfl Yd rfl ?_
 exact ⟨rfl,H.below⟩
theorem B1 (t:UInt8) (w0:World) :
   Calls Tryz.prog 18 #[YtcpehikcegoojaaGreatDoor.b8 t] w0 fun e w'=>e = .returned (.agg (Pss.mk t true 0).cells.toArray)∧Below w0.heap.size w0 w':=by
 have H:=Own.start w0 none
 refine JF func18 rfl ntmps18 rfl (fun a F=>?_);refine cSR fun K1 hK1=>?_;refine sAl H Ym F rfl rfl ?_;clear F a H;intro b2 a w F H;refine nK hK1 (cSR fun K2 hK2=>Xf F rfl (qBd (places:=[(0,1),(1,1),(2,1)]) Ym X6 (by kernel_rfl) rfl rfl rfl rfl ?_));clear hK1;clear F a;intro a F
 refine sSr H 0 ?si F rfl rfl rfl ?s1 rfl rfl ?_
 case si=>exact Jz Yd
 case s1=>rfl
 clear H;intro w H;refine nK hK2 ?_;clear hK2;refine wp_ret ?_;refine XjC results18 F rfl X6 rfl H 0 rfl Yd rfl ?_
 exact ⟨rfl,H.below⟩
theorem XdJ {l:List By} {i:Nat} {f:By} (h:l[i]? = some f):(tl l)[i]? = some (toL 38 f):=by
 unfold tl
 rw [List.getElem?_map,h];rfl
theorem C4 (A B:Option Addr) (CA CB:Nat) (l q:List By) (w0:World) (hA:RowsAt w0 A 38 (l.map (bs 38))) (hB:RowsAt w0 B 38 (q.map (bs 38))) (hl:l.length≤9223372036854775807) (hq:q.length≤9223372036854775807) :
   Calls Tryz.prog 12 #[.slice A l.length CA,.slice B q.length CB] w0 fun e w'=>e = .returned (.bool (decide (tl l=tl q)))∧Below w0.heap.size w0 w':=by
 have H:=Own.start w0 none
 refine JF func12 rfl ntmps12 rfl (fun a F=>?_);refine cSR fun K1 hK1=>Xa F rfl (qNK hK1 ?_);clear hK1;clear F a;intro a F;refine JD (fun K2 hK2=>?_);refine cSR fun K3 hK3=>Xf F rfl (Xx XU rfl (Xh rfl (Xx XU rfl (Xe rfl rfl DR (qNK hK3 ?_)))));clear hK3;clear F a;intro a F
 refine cIf F rfl (fun h10=>?_) (fun h10=>?_)
 ·
  replace h10:=Ep h10;refine cSR fun K4 hK4=>Xa F rfl (qNK hK4 ?_);clear hK4;clear F a;intro a F;refine wp_ret ?_;simp only [Exit.then];refine JI results12 F rfl ?_
  (have hne:tl l ≠ tl q:=fun e=>by
    have:=congrArg List.length e
    rw [Cy,Cy] at this
    omega
   rw [show decide (tl l=tl q)=false from decide_eq_false hne]
   exact ⟨rfl,H.below⟩)
 replace h10:=Er h10;refine wp_skip (hK2 _ _ ?_);clear hK2;refine JD (fun K5 hK5=>?_);refine cSR fun K6 hK6=>Xf F rfl (Xx XU rfl (Xh rfl (qNK hK6 ?_)));clear hK6;clear F a;intro a F;refine wp_block ?_
 refine JN [0,1,12] (fun m ups w=>∃ j:Nat,m=l.length - j∧ups=[(13,.int .i64 ((j:Nat):Int))]∧j≤l.length∧(∀ i,i < j→(tl l)[i]? = (tl q)[i]?)∧Own w0 none w []) F (l.length) [(13,.int .i64 ((0:Nat):Int))] ?_ ?_
 · exact ⟨0,rfl,rfl,by omega,fun i h=>absurd h (by omega),H⟩
 clear F
 clear H
 intro m ups a w hI F
 obtain ⟨j,rfl,rfl,hj,hsame,H⟩:=hI
 refine cSR fun K7 hK7=>Xg F rfl rfl QF (qNK hK7 ?_);clear hK7;clear F a;intro a F;refine JD (fun K8 hK8=>?_)
 refine cIf F rfl (fun h14=>?_) (fun h14=>?_)
 ·
  replace h14:=of_decide_eq_true h14
  have hjl:j < l.length:=by omega
  have hjq:j < q.length:=by omega
  obtain ⟨x,hx⟩:∃ x,l[j]? = some x:=⟨_,List.getElem?_eq_getElem hjl⟩
  obtain ⟨y,hy⟩:∃ y,q[j]? = some y:=⟨_,List.getElem?_eq_getElem hjq⟩
  obtain ⟨b1,o1,rfl,hR1⟩:=hA j (bs 38 x) (by rw [List.getElem?_map,hx];rfl)
  obtain ⟨b2,o2,rfl,hR2⟩:=hB j (bs 38 y) (by rw [List.getElem?_map,hy];rfl)
  refine wp_skip (hK8 _ _ ?_);clear hK8;refine JD (fun K9 hK9=>?_);refine wp_block ?_;refine cSR fun K10 hK10=>Xf F rfl (Xd rfl (qNK hK10 ?_));clear hK10;clear F a;intro a F;refine JD (fun K11 hK11=>?_);refine Xi H ?_;replace H:=H.drew;refine Xj 0 rfl F rfl (fun w=>rMv F rfl) H qq0 (Xm 1 rfl rfl (fun a F w=>rMv F rfl) H qq0 ?_);clear F a;intro a F
  refine Xq (k:=2) (i:=2) rfl F rfl (fun w=>rIx XU X0 F rfl rfl ?_) H (fun _ _ _ h=>h) ?_
  focus exact hjl
  clear F a;intro a F;refine Xv 3 rfl F rfl rfl (fun w H=>Nt X5 rfl X0 F rfl (H.argR hR1)) H qq0 (Xm 4 rfl rfl (fun a F w=>rMv F rfl) H qq0 (Xm 5 rfl rfl (fun a F w=>rMv F rfl) H qq0 ?_));clear F a;intro a F
  refine Xq (k:=6) (i:=6) rfl F rfl (fun w=>rIx XU X0 F rfl rfl ?_) H (fun _ _ _ h=>h) ?_
  focus exact hjq
  clear F a;intro a F;refine Xv 7 rfl F rfl rfl (fun w H=>Nt X5 rfl X0 F rfl (H.argR hR2)) H qq0 (Xm 8 rfl rfl (fun a F w=>Q0 F rfl rfl (XjD Xky Xkr rfl)) H qq0 ?_);clear F a;intro a F;refine Xp (k:=9) ?_;refine hK11 _ _ ?_;clear hK11
  refine cIf F rfl (fun h24=>?_) (fun h24=>?_)
  ·
   replace h24:=N1 h24;refine cSR fun K12 hK12=>Xa F rfl (qNK hK12 ?_);clear hK12;clear F a;intro a F;refine wp_ret ?_;refine xI ?_;refine JI results12 F rfl ?_
   (have hne:tl l ≠ tl q:=fun e=>by
     have h1:=XdJ hx
     rw [e,XdJ hy] at h1
     have h2:=toL_eq.1 (Option.some.inj h1).symm
     rw [h2] at h24
     simp at h24
    rw [show decide (tl l=tl q)=false from decide_eq_false hne]
    exact ⟨rfl,H.below⟩)
  replace h24:=N2 h24;refine wp_skip (hK9 _ _ (JY ?_));clear hK9
  refine Xg F rfl rfl (JJ (j:=1) ?_) ?_
  focus omega
  clear F a;intro a F;refine Xf F rfl ?_;clear F a;intro a F;refine J4 ?_
  (have he:toL 38 x=toL 38 y:=toL_eq.2 (by simpa using h24)
   exact ⟨_,by omega,_,⟨j+1,rfl,rfl,by omega,fun i hi=>(by
    rcases Nat.lt_or_ge i j with h | h
    · exact hsame i h
    · obtain rfl:i=j:=by omega
      rw [XdJ hx,XdJ hy,he]),H.sel [] rfl rfl⟩,F.tt⟩)
 replace h14:=of_decide_eq_false h14;refine wp_exit ?_;refine hK5 _ _ (cSR fun K13 hK13=>Xa F rfl (qNK hK13 ?_));clear hK5 hK13;clear F a;intro a F;refine wp_ret ?_;refine JI results12 F rfl ?_
 (have he:tl l=tl q:=List.ext_getElem? fun i=>by
   rcases Nat.lt_or_ge i l.length with h | h
   · exact hsame i (by omega)
   · rw [List.getElem?_eq_none (by rw [Cy];omega),List.getElem?_eq_none (by rw [Cy];omega)]
  rw [show decide (tl l=tl q)=true from decide_eq_true he]
  exact ⟨rfl,H.below⟩)
theorem XjA (cs:List Value) (w0:World) (hP:ProgAt w0 cs sbP) (hN:NeedsAt w0) :
   Calls Tryz.prog 8 #[.agg cs.toArray,YtcpehikcegoojaaGreatDoor.b8 1,.int .i64 13] w0 fun e w'=>e = .returned (.tuple #[.int .i64 13,.int .i64 3,.int .i64 0])∧Below w0.heap.size w0 w':=by
 have h:=B2 cs sbP w0 hP hN 1 13 (by decide) (by decide)
 rw [st_E Xj0,Xj0] at h
 exact h
theorem XjB (cs:List Value) (w0:World) (hP:ProgAt w0 cs sbP) (hN:NeedsAt w0) :
   Calls Tryz.prog 8 #[.agg cs.toArray,YtcpehikcegoojaaGreatDoor.b8 1,.int .i64 12] w0 fun e w'=>∃ u v:Int,e = .returned (.tuple #[.int .i64 u,.int .i64 v,.int .i64 5])∧Below w0.heap.size w0 w':=by
 have h:=B2 cs sbP w0 hP hN 1 12 (by decide) (by decide)
 rw [scE12] at h
 exact h.mono fun _ _ h=>⟨_,_,h⟩
theorem Xgz (cs:List Value) (w0:World) (hP:ProgAt w0 cs sbP) (hN:NeedsAt w0) :
   Calls Tryz.prog 7 #[.agg cs.toArray,YtcpehikcegoojaaGreatDoor.b8 2,.int .i64 1000] w0 fun e w'=>∃ (A:Option Addr) (c:Nat) (l2:List By),e = .returned (.tuple #[.slice A l2.length c,.int .i64 0])∧tl l2=tl e4∧Own w0 none w' [.rws 34 38 (.slice A l2.length c) (l2.map (bs 38))]:=by
 have h:=C6 cs sbP w0 hP hN 2 1000 (by decide) (by decide)
 rw [st_E Xam] at h
 exact h.mono fun _ _ ⟨A,c,l2,h1,h2,h3⟩=>⟨A,c,l2,h1,Xfd h2,h3⟩
theorem XiN (cs:List Value) (w0:World) (hP:ProgAt w0 cs sbP) (hN:NeedsAt w0) :
   Calls Tryz.prog 9 #[.agg cs.toArray,YtcpehikcegoojaaGreatDoor.b8 2,.agg (bs 38 (XbK 1 0 0)).toArray,.int .i64 1000] w0 fun e w'=>∃ A c,e = .returned (.tuple #[.slice A 6 c,.int .i64 0])∧Own w0 none w' [.rws 73 3 (.slice A 6 c) (([⟨0,false,0⟩,⟨0,false,0⟩,⟨1,false,0⟩,⟨1,false,0⟩,⟨0,true,0⟩,⟨1,true,0⟩]:List Pss).map Pss.cells)]:=by
 have h:=Bg cs sbP w0 hP hN 2 (XbK 1 0 0) 1000 (by decide) (by decide)
 rw [Xiq Xam,Xcw Xam,XjV,if_pos XjU] at h
 exact h
theorem XiO (cs:List Value) (w0:World) (hP:ProgAt w0 cs sbP) (hN:NeedsAt w0) :
   Calls Tryz.prog 9 #[.agg cs.toArray,YtcpehikcegoojaaGreatDoor.b8 1,.agg (bs 38 (XbK 1 1 1)).toArray,.int .i64 1000] w0 fun e w'=>∃ A c,e = .returned (.tuple #[.slice A 4 c,.int .i64 0])∧Own w0 none w' [.rws 73 3 (.slice A 4 c) (([⟨0,false,0⟩,⟨1,false,0⟩,⟨0,false,0⟩,⟨1,false,0⟩]:List Pss).map Pss.cells)]:=by
 have h:=Bg cs sbP w0 hP hN 1 (XbK 1 1 1) 1000 (by decide) (by decide)
 rw [Xiq XcM,Xcw XcM,XjZ,if_pos XjY] at h
 exact h
theorem XiP (cs:List Value) (w0:World) (hP:ProgAt w0 cs sbP) (hN:NeedsAt w0) :
   Calls Tryz.prog 9 #[.agg cs.toArray,YtcpehikcegoojaaGreatDoor.b8 1,.agg (bs 38 (XbK 7 1 1)).toArray,.int .i64 1000] w0 fun e w'=>∃ v,e = .returned (.tuple #[v,.int .i64 6])∧Below w0.heap.size w0 w':=by
 have h:=Bg cs sbP w0 hP hN 1 (XbK 7 1 1) 1000 (by decide) (by decide)
 rw [Xcw XcM,if_neg (by rw [sc_no];decide)] at h
 exact h.mono fun _ _ ⟨A,c,h1,h2⟩=>⟨_,h1,h2.below⟩
set_option maxHeartbeats 1000000 in
theorem Ev (w0:World) (hN:NeedsAt w0) :
   Calls Tryz.prog 4 #[] w0 fun e w'=>e = .returned (.bool true)∧Below w0.heap.size w0 w':=by
 have H:=Own.start w0 none
 refine JF func4 rfl ntmps4 rfl (fun a F=>?_);refine cSR fun K1 hK1=>Xa F rfl (qNK hK1 (qSR fun K2 hK2=>?_));clear hK1;clear F a;intro a F;refine Xu call15 F rfl (Xa5 _) ?_;rintro e w ⟨x1,x2,x3,x4,x5,rfl,H2⟩;replace H:=H.join H2;clear H2;refine ⟨_,rfl,?_⟩;clear F a;intro a F;refine sAl H zeroValue29 F rfl rfl ?_;clear F a H;intro b1 a w F H
 refine sSr H 0 ?si F rfl rfl rfl ?s1 rfl rfl ?_
 case si=>exact Jz Ya
 case s1=>rfl
 clear H;intro w H;refine nK hK2 (cSR fun K3 hK3=>?_);clear hK2
 refine Xw XM rfl ?si F rfl (H.whole 0 rfl) ?_
 case si=>exact Jz Ya
 clear F a;intro a F;refine Xu call8 F rfl (XjA _ _ (Di (H.sel [1,2,3,4,5] rfl rfl)) (hN.own H)) (gG H ?_);clear F a H;intro a w F H;refine Xf F rfl (NU rfl rfl rfl rfl (NU rfl rfl rfl rfl (NU rfl rfl rfl rfl (Xd rfl (Xd rfl (Xd rfl (qNK hK3 (qSR fun K4 hK4=>?_))))))));clear hK3;clear F a;intro a F
 refine Xw XM rfl ?si F rfl (H.whole 0 rfl) ?_
 case si=>exact Jz Ya
 clear F a;intro a F;refine Xu call8 F rfl (XjB _ _ (Di (H.sel [1,2,3,4,5] rfl rfl)) (hN.own H)) ?_;rintro e w ⟨u12,v12,rfl,hb⟩;replace H:=H.grow hb;clear hb;refine ⟨_,rfl,?_⟩;clear F a;intro a F;refine Xf F rfl (NU rfl rfl rfl rfl (NU rfl rfl rfl rfl (NU rfl rfl rfl rfl (Xd rfl (Xd rfl (Xd rfl (qNK hK4 (qSR fun K5 hK5=>?_))))))));clear hK4;clear F a;intro a F
 refine Xw XM rfl ?si F rfl (H.whole 0 rfl) ?_
 case si=>exact Jz Ya
 clear F a;intro a F;refine Xu call7 F rfl (Xgz _ _ (Di (H.sel [1,2,3,4,5] rfl rfl)) (hN.own H)) ?_;rintro e w ⟨AF,cF,l2,rfl,htl,H2⟩;replace H:=H.join H2;clear H2;refine ⟨_,rfl,?_⟩;clear F a;intro a F;refine Xf F rfl (NU rfl rfl rfl rfl (NU rfl rfl rfl rfl (Xd rfl (Xd rfl (qNK hK5 ?_)))));clear hK5;clear F a;intro a F;refine JD (fun K6 hK6=>?_);refine Xi H ?_;replace H:=H.drew
 refine Xk (k:=0) (i:=0) rfl F rfl rfl (fun w H=>rLr XM rfl ?si F rfl (H.whole 1 rfl)) H (fun _ _ _ h=>h) ?_
 case si=>exact Jz Ya
 clear F a;intro a F;refine Xn (k:=1) (i:=1) rfl F (J3 call16 F rfl rfl (Eh 1 0 0 _) (gG H ?_));clear F a H;intro a w F H;refine JR H ?_;refine Xn (k:=2) (i:=2) rfl F (J3 call9 F rfl rfl (XiN _ _ (Di (H.sel [2,3,4,5,6] rfl rfl)) (hN.own H)) ?_);rintro e w ⟨A1,c1,rfl,H2⟩;replace H:=H.join H2;clear H2;refine ⟨_,rfl,?_⟩;clear F a;intro a F;refine Xo H ?_;refine Xj 3 rfl F rfl (fun w=>rMv F rfl) H qq0 (Xm 4 rfl rfl (fun a F w=>Mi F rfl rfl) H qq0 (Xm 5 rfl rfl (fun a F w=>Mi F rfl rfl) H qq0 (Xm 6 rfl rfl (fun a F w=>rAs F rfl) H qq0 (Xm 7 rfl rfl (fun a F w=>rAs F rfl) H qq0 ?_))));clear F a;intro a F;refine Xp (k:=8) ?_;refine hK6 _ _ ?_;clear hK6;refine JD (fun K7 hK7=>?_);refine Xi H ?_;replace H:=H.drew
 refine Xk (k:=0) (i:=0) rfl F rfl rfl (fun w H=>rLr XM rfl ?si F rfl (H.whole 2 rfl)) H (fun _ _ _ h=>h) ?_
 case si=>exact Jz Ya
 clear F a;intro a F;refine Xn (k:=1) (i:=1) rfl F (J3 call16 F rfl rfl (Eh 1 1 1 _) (gG H ?_));clear F a H;intro a w F H;refine JR H ?_;refine Xn (k:=2) (i:=2) rfl F (J3 call9 F rfl rfl (XiO _ _ (Di (H.sel [3,4,5,6,7] rfl rfl)) (hN.own H)) ?_);rintro e w ⟨A2,c2,rfl,H2⟩;replace H:=H.join H2;clear H2;refine ⟨_,rfl,?_⟩;clear F a;intro a F;refine Xo H ?_;refine Xj 3 rfl F rfl (fun w=>rMv F rfl) H qq0 (Xm 4 rfl rfl (fun a F w=>Mi F rfl rfl) H qq0 (Xm 5 rfl rfl (fun a F w=>Mi F rfl rfl) H qq0 (Xm 6 rfl rfl (fun a F w=>rAs F rfl) H qq0 (Xm 7 rfl rfl (fun a F w=>rAs F rfl) H qq0 ?_))));clear F a;intro a F;refine Xp (k:=8) ?_;refine hK7 _ _ ?_;clear hK7;refine JD (fun K8 hK8=>?_);refine Xi H ?_;replace H:=H.drew
 refine Xk (k:=0) (i:=0) rfl F rfl rfl (fun w H=>rLr XM rfl ?si F rfl (H.whole 3 rfl)) H (fun _ _ _ h=>h) ?_
 case si=>exact Jz Ya
 clear F a;intro a F;refine Xn (k:=1) (i:=1) rfl F (J3 call16 F rfl rfl (Eh 7 1 1 _) (gG H ?_));clear F a H;intro a w F H;refine JR H ?_;refine Xn (k:=2) (i:=2) rfl F (J3 call9 F rfl rfl (XiP _ _ (Di (H.sel [4,5,6,7,8] rfl rfl)) (hN.own H)) ?_);rintro e w ⟨v49,rfl,hb⟩;replace H:=H.grow hb;clear hb;refine ⟨_,rfl,?_⟩;clear F a;intro a F;refine Xo H ?_;refine Xj 3 rfl F rfl (fun w=>rMv F rfl) H qq0 (Xm 4 rfl rfl (fun a F w=>Mi F rfl rfl) H qq0 (Xm 5 rfl rfl (fun a F w=>Mi F rfl rfl) H qq0 (Xm 6 rfl rfl (fun a F w=>rAs F rfl) H qq0 (Xm 7 rfl rfl (fun a F w=>rAs F rfl) H qq0 ?_))));clear F a;intro a F;refine Xp (k:=8) ?_;refine hK8 _ _ (cSR fun K9 hK9=>Xf F rfl (Xe rfl rfl Mp (Xh rfl ?_)));clear hK8;clear F a;intro a F
 refine F.split 54 rfl ?_ ?_ <;> (clear F;intro h54 F)
 ·
  replace h54:=J1 h54;refine Xf F rfl (Xe rfl rfl Mp (Xy rfl rfl (Xh rfl ?_)));clear F a;intro a F
  refine F.split 58 rfl ?_ ?_ <;> (clear F;intro h58 F)
  ·
   replace h58:=J1 h58;refine Xf F rfl (Xe rfl rfl Mp (Xy rfl rfl (Xh rfl ?_)));clear F a;intro a F
   refine F.split 62 rfl ?_ ?_ <;> (clear F;intro h62 F)
   ·
    replace h62:=J1 h62;refine Xf F rfl (Xe rfl rfl Mp (Xy rfl rfl (Xh rfl ?_)));clear F a;intro a F
    refine F.split 66 rfl ?_ ?_ <;> (clear F;intro h66 F)
    ·
     replace h66:=J1 h66;refine Xf F rfl ?_;clear F a;intro a F;refine Xu call16 F rfl (Eh 1 0 0 _) (gG H ?_);clear F a H;intro a w F H;refine Xu call16 F rfl (Eh 1 0 1 _) (gG H ?_);clear F a H;intro a w F H;refine Xu call16 F rfl (Eh 1 1 0 _) (gG H ?_);clear F a H;intro a w F H;refine Xu call16 F rfl (Eh 1 1 1 _) (gG H ?_);clear F a H;intro a w F H;refine sBs H XU X0 YZ rfl F rfl rfl rfl rfl rfl ?_;clear F a H;intro b72 a w F H;refine Xu call12 F rfl (C4 AF _ cF _ l2 e4 _ (H.rowsAt 3 rfl (Ld _) (by decide)) (RowsAt.ofRange (sz:=38) (rows:=e4.map (bs 38)) (H.whole 0 rfl) (Ld _)) (by have:=(H.rwsLen 3 rfl).2;simp only [maxLen] at this;omega) (by decide)) (gG H ?_);clear F a H;intro a w F H;refine sPk F rfl rfl rfl rfl (Xh rfl ?_);clear F a;intro a F
     refine F.split 75 rfl ?_ ?_ <;> (clear F;intro h75 F)
     ·
      refine Xf F rfl (Xe rfl rfl Mp (Xy rfl rfl (Xh rfl ?_)));clear F a;intro a F
      refine F.split 79 rfl ?_ ?_ <;> (clear F;intro h79 F)
      ·
       replace h79:=J1 h79;refine Xf F rfl ?_;clear F a;intro a F;refine Xu Zk F rfl (Nq 0 _) (gG H ?_);clear F a H;intro a w F H;refine Xu Zk F rfl (Nq 0 _) (gG H ?_);clear F a H;intro a w F H;refine Xu Zk F rfl (Nq 1 _) (gG H ?_);clear F a H;intro a w F H;refine Xu Zk F rfl (Nq 1 _) (gG H ?_);clear F a H;intro a w F H;refine Xu call18 F rfl (B1 0 _) (gG H ?_);clear F a H;intro a w F H;refine Xu call18 F rfl (B1 1 _) (gG H ?_);clear F a H;intro a w F H;refine sBs H XX Yd Ym rfl F rfl rfl rfl rfl rfl ?_;clear F a H;intro b87 a w F H;refine Xu call14 F rfl (Do A1 _ c1 _ [⟨0,false,0⟩,⟨0,false,0⟩,⟨1,false,0⟩,⟨1,false,0⟩,⟨0,true,0⟩,⟨1,true,0⟩] [⟨0,false,0⟩,⟨0,false,0⟩,⟨1,false,0⟩,⟨1,false,0⟩,⟨0,true,0⟩,⟨1,true,0⟩] _ (H.rowsAt 3 rfl (Xax _) (by decide)) (RowsAt.ofRange (sz:=3) (rows:=([⟨0,false,0⟩,⟨0,false,0⟩,⟨1,false,0⟩,⟨1,false,0⟩,⟨0,true,0⟩,⟨1,true,0⟩]:List Pss).map Pss.cells) (H.whole 0 rfl) (Xax _)) (by decide) (by decide)) ?_
       rintro e w ⟨rfl,hb⟩;replace H:=H.grow hb;clear hb;refine ⟨_,rfl,?_⟩;clear F a;intro a F;refine sPk F rfl rfl rfl rfl (Xh rfl ?_);clear F a;intro a F
       refine F.split 90 rfl ?_ ?_ <;> (clear F;intro h90 F)
       ·
        refine Xf F rfl (Xe rfl rfl Mp (Xy rfl rfl (Xh rfl ?_)));clear F a;intro a F
        refine F.split 94 rfl ?_ ?_ <;> (clear F;intro h94 F)
        ·
         replace h94:=J1 h94;refine Xf F rfl ?_;clear F a;intro a F;refine Xu Zk F rfl (Nq 0 _) (gG H ?_);clear F a H;intro a w F H;refine Xu Zk F rfl (Nq 1 _) (gG H ?_);clear F a H;intro a w F H;refine Xu Zk F rfl (Nq 0 _) (gG H ?_);clear F a H;intro a w F H;refine Xu Zk F rfl (Nq 1 _) (gG H ?_);clear F a H;intro a w F H;refine sBs H XX Yd Ym rfl F rfl rfl rfl rfl rfl ?_;clear F a H;intro b100 a w F H;refine Xu call14 F rfl (Do A2 _ c2 _ [⟨0,false,0⟩,⟨1,false,0⟩,⟨0,false,0⟩,⟨1,false,0⟩] [⟨0,false,0⟩,⟨1,false,0⟩,⟨0,false,0⟩,⟨1,false,0⟩] _ (H.rowsAt 3 rfl (Xax _) (by decide)) (RowsAt.ofRange (sz:=3) (rows:=([⟨0,false,0⟩,⟨1,false,0⟩,⟨0,false,0⟩,⟨1,false,0⟩]:List Pss).map Pss.cells) (H.whole 0 rfl) (Xax _)) (by decide) (by decide)) (gG H ?_);clear F a H;intro a w F H;refine sPk F rfl rfl rfl rfl (Xh rfl ?_);clear F a;intro a F
         refine F.split 103 rfl ?_ ?_ <;> (clear F;intro h103 F)
         ·
          refine Xf F rfl (Xe rfl rfl Mp (Xy rfl rfl (Xh rfl ?_)));clear F a;intro a F
          refine F.split 107 rfl ?_ ?_ <;> (clear F;intro h107 F)
          ·
           replace h107:=J1 h107;refine Xf F rfl (Xe rfl rfl Mp (Xy rfl rfl (Xd rfl (qNK hK9 ?_))));clear hK9;clear F a;intro a F;refine wp_ret ?_;refine JI results4 F rfl ?_
           exact ⟨JZ (by kernel_rfl),H.below⟩
          replace h107:=J2 h107
          exact absurd rfl h107
         exact Xji (by kernel_rfl) h103
        replace h94:=J2 h94
        exact absurd rfl h94
       exact Xji (by kernel_rfl) h90
      replace h79:=J2 h79
      exact absurd rfl h79
     exact Xji (decide_eq_true htl) h75
    replace h66:=J2 h66
    exact absurd rfl h66
   replace h62:=J2 h62
   exact absurd rfl h62
  replace h58:=J2 h58
  exact absurd rfl h58
 replace h54:=J2 h54
 exact absurd rfl h54
-- RsF
open Go.Proofs.Tryz
open Go.RowKit
set_option maxRecDepth 100000
def u8C (x:UInt8):List Value:=[YtcpehikcegoojaaGreatDoor.b8 x]
theorem Da (l:List UInt8):∀ r ∈ l.map u8C,r.length=1:=fun r hr=>by
 obtain ⟨x,_,rfl⟩:=List.mem_map.1 hr;rfl
theorem XdI (n:Nat) (f:By):toL (n+1) f=toL n f++[f n]:=by unfold toL;rw [List.range_succ,List.map_append];rfl
set_option maxHeartbeats 1000000 in
theorem BF (f:By) (w0:World):Calls Tryz.prog 78 #[.agg (bs 38 f).toArray] w0 fun e w'=>∃ A c,e = .returned (.slice A (toL 38 f).length c)∧Own w0 none w' [.rws 5 1 (.slice A (toL 38 f).length c) ((toL 38 f).map u8C)]:=by
 have H:=Own.start w0 none
 refine JF func78 rfl ntmps78 rfl (fun a F=>?_);refine cSR fun K1 hK1=>?_;refine Mg H F rfl rfl rfl ?_;clear F a H;intro b1 a w F H;refine Xa F rfl (qNK hK1 (qSR fun K2 hK2=>Xd rfl ?_));clear hK1;clear F a;intro a F
 replace H:=H.nilRws 5 1
 refine nK hK2 ?_;clear hK2;refine JD (fun K3 hK3=>?_);refine cSR fun K4 hK4=>Xa F rfl (qNK hK4 ?_);clear hK4;clear F a;intro a F;refine wp_block ?_
 refine JN [1] (fun m ups w=>∃ (t:Nat) (A:Option Addr) (c:Nat) (l:List UInt8),m=4 - t∧ups=[(3,.slice A l.length c),(4,.int .i64 ((t:Nat):Int))]∧t≤4∧l=toL (t * 8) f∧Own w0 none w [.rws 5 1 (.slice A l.length c) (l.map u8C),.blk b1 (bs 38 f) 34]) F (4) [(3,.slice none 0 0),(4,.int .i64 ((0:Nat):Int))] ?_ ?_
 · exact ⟨0,none,0,[],rfl,rfl,by omega,rfl,H⟩
 clear F
 clear H
 intro m ups a w hI F
 obtain ⟨t,A,c,l,rfl,rfl,ht,hl,H⟩:=hI
 refine JD (fun K5 hK5=>?_);refine cSR fun K6 hK6=>Xf F rfl (Xe rfl rfl QF (qNK hK6 ?_));clear hK6;clear F a;intro a F
 refine cIf F rfl (fun h8=>?_) (fun h8=>?_)
 ·
  replace h8:=of_decide_eq_true h8;refine wp_skip (hK5 _ _ ?_);clear hK5;refine JD (fun K7 hK7=>?_);refine wp_block ?_;refine cSR fun K8 hK8=>Xa F rfl (qNK hK8 ?_);clear hK8;clear F a;intro a F;refine wp_block ?_
  refine JN [1,4] (fun m ups w=>∃ (r:Nat) (A:Option Addr) (c:Nat) (l:List UInt8),m=8 - r∧ups=[(3,.slice A l.length c),(5,.int .i64 ((r:Nat):Int))]∧r≤8∧l=toL (t * 8+r) f∧Own w0 none w [.rws 5 1 (.slice A l.length c) (l.map u8C),.blk b1 (bs 38 f) 34]) F (8) [(3,.slice A l.length c),(5,.int .i64 ((0:Nat):Int))] ?_ ?_
  · exact ⟨0,A,c,l,rfl,rfl,by omega,hl,H.sel [0,1] rfl rfl⟩
  clear F
  clear H
  intro m ups a w hI F
  obtain ⟨r,A2,c2,l2,rfl,rfl,hr,hl2,H⟩:=hI
  have hn2:l2.length=t * 8+r:=by rw [hl2,Lt]
  refine JD (fun K9 hK9=>?_);refine cSR fun K10 hK10=>Xf F rfl (Xe rfl rfl QF (qNK hK10 ?_));clear hK10;clear F a;intro a F
  refine cIf F rfl (fun h12=>?_) (fun h12=>?_)
  ·
   replace h12:=of_decide_eq_true h12;refine wp_skip (hK9 _ _ ?_);clear hK9;refine JD (fun K11 hK11=>?_);refine wp_block ?_;refine JY (Xf F rfl (Xh rfl (Xh rfl (Xr (f:=0) (k:=0) X5 rfl Zi rfl rfl rfl ?_))));clear F a;intro a F
   refine Ed YV X1 F rfl rfl rfl rfl ?_ ?_
   focus (omega)
   clear F a;intro a F
   refine MP X9 XH F rfl rfl rfl rfl ?_ ?_
   focus (omega)
   clear F a;intro a F;refine sLd XJ F rfl rfl rfl (H.ce' 1 rfl) ?_;clear F a;intro a F;refine sBs1 H Yt XH zeroValue5 rfl F rfl rfl rfl rfl ?_;clear F a H;intro b22 a w F H
   refine Mq (bytes:=1) H 1 Yt typeInfo5 rfl rfl rfl rfl rfl rfl F rfl rfl rfl rfl rfl (H.whole 0 rfl) rfl ?s1 ?s2 ?_
   case s1=>rfl
   case s2=>(rw [List.length_map];omega)
   clear F a H;intro A23 c23 a w F H;refine Xa F rfl (qNK hK11 (Ef (Xh rfl ?_)));clear hK11;clear F a;intro a F
   refine Xg F rfl rfl (JJ (j:=1) ?_) ?_
   focus omega
   clear F a;intro a F;refine Xa F rfl ?_;clear F a;intro a F;refine J4 ?_
   have e2:l2.map u8C++[[YtcpehikcegoojaaGreatDoor.b8 (f (t * 8+r))]]=(l2++[f (t * 8+r)]).map u8C:=by rw [List.map_append];rfl
   have e3:(l2++[f (t * 8+r)])=toL (t * 8+(r+1)) f:=by rw [hl2,← Nat.add_assoc,XdI]
   rw [e2,List.length_map] at H F
   exact ⟨_,by omega,_,⟨r+1,A23,c23,l2++[f (t * 8+r)],rfl,rfl,by omega,e3,H.tail⟩,F.tt⟩
  replace h12:=of_decide_eq_false h12
  obtain rfl:r=8:=by omega
  refine wp_exit ?_;refine hK7 _ _ (JY (Xf F rfl ?_));clear hK7;clear F a;intro a F
  refine Xg F rfl rfl (JJ (j:=1) ?_) ?_
  focus omega
  clear F a;intro a F;refine Xa F rfl ?_;clear F a;intro a F;refine J4 ?_
  exact ⟨_,by omega,_,⟨t+1,A2,c2,l2,rfl,rfl,by omega,by rw [hl2,Nat.add_mul],H⟩,F.tt⟩
 replace h8:=of_decide_eq_false h8
 obtain rfl:t=4:=by omega
 refine wp_exit ?_;refine hK3 _ _ ?_;clear hK3;refine JD (fun K12 hK12=>?_);refine cSR fun K13 hK13=>Xa F rfl (qNK hK13 ?_);clear hK13;clear F a;intro a F;refine wp_block ?_
 refine JN [1] (fun m ups w=>∃ (k:Nat) (A:Option Addr) (c:Nat) (l:List UInt8),m=6 - k∧ups=[(3,.slice A l.length c),(6,.int .i64 ((k:Nat):Int))]∧k≤6∧l=toL (32+k) f∧Own w0 none w [.rws 5 1 (.slice A l.length c) (l.map u8C),.blk b1 (bs 38 f) 34]) F (6) [(3,.slice A l.length c),(6,.int .i64 ((0:Nat):Int))] ?_ ?_
 · exact ⟨0,A,c,l,rfl,rfl,by omega,hl,H.sel [0,1] rfl rfl⟩
 clear F
 clear H
 intro m ups a w hI F
 obtain ⟨k,A2,c2,l2,rfl,rfl,hk,hl2,H⟩:=hI
 have hn2:l2.length=32+k:=by rw [hl2,Lt]
 refine JD (fun K14 hK14=>?_);refine cSR fun K15 hK15=>Xf F rfl (Xe rfl rfl QF (qNK hK15 ?_));clear hK15;clear F a;intro a F
 refine cIf F rfl (fun h25=>?_) (fun h25=>?_)
 ·
  replace h25:=of_decide_eq_true h25;refine wp_skip (hK14 _ _ ?_);clear hK14;refine JD (fun K16 hK16=>?_);refine wp_block ?_;refine JY (Xf F rfl (Xh rfl (Xr (f:=1) (k:=32) X5 rfl Yg rfl rfl rfl ?_)));clear F a;intro a F
  refine MP Yj XH F rfl rfl rfl rfl ?_ ?_
  focus (omega)
  clear F a;intro a F;refine sLd XJ F rfl rfl rfl (H.ce' 1 rfl) ?_;clear F a;intro a F;refine sBs1 H Yt XH zeroValue5 rfl F rfl rfl rfl rfl ?_;clear F a H;intro b33 a w F H
  refine Mq (bytes:=1) H 1 Yt typeInfo5 rfl rfl rfl rfl rfl rfl F rfl rfl rfl rfl rfl (H.whole 0 rfl) rfl ?s1 ?s2 ?_
  case s1=>rfl
  case s2=>(rw [List.length_map];omega)
  clear F a H;intro A34 c34 a w F H;refine Xa F rfl (qNK hK16 (Ef (Xh rfl ?_)));clear hK16;clear F a;intro a F
  refine Xg F rfl rfl (JJ (j:=1) ?_) ?_
  focus omega
  clear F a;intro a F;refine Xa F rfl ?_;clear F a;intro a F;refine J4 ?_
  have e2:l2.map u8C++[[YtcpehikcegoojaaGreatDoor.b8 (f (32+k))]]=(l2++[f (32+k)]).map u8C:=by rw [List.map_append];rfl
  have e3:(l2++[f (32+k)])=toL (32+(k+1)) f:=by rw [hl2,← Nat.add_assoc,XdI]
  rw [e2,List.length_map] at H F
  exact ⟨_,by omega,_,⟨k+1,A34,c34,l2++[f (32+k)],rfl,rfl,by omega,e3,H.tail⟩,F.tt⟩
 replace h25:=of_decide_eq_false h25
 obtain rfl:k=6:=by omega
 refine wp_exit ?_;refine hK12 _ _ (cSR fun K17 hK17=>Xf F rfl (Xd rfl (qNK hK17 ?_)));clear hK12 hK17;clear F a;intro a F;refine wp_ret ?_;refine JI results78 F rfl ?_;subst hl2
 exact ⟨A2,c2,rfl,H.pick 0 rfl⟩
theorem Xf7 {l q:List UInt8} {i:Nat} (h:l.take i=q.take i):Nb l q=Nb (l.drop i) (q.drop i):=by
 have e1:=List.take_append_drop i l
 have e2:=List.take_append_drop i q
 have h3:=Dt (l.drop i) (q.drop i) (show (l.take i).length=(q.take i).length by rw [h])
 rw [e1,h,e2,N9,if_pos rfl] at h3
 exact h3
theorem XhO {a b:UInt8} {l q:List UInt8} (h:a ≠ b):(Nb (a :: l) (b :: q) < 0)=(a < b):=by
 rw [Nb]
 by_cases h1:a < b
 · rw [if_pos h1];simp [h1]
 · rw [if_neg h1,if_pos (UInt8.lt_iff_toNat_lt.2 (by have h2:=mt UInt8.lt_iff_toNat_lt.2 h1;have h3:a.toNat ≠ b.toNat:=fun e=>h (UInt8.toNat_inj.1 e);omega))]
   simp [h1]
theorem Xjn {f g:By} {n i:Nat} (hi:i < n) (h:∀ k,k < i→f k=g k) (hne:f i ≠ g i):(Nb (toL n f) (toL n g) < 0)=(f i < g i):=by
 have ht:(toL n f).take i=(toL n g).take i:=by
   apply List.ext_getElem?
   intro k
   rcases Nat.lt_or_ge k i with hk | hk
   · rw [List.getElem?_take_of_lt hk,List.getElem?_take_of_lt hk,Bm (by omega),Bm (by omega),h k hk]
   · rw [List.getElem?_eq_none (by rw [List.length_take];omega),List.getElem?_eq_none (by rw [List.length_take];omega)]
 have hd:∀ f:By,(toL n f).drop i=f i :: (toL n f).drop (i+1):=fun f=>by
   have hl:i < (toL n f).length:=by rw [Lt];exact hi
   rw [List.drop_eq_getElem_cons hl]
   congr 1
   have:=Bm (f:=f) hi
   rw [List.getElem?_eq_getElem hl] at this
   exact Option.some.inj this
 rw [Xf7 ht,hd f,hd g,XhO hne]
theorem Xga {f g:By} {n:Nat} (h:∀ k,k < n→f k=g k):¬ Nb (toL n f) (toL n g) < 0:=by
 have e:toL n f=toL n g:=toL_eq.2 (same_iff.2 h)
 rw [e,N9];decide
set_option maxHeartbeats 1000000 in
theorem Dv (f g:By) (w0:World):Calls Tryz.prog 55 #[.agg (bs 38 f).toArray,.agg (bs 38 g).toArray] w0 fun e w'=>e = .returned (.bool (decide (Nb (toL 38 f) (toL 38 g) < 0)))∧Below w0.heap.size w0 w':=by
 have H:=Own.start w0 none
 refine JF func55 rfl ntmps55 rfl (fun a F=>?_);refine cSR fun K1 hK1=>?_;refine Mg H F rfl rfl rfl ?_;clear F a H;intro b2 a w F H;refine Mg H F rfl rfl rfl ?_;clear F a H;intro b3 a w F H;refine Xa F rfl (qNK hK1 (qSR fun K2 hK2=>Nu X5 rfl X0 rfl rfl rfl (H.whole 1 rfl) ?_));clear hK1;clear F a;intro a F;refine Xu call78 F rfl (BF f _) ?_;rintro e w ⟨A1,k1,rfl,H2⟩;replace H:=H.join H2;clear H2;refine ⟨_,rfl,?_⟩;clear F a;intro a F;refine Xa F rfl (qNK hK2 (qSR fun K3 hK3=>Nu X5 rfl X0 rfl rfl rfl (H.whole 1 rfl) ?_));clear hK2;clear F a;intro a F;refine Xu call78 F rfl (BF g _) ?_;rintro e w ⟨A2,k2,rfl,H2⟩;replace H:=H.join H2;clear H2;refine ⟨_,rfl,?_⟩;clear F a;intro a F;refine Xa F rfl (qNK hK3 ?_);clear hK3;clear F a;intro a F;refine JD (fun K4 hK4=>?_);refine cSR fun K5 hK5=>Xa F rfl (qNK hK5 ?_);clear hK5;clear F a;intro a F;refine wp_block ?_
 refine JN [5,6] (fun m ups w=>∃ i:Nat,m=38 - i∧ups=[(7,.int .i64 ((i:Nat):Int))]∧i≤38∧(∀ k,k < i→f k=g k)∧Own w0 none w [.rws 5 1 (.slice A2 (toL 38 g).length k2) ((toL 38 g).map u8C),.rws 5 1 (.slice A1 (toL 38 f).length k1) ((toL 38 f).map u8C)]) F (38) [(7,.int .i64 ((0:Nat):Int))] ?_ ?_
 · exact ⟨0,rfl,rfl,by omega,fun k hk=>absurd hk (by omega),H.sel [0,1] rfl rfl⟩
 clear F
 clear H
 intro m ups a w hI F
 obtain ⟨i,rfl,rfl,hi,hs,H⟩:=hI
 have hfl:(toL 38 f).length=38:=Lt 38 f
 have hgl:(toL 38 g).length=38:=Lt 38 g
 refine JD (fun K6 hK6=>?_);refine cSR fun K7 hK7=>Xf F rfl (Xh rfl (Xx Yt rfl (Xe rfl rfl QF (qNK hK7 ?_))));clear hK7;clear F a;intro a F
 refine cIf F rfl (fun h15=>?_) (fun h15=>?_)
 ·
  replace h15:=of_decide_eq_true h15
  have hi38:i < 38:=by omega
  have hfx:((toL 38 f).map u8C)[i]? = some [YtcpehikcegoojaaGreatDoor.b8 (f i)]:=by rw [List.getElem?_map,Bm hi38];rfl
  have hgx:((toL 38 g).map u8C)[i]? = some [YtcpehikcegoojaaGreatDoor.b8 (g i)]:=by rw [List.getElem?_map,Bm hi38];rfl
  obtain ⟨bF,oF,rfl,_⟩:=H.rowsAt 1 rfl (Da _) (by decide) i _ hfx
  obtain ⟨bG,oG,rfl,_⟩:=H.rowsAt 0 rfl (Da _) (by decide) i _ hgx
  refine wp_skip (hK6 _ _ ?_);clear hK6;refine JD (fun K8 hK8=>?_);refine wp_block ?_;refine JD (fun K9 hK9=>?_);refine Xi H ?_;replace H:=H.drew;refine Xj 0 rfl F rfl (fun w=>rMv F rfl) H qq0 (Xm 1 rfl rfl (fun a F w=>rMv F rfl) H qq0 ?_);clear F a;intro a F
  refine Xq (k:=2) (i:=2) rfl F rfl (fun w=>rIx Yt XH F rfl rfl ?_) H (fun _ _ _ h=>h) ?_
  focus omega
  clear F a;intro a F;refine Xv 3 rfl F rfl rfl (fun w H=>rLd XJ F rfl (by obtain ⟨b',o',g1,g2⟩:=H.rowsAt 1 rfl (Da _) (by decide) i _ hfx;cases g1;exact g2 0 _ rfl)) H qq0 (Xm 4 rfl rfl (fun a F w=>rMv F rfl) H qq0 (Xm 5 rfl rfl (fun a F w=>rMv F rfl) H qq0 ?_));clear F a;intro a F
  refine Xq (k:=6) (i:=6) rfl F rfl (fun w=>rIx Yt XH F rfl rfl ?_) H (fun _ _ _ h=>h) ?_
  focus omega
  clear F a;intro a F;refine Xv 7 rfl F rfl rfl (fun w H=>rLd XJ F rfl (by obtain ⟨b',o',g1,g2⟩:=H.rowsAt 0 rfl (Da _) (by decide) i _ hgx;cases g1;exact g2 0 _ rfl)) H qq0 (Xm 8 rfl rfl (fun a F w=>Q0 F rfl rfl Xba) H qq0 ?_);clear F a;intro a F;refine Xp (k:=9) ?_;refine hK9 _ _ ?_;clear hK9
  refine cIf F rfl (fun h26=>?_) (fun h26=>?_)
  ·
   replace h26:=Ep h26;refine JD (fun K10 hK10=>?_);refine Xi H ?_;replace H:=H.drew;refine Xj 0 rfl F rfl (fun w=>rMv F rfl) H qq0 (Xm 1 rfl rfl (fun a F w=>rMv F rfl) H qq0 ?_);clear F a;intro a F
   refine Xq (k:=2) (i:=2) rfl F rfl (fun w=>rIx Yt XH F rfl rfl ?_) H (fun _ _ _ h=>h) ?_
   focus omega
   clear F a;intro a F;refine Xv 3 rfl F rfl rfl (fun w H=>rLd XJ F rfl (by obtain ⟨b',o',g1,g2⟩:=H.rowsAt 1 rfl (Da _) (by decide) i _ hfx;cases g1;exact g2 0 _ rfl)) H qq0 (Xm 4 rfl rfl (fun a F w=>rMv F rfl) H qq0 (Xm 5 rfl rfl (fun a F w=>rMv F rfl) H qq0 ?_));clear F a;intro a F
   refine Xq (k:=6) (i:=6) rfl F rfl (fun w=>rIx Yt XH F rfl rfl ?_) H (fun _ _ _ h=>h) ?_
   focus omega
   clear F a;intro a F;refine Xv 7 rfl F rfl rfl (fun w H=>rLd XJ F rfl (by obtain ⟨b',o',g1,g2⟩:=H.rowsAt 0 rfl (Da _) (by decide) i _ hgx;cases g1;exact g2 0 _ rfl)) H qq0 (Xm 8 rfl rfl (fun a F w=>Q0 F rfl rfl Eu) H qq0 (Xm 9 rfl rfl (fun a F w=>rAs F rfl) H qq0 ?_));clear F a;intro a F;refine Xp (k:=10) ?_;refine hK10 _ _ ?_;clear hK10;refine wp_ret ?_;refine xI ?_;refine JI results55 F rfl ?_
   (have hne:f i ≠ g i:=h26
    exact ⟨by rw [decide_eq_decide.2 (Iff.of_eq (Xjn hi38 hs hne))],H.below⟩)
  replace h26:=Er h26;refine wp_skip (hK8 _ _ (JY (Xf F rfl ?_)));clear hK8;clear F a;intro a F
  refine Xg F rfl rfl (JJ (j:=1) ?_) ?_
  focus omega
  clear F a;intro a F;refine Xa F rfl ?_;clear F a;intro a F;refine J4 ?_
  have he:f i=g i:=by exact h26
  exact ⟨_,by omega,_,⟨i+1,rfl,rfl,by omega,fun k hk=>(by
   rcases Nat.lt_or_ge k i with h | h
   · exact hs k h
   · obtain rfl:k=i:=by omega
     exact he),H.sel [0,1] rfl rfl⟩,F.tt⟩
 replace h15:=of_decide_eq_false h15
 obtain rfl:i=38:=by omega
 refine wp_exit ?_;refine hK4 _ _ (cSR fun K11 hK11=>Xa F rfl (qNK hK11 ?_));clear hK4 hK11;clear F a;intro a F;refine wp_ret ?_;refine JI results55 F rfl ?_
 exact ⟨by rw [decide_eq_false (Xga hs)],H.below⟩
def NV (q:List By) (x:By):Prop:=∀ y,(tl q).getLast? = some y→Nb y (toL 38 x) < 0
structure PickI (l q:List By):Prop where
 up:MO (tl q)
 sub:∀ x ∈ tl q,x ∈ tl l
 low:∀ x ∈ tl l,x ∉ tl q→∀ y ∈ tl q,Nb y x < 0
theorem XbF {l q:List By} (h:PickI l q) {x:By} (hc:NV q x):∀ y ∈ tl q,Nb y (toL 38 x) < 0:=fun y hy=>by
 rcases List.eq_nil_or_concat (tl q) with e | ⟨r,z,e⟩
 · rw [e] at hy;cases hy
 · have hz:Nb z (toL 38 x) < 0:=hc z (by rw [e];simp)
   rw [e,List.concat_eq_append,List.mem_append,List.mem_singleton] at hy
   rcases hy with hy | hy
   · have hu:=h.up
     unfold MO at hu
     rw [e,List.concat_eq_append,List.pairwise_append] at hu
     exact MI (hu.2.2 y hy z (by simp)) hz
   · rw [hy];exact hz
theorem Xhy {l q:List By} (h:PickI l q) {x:By} (hx:x ∈ l) (hc:¬ NV q x):toL 38 x ∈ tl q:=Decidable.byContradiction fun hn=>hc fun y hy=>h.low _ (List.mem_map.2 ⟨x,hx,rfl⟩) hn y (List.mem_of_getLast? hy)
theorem Bn (q:List By) (x:By):tl (q++[x])=tl q++[toL 38 x]:=by unfold tl;rw [List.map_append];rfl
theorem XfJ {l q:List By} (h:PickI l q) {x:By} (hx:x ∈ l) (hc:NV q x) (hm:∀ y ∈ l,NV q y→¬ Nb (toL 38 y) (toL 38 x) < 0):PickI l (q++[x]) where
 up:=by
   have h1:=XbF h hc
   unfold MO
   rw [Bn]
   exact List.pairwise_append.2 ⟨h.up,List.pairwise_singleton _ _,fun y hy z hz=>by rw [List.mem_singleton.1 hz];exact h1 y hy⟩
 sub:=fun z hz=>by
   rw [Bn,List.mem_append,List.mem_singleton] at hz
   rcases hz with hz | hz
   · exact h.sub z hz
   · rw [hz];exact List.mem_map.2 ⟨x,hx,rfl⟩
 low:=fun z hz hn y hy=>by
   rw [Bn,List.mem_append,List.mem_singleton] at hn hy
   have hn1:z ∉ tl q:=fun hh=>hn (.inl hh)
   have hn2:z ≠ toL 38 x:=fun hh=>hn (.inr hh)
   rcases hy with hy | hy
   · exact h.low z hz hn1 y hy
   · rw [hy]
     obtain ⟨v,hv,rfl⟩:=List.mem_map.1 hz
     have h1:=hm v hv (fun y hy=>h.low _ hz hn1 y (List.mem_of_getLast? hy))
     have h2:=Ly (toL 38 v) (toL 38 x)
     have h3:Nb (toL 38 v) (toL 38 x) ≠ 0:=fun e=>hn2 (CW e)
     omega
def XbT (l q:List By):Nat:=(l.filter fun x=>!(tl q).contains (toL 38 x)).length
theorem Xgc {l q:List By} {x:By} (hx:x ∈ l) (hn:toL 38 x ∉ tl q):XbT l (q++[x]) < XbT l q:=by
 unfold XbT
 have h1:∀ l:List By,(l.filter fun y=>!(tl (q++[x])).contains (toL 38 y)).length≤(l.filter fun y=>!(tl q).contains (toL 38 y)).length:=fun l=>by
   induction l with
   | nil=>exact Nat.le_refl _
   | cons y r ih=>
     rw [List.filter_cons,List.filter_cons]
     by_cases hy:toL 38 y ∈ tl q
     · rw [if_neg (by simp [Bn,hy]),if_neg (by simp [hy])];exact ih
     · rw [if_pos (show (!(tl q).contains (toL 38 y))=true by simp [hy])]
       split
       · exact Nat.succ_le_succ ih
       · exact Nat.le_succ_of_le ih
 induction l with
 | nil=>cases hx
 | cons y r ih=>
   rw [List.filter_cons,List.filter_cons]
   by_cases e:toL 38 y=toL 38 x
   · rw [if_neg (by simp [Bn,e]),if_pos (by simp [e,hn])]
     exact Nat.lt_succ_of_le (h1 r)
   · have hr:x ∈ r:=by
       rcases List.mem_cons.1 hx with h | h
       · exact absurd (by rw [h]) e
       · exact h
     have ih:=ih hr
     by_cases hy:toL 38 y ∈ tl q
     · rw [if_neg (by simp [Bn,hy]),if_neg (by simp [hy])];exact ih
     · rw [if_pos (show (!(tl q).contains (toL 38 y))=true by simp [hy]),if_pos (by simp [Bn,hy,e])]
       exact Nat.succ_lt_succ ih
theorem Xhz (l:List By):PickI l [] where
 up:=List.Pairwise.nil
 sub:=fun x hx=>by cases hx
 low:=fun x _ _ y hy=>by cases hy
theorem XhQ (l:List By):([]:List By).length+XbT l []≤l.length:=by
 unfold XbT
 rw [List.length_nil,Nat.zero_add]
 exact List.length_filter_le _ _
def Xbg (l q:List By) (b:Int) (i:Nat):Prop:=(b = -1∧∀ k x,k < i→l[k]? = some x→¬ NV q x)∨∃ (n:Nat) (y:By),b=(n:Int)∧n < i∧l[n]? = some y∧NV q y∧∀ k x,k < i→l[k]? = some x→NV q x→¬ Nb (toL 38 x) (toL 38 y) < 0
theorem XgZ {l q:List By} {b:Int} {i:Nat} {x:By} (h:Xbg l q b i) (hx:l[i]? = some x) (hc:¬ NV q x):Xbg l q b (i+1):=by
 rcases h with ⟨h1,h2⟩ | ⟨n,y,h1,h2,h3,h4,h5⟩
 · refine .inl ⟨h1,fun k z hk hz=>?_⟩
   rcases Nat.lt_or_ge k i with h | h
   · exact h2 k z h hz
   · obtain rfl:k=i:=by omega
     rw [hx] at hz;cases hz;exact hc
 · refine .inr ⟨n,y,h1,by omega,h3,h4,fun k z hk hz hcz=>?_⟩
   rcases Nat.lt_or_ge k i with h | h
   · exact h5 k z h hz hcz
   · obtain rfl:k=i:=by omega
     rw [hx] at hz;cases hz;exact absurd hcz hc
theorem Xaj {l q:List By} {b:Int} {i:Nat} {x:By} (h:Xbg l q b i) (hb:b < 0) (hx:l[i]? = some x) (hc:NV q x):Xbg l q (i:Int) (i+1):=by
 have h2:∀ k x,k < i→l[k]? = some x→¬ NV q x:=by
   rcases h with ⟨_,h2⟩ | ⟨n,y,h1,_⟩
   · exact h2
   · omega
 refine .inr ⟨i,x,rfl,by omega,hx,hc,fun k z hk hz hcz=>?_⟩
 rcases Nat.lt_or_ge k i with h | h
 · exact absurd hcz (h2 k z h hz)
 · obtain rfl:k=i:=by omega
   rw [hx] at hz;cases hz
   rw [N9];decide
theorem Xcm {l q:List By} {n i:Nat} {x y:By} (h:Xbg l q (n:Int) i) (hy:l[n]? = some y) (hx:l[i]? = some x) (hc:NV q x) (hl:Nb (toL 38 x) (toL 38 y) < 0):Xbg l q (i:Int) (i+1):=by
 obtain ⟨m,z,h1,h2,h3,h4,h5⟩:∃ (m:Nat) (z:By),(n:Int)=(m:Int)∧m < i∧l[m]? = some z∧NV q z∧∀ k x,k < i→l[k]? = some x→NV q x→¬ Nb (toL 38 x) (toL 38 z) < 0:=h.resolve_left fun hh=>by have:=hh.1;omega
 obtain rfl:n=m:=by omega
 rw [hy] at h3;cases h3
 refine .inr ⟨i,x,rfl,by omega,hx,hc,fun k v hk hv hcv hh=>?_⟩
 rcases Nat.lt_or_ge k i with h | h
 · exact h5 k v h hv hcv (MI hh hl)
 · obtain rfl:k=i:=by omega
   rw [hx] at hv;cases hv
   rw [N9] at hh;exact absurd hh (by decide)
theorem Xcn {l q:List By} {n i:Nat} {x y:By} (h:Xbg l q (n:Int) i) (hy:l[n]? = some y) (hx:l[i]? = some x) (hl:¬ Nb (toL 38 x) (toL 38 y) < 0):Xbg l q (n:Int) (i+1):=by
 obtain ⟨m,z,h1,h2,h3,h4,h5⟩:∃ (m:Nat) (z:By),(n:Int)=(m:Int)∧m < i∧l[m]? = some z∧NV q z∧∀ k x,k < i→l[k]? = some x→NV q x→¬ Nb (toL 38 x) (toL 38 z) < 0:=h.resolve_left fun hh=>by have:=hh.1;omega
 obtain rfl:n=m:=by omega
 rw [hy] at h3;cases h3
 refine .inr ⟨n,y,rfl,by omega,hy,h4,fun k v hk hv hcv=>?_⟩
 rcases Nat.lt_or_ge k i with h | h
 · exact h5 k v h hv hcv
 · obtain rfl:k=i:=by omega
   rw [hx] at hv;cases hv;exact hl
theorem Mc (l:List By):∀ r ∈ l.map (bs 38),r.length=38:=fun r hr=>by
 obtain ⟨s,_,rfl⟩:=List.mem_map.1 hr
 exact bs_length _ _
theorem Xd2 {q:List By} {y:By} (h:q[q.length - 1]? = some y):(tl q).getLast? = some (toL 38 y):=by
 unfold tl
 rw [List.getLast?_eq_getElem?,List.length_map,List.getElem?_map,h];rfl
set_option maxHeartbeats 2000000 in
theorem Xep (LA:Option Addr) (LC:Nat) (l:List By) (w0:World) (hR:RowsAt w0 LA 38 (l.map (bs 38))) (hl:l.length≤65536) :
   Calls Tryz.prog 28 #[.slice LA l.length LC] w0 fun e w'=>∃ A c q,e = .returned (.slice A q.length c)∧(MO (tl q)∧∀ x,x ∈ tl q ↔ x ∈ tl l)∧Own w0 none w' [.rws 34 38 (.slice A q.length c) (q.map (bs 38))]:=by
 have H:=Own.start w0 none
 refine JF func28 rfl ntmps28 rfl (fun a F=>?_);refine cSR fun K1 hK1=>Xa F rfl (qNK hK1 (qSR fun K2 hK2=>Xd rfl ?_));clear hK1;clear F a;intro a F
 replace H:=H.nilRws 34 38
 refine nK hK2 ?_;clear hK2;refine wp_block ?_
 refine JN [0] (fun m ups w=>∃ (A:Option Addr) (c:Nat) (q:List By),m=XbT l q∧ups=[(3,.slice A q.length c)]∧PickI l q∧q.length+XbT l q≤l.length∧Own w0 none w [.rws 34 38 (.slice A q.length c) (q.map (bs 38))]) F (XbT l []) [(3,.slice none 0 0)] ?_ ?_
 · exact ⟨none,0,[],rfl,rfl,Xhz l,XhQ l,H⟩
 clear F
 clear H
 intro m ups a w hI F
 obtain ⟨A,c,q,rfl,rfl,hq,hql,H⟩:=hI
 refine wp_block ?_;refine cSR fun K3 hK3=>Xa F rfl (qNK hK3 ?_);clear hK3;clear F a;intro a F;refine JD (fun K4 hK4=>?_);refine cSR fun K5 hK5=>Xa F rfl (qNK hK5 ?_);clear hK5;clear F a;intro a F;refine wp_block ?_
 refine JN [0,3] (fun m ups w=>∃ (i:Nat) (b:Int),m=l.length - i∧ups=[(4,.int .i64 b),(5,.int .i64 ((i:Nat):Int))]∧i≤l.length∧Xbg l q b i∧Own w0 none w [.rws 34 38 (.slice A q.length c) (q.map (bs 38))]) F (l.length) [(4,.int .i64 (-1)),(5,.int .i64 ((0:Nat):Int))] ?_ ?_
 · exact ⟨0, -1,rfl,rfl,by omega,.inl ⟨rfl,fun k x hk=>absurd hk (by omega)⟩,H.sel [0] rfl rfl⟩
 clear F
 clear H
 intro m ups a w hI F
 obtain ⟨i,b,rfl,rfl,hi,hb,H⟩:=hI
 refine JD (fun K6 hK6=>?_);refine cSR fun K7 hK7=>Xf F rfl (Xh rfl (Xx XU rfl (Xe rfl rfl QF (qNK hK7 ?_))));clear hK7;clear F a;intro a F
 refine cIf F rfl (fun h9=>?_) (fun h9=>?_)
 ·
  replace h9:=of_decide_eq_true h9
  have hil:i < l.length:=by omega
  obtain ⟨x,hx⟩:∃ x,l[i]? = some x:=⟨_,List.getElem?_eq_getElem hil⟩
  obtain ⟨bX,oX,rfl,hX⟩:=hR i (bs 38 x) (by rw [List.getElem?_map,hx];rfl)
  have hcx:q=[]→NV q x:=fun e y hy=>by rw [e] at hy;cases hy
  refine wp_skip (hK6 _ _ ?_);clear hK6;refine JD (fun K8 hK8=>?_);refine wp_block ?_;refine JD (fun K9 hK9=>?_);refine JD (fun K10 hK10=>?_);refine Xi H ?_;replace H:=H.drew;refine Xj 0 rfl F rfl (fun w=>rMv F rfl) H qq0 (Xl 1 rfl rfl rfl (fun a F w H=>Bw XU F rfl) H qq0 (Xm 2 rfl rfl (fun a F w=>Q0 F rfl rfl L3) H qq0 (Xm 3 rfl rfl (fun a F w=>rMv F rfl) H qq0 ?_)));clear F a;intro a F
  refine F.split 15 rfl ?_ ?_ <;> (clear F;intro h15 F)
  ·
   replace h15:=of_decide_eq_true h15
   have hq0:0 < q.length:=by omega
   obtain ⟨z,hz⟩:∃ z,q[q.length - 1]? = some z:=⟨_,List.getElem?_eq_getElem (by omega)⟩
   obtain ⟨bQ,oQ,rfl,_⟩:=H.rowsAt 0 rfl (Mc _) (by decide) (q.length - 1) (bs 38 z) (by rw [List.getElem?_map,hz];rfl)
   have hcz:NV q x ↔ Nb (toL 38 z) (toL 38 x) < 0:=⟨fun h=>h _ (Xd2 hz),fun h y hy=>by rw [Xd2 hz] at hy;cases hy;exact h⟩
   refine Xj 4 rfl F rfl (fun w=>rMv F rfl) H qq0 (Xm 5 rfl rfl (fun a F w=>rMv F rfl) H qq0 (Xl 6 rfl rfl rfl (fun a F w H=>Bw XU F rfl) H qq0 ?_));clear F a;intro a F
   refine Xq (k:=7) (i:=7) rfl F rfl (fun w=>Q0 F rfl rfl (Es (j:=1) ?_ ?_)) H (fun _ _ _ h=>h) ?_
   focus omega
   focus omega
   clear F a;intro a F
   refine Xq (k:=8) (i:=8) rfl F rfl (fun w=>rIx XU X0 F rfl rfl ?_) H (fun _ _ _ h=>h) ?_
   focus omega
   clear F a;intro a F
   refine Xk (k:=9) (i:=9) rfl F rfl rfl (fun w H=>Nt X5 rfl X0 F rfl (by obtain ⟨b',o',g1,g2⟩:=H.rowsAt 0 rfl (Mc _) (by decide) (q.length - 1) (bs 38 z) (by rw [List.getElem?_map,hz];rfl);cases g1;exact g2)) H (fun _ _ _ h=>h) ?_;clear F a;intro a F
   refine Xj 10 rfl F rfl (fun w=>rMv F rfl) H qq0 (Xm 11 rfl rfl (fun a F w=>rMv F rfl) H qq0 ?_);clear F a;intro a F
   refine Xq (k:=12) (i:=12) rfl F rfl (fun w=>rIx XU X0 F rfl rfl ?_) H (fun _ _ _ h=>h) ?_
   focus exact hil
   clear F a;intro a F;refine Xv 13 rfl F rfl rfl (fun w H=>Nt X5 rfl X0 F rfl (H.argR hX)) H qq0 ?_;clear F a;intro a F;refine Xn (k:=14) (i:=14) rfl F (J3 call55 F rfl rfl (Dv z x _) (gG H ?_));clear F a H;intro a w F H;refine Xo H ?_;refine Xj 15 rfl F rfl (fun w=>Xg5 F rfl) H qq0 (Xm 16 rfl rfl (fun a F w=>rPk F rfl rfl) H qq0 ?_);clear F a;intro a F;refine Xp (k:=17) ?_;refine hK10 _ _ ?_;clear hK10
   refine cIf F rfl (fun h28=>?_) (fun h28=>?_)
   ·
    replace h28:=N1 h28;refine wp_exit ?_;refine hK8 _ _ (JY (Xf F rfl ?_));clear hK8;clear F a;intro a F
    refine Xg F rfl rfl (JJ (j:=1) ?_) ?_
    focus omega
    clear F a;intro a F;refine Xa F rfl ?_;clear F a;intro a F;refine J4 ?_
    (have hn:¬ NV q x:=by rw [hcz];exact of_decide_eq_false h28
     exact ⟨_,by omega,_,⟨i+1,b,rfl,rfl,by omega,XgZ hb hx hn,H⟩,F.tt⟩)
   replace h28:=N2 h28;refine wp_skip (hK9 _ _ ?_);clear hK9;refine JD (fun K11 hK11=>?_);refine Xi H ?_;replace H:=H.drew;refine Xj 0 rfl F rfl (fun w=>rMv F rfl) H qq0 (Xm 1 rfl rfl (fun a F w=>Q0 F rfl rfl QF) H qq0 (Xm 2 rfl rfl (fun a F w=>rMv F rfl) H qq0 ?_));clear F a;intro a F
   refine F.split 31 rfl ?_ ?_ <;> (clear F;intro h31 F)
   ·
    replace h31:=of_decide_eq_true h31;refine Xz 3 rfl F rfl H qq0 (XA 4 rfl rfl H qq0 (XA 5 rfl rfl H qq0 (XA 6 rfl rfl H qq0 (XA 7 rfl rfl H qq0 (XA 8 rfl rfl H qq0 (XA 9 rfl rfl H qq0 (XA 10 rfl rfl H qq0 (XA 11 rfl rfl H qq0 (Xm 12 rfl rfl (fun a F w=>rPk F rfl rfl) H qq0 ?_)))))))));clear F a;intro a F;refine Xp (k:=13) ?_;refine hK11 _ _ ?_;clear hK11;refine MQ F rfl ?_;refine JY (Xf F rfl (Xd rfl (qNK hK8 (Ef (Xh rfl ?_)))));clear hK8;clear F a;intro a F
    refine Xg F rfl rfl (JJ (j:=1) ?_) ?_
    focus omega
    clear F a;intro a F;refine Xa F rfl ?_;clear F a;intro a F;refine J4 ?_
    (have hc:NV q x:=by exact hcz.2 (of_decide_eq_true h28)
     exact ⟨_,by omega,_,⟨i+1,(i:Int),rfl,rfl,by omega,Xaj hb h31 hx hc,H⟩,F.tt⟩)
   replace h31:=of_decide_eq_false h31
   obtain ⟨n,y,rfl,hni,hy⟩:∃ (n:Nat) (y:By),b=(n:Int)∧n < i∧l[n]? = some y:=by
    rcases hb with h | ⟨n,y,h1,h2,h3,_⟩
    · rw [h.1] at h31;exact absurd h31 (by decide)
    · exact ⟨n,y,h1,h2,h3⟩
   obtain ⟨bY,oY,eY,hY⟩:=hR n (bs 38 y) (by rw [List.getElem?_map,hy];rfl)
   cases eY
   refine Xj 3 rfl F rfl (fun w=>rMv F rfl) H qq0 (Xm 4 rfl rfl (fun a F w=>rMv F rfl) H qq0 ?_);clear F a;intro a F
   refine Xq (k:=5) (i:=5) rfl F rfl (fun w=>rIx XU X0 F rfl rfl ?_) H (fun _ _ _ h=>h) ?_
   focus exact hil
   clear F a;intro a F;refine Xv 6 rfl F rfl rfl (fun w H=>Nt X5 rfl X0 F rfl (H.argR hX)) H qq0 (Xm 7 rfl rfl (fun a F w=>rMv F rfl) H qq0 (Xm 8 rfl rfl (fun a F w=>rMv F rfl) H qq0 ?_));clear F a;intro a F
   refine Xq (k:=9) (i:=9) rfl F rfl (fun w=>rIx XU X0 F rfl rfl ?_) H (fun _ _ _ h=>h) ?_
   focus omega
   clear F a;intro a F;refine Xv 10 rfl F rfl rfl (fun w H=>Nt X5 rfl X0 F rfl (H.argR hY)) H qq0 ?_;clear F a;intro a F;refine Xn (k:=11) (i:=11) rfl F (J3 call55 F rfl rfl (Dv x y _) (gG H ?_));clear F a H;intro a w F H;refine Xo H ?_;refine Xj 12 rfl F rfl (fun w=>rPk F rfl rfl) H qq0 ?_;clear F a;intro a F;refine Xp (k:=13) ?_;refine hK11 _ _ ?_;clear hK11
   refine cIf F rfl (fun h41=>?_) (fun h41=>?_)
   ·
    refine JY (Xf F rfl (Xd rfl (qNK hK8 (Ef (Xh rfl ?_)))));clear hK8;clear F a;intro a F
    refine Xg F rfl rfl (JJ (j:=1) ?_) ?_
    focus omega
    clear F a;intro a F;refine Xa F rfl ?_;clear F a;intro a F;refine J4 ?_
    (have hc:NV q x:=by exact hcz.2 (of_decide_eq_true h28)
     exact ⟨_,by omega,_,⟨i+1,(i:Int),rfl,rfl,by omega,Xcm hb hy hx hc (of_decide_eq_true h41),H⟩,F.tt⟩)
   refine wp_skip (hK8 _ _ (JY (Xf F rfl ?_)));clear hK8;clear F a;intro a F
   refine Xg F rfl rfl (JJ (j:=1) ?_) ?_
   focus omega
   clear F a;intro a F;refine Xa F rfl ?_;clear F a;intro a F;refine J4 ?_
   (have hc:NV q x:=by exact hcz.2 (of_decide_eq_true h28)
    exact ⟨_,by omega,_,⟨i+1,(n:Int),rfl,rfl,by omega,Xcn hb hy hx (of_decide_eq_false h41),H⟩,F.tt⟩)
  replace h15:=of_decide_eq_false h15;refine Xz 4 rfl F rfl H qq0 (XA 5 rfl rfl H qq0 (XA 6 rfl rfl H qq0 (XA 7 rfl rfl H qq0 (XA 8 rfl rfl H qq0 (XA 9 rfl rfl H qq0 (XA 10 rfl rfl H qq0 (XA 11 rfl rfl H qq0 (XA 12 rfl rfl H qq0 (XA 13 rfl rfl H qq0 (XA 14 rfl rfl H qq0 (XA 15 rfl rfl H qq0 (Xm 16 rfl rfl (fun a F w=>rPk F rfl rfl) H qq0 ?_))))))))))));clear F a;intro a F;refine Xp (k:=17) ?_;refine hK10 _ _ ?_;clear hK10;refine LB F rfl ?_;refine wp_skip (hK9 _ _ ?_);clear hK9;refine JD (fun K12 hK12=>?_);refine Xi H ?_;replace H:=H.drew;refine Xj 0 rfl F rfl (fun w=>rMv F rfl) H qq0 (Xm 1 rfl rfl (fun a F w=>Q0 F rfl rfl QF) H qq0 (Xm 2 rfl rfl (fun a F w=>rMv F rfl) H qq0 ?_));clear F a;intro a F
  refine F.split 31 rfl ?_ ?_ <;> (clear F;intro h31 F)
  ·
   replace h31:=of_decide_eq_true h31;refine Xz 3 rfl F rfl H qq0 (XA 4 rfl rfl H qq0 (XA 5 rfl rfl H qq0 (XA 6 rfl rfl H qq0 (XA 7 rfl rfl H qq0 (XA 8 rfl rfl H qq0 (XA 9 rfl rfl H qq0 (XA 10 rfl rfl H qq0 (XA 11 rfl rfl H qq0 (Xm 12 rfl rfl (fun a F w=>rPk F rfl rfl) H qq0 ?_)))))))));clear F a;intro a F;refine Xp (k:=13) ?_;refine hK12 _ _ ?_;clear hK12;refine MQ F rfl ?_;refine JY (Xf F rfl (Xd rfl (qNK hK8 (Ef (Xh rfl ?_)))));clear hK8;clear F a;intro a F
   refine Xg F rfl rfl (JJ (j:=1) ?_) ?_
   focus omega
   clear F a;intro a F;refine Xa F rfl ?_;clear F a;intro a F;refine J4 ?_
   (have hc:NV q x:=by exact hcx (List.eq_nil_of_length_eq_zero (by omega))
    exact ⟨_,by omega,_,⟨i+1,(i:Int),rfl,rfl,by omega,Xaj hb h31 hx hc,H⟩,F.tt⟩)
  replace h31:=of_decide_eq_false h31
  obtain ⟨n,y,rfl,hni,hy⟩:∃ (n:Nat) (y:By),b=(n:Int)∧n < i∧l[n]? = some y:=by
   rcases hb with h | ⟨n,y,h1,h2,h3,_⟩
   · rw [h.1] at h31;exact absurd h31 (by decide)
   · exact ⟨n,y,h1,h2,h3⟩
  obtain ⟨bY,oY,eY,hY⟩:=hR n (bs 38 y) (by rw [List.getElem?_map,hy];rfl)
  cases eY
  refine Xj 3 rfl F rfl (fun w=>rMv F rfl) H qq0 (Xm 4 rfl rfl (fun a F w=>rMv F rfl) H qq0 ?_);clear F a;intro a F
  refine Xq (k:=5) (i:=5) rfl F rfl (fun w=>rIx XU X0 F rfl rfl ?_) H (fun _ _ _ h=>h) ?_
  focus exact hil
  clear F a;intro a F;refine Xv 6 rfl F rfl rfl (fun w H=>Nt X5 rfl X0 F rfl (H.argR hX)) H qq0 (Xm 7 rfl rfl (fun a F w=>rMv F rfl) H qq0 (Xm 8 rfl rfl (fun a F w=>rMv F rfl) H qq0 ?_));clear F a;intro a F
  refine Xq (k:=9) (i:=9) rfl F rfl (fun w=>rIx XU X0 F rfl rfl ?_) H (fun _ _ _ h=>h) ?_
  focus omega
  clear F a;intro a F;refine Xv 10 rfl F rfl rfl (fun w H=>Nt X5 rfl X0 F rfl (H.argR hY)) H qq0 ?_;clear F a;intro a F;refine Xn (k:=11) (i:=11) rfl F (J3 call55 F rfl rfl (Dv x y _) (gG H ?_));clear F a H;intro a w F H;refine Xo H ?_;refine Xj 12 rfl F rfl (fun w=>rPk F rfl rfl) H qq0 ?_;clear F a;intro a F;refine Xp (k:=13) ?_;refine hK12 _ _ ?_;clear hK12
  refine cIf F rfl (fun h41=>?_) (fun h41=>?_)
  ·
   refine JY (Xf F rfl (Xd rfl (qNK hK8 (Ef (Xh rfl ?_)))));clear hK8;clear F a;intro a F
   refine Xg F rfl rfl (JJ (j:=1) ?_) ?_
   focus omega
   clear F a;intro a F;refine Xa F rfl ?_;clear F a;intro a F;refine J4 ?_
   (have hc:NV q x:=by exact hcx (List.eq_nil_of_length_eq_zero (by omega))
    exact ⟨_,by omega,_,⟨i+1,(i:Int),rfl,rfl,by omega,Xcm hb hy hx hc (of_decide_eq_true h41),H⟩,F.tt⟩)
  refine wp_skip (hK8 _ _ (JY (Xf F rfl ?_)));clear hK8;clear F a;intro a F
  refine Xg F rfl rfl (JJ (j:=1) ?_) ?_
  focus omega
  clear F a;intro a F;refine Xa F rfl ?_;clear F a;intro a F;refine J4 ?_
  (have hc:NV q x:=by exact hcx (List.eq_nil_of_length_eq_zero (by omega))
   exact ⟨_,by omega,_,⟨i+1,(n:Int),rfl,rfl,by omega,Xcn hb hy hx (of_decide_eq_false h41),H⟩,F.tt⟩)
 replace h9:=of_decide_eq_false h9
 obtain rfl:i=l.length:=by omega
 refine wp_exit ?_;refine hK4 _ _ ?_;clear hK4;refine JD (fun K13 hK13=>?_);refine cSR fun K14 hK14=>Xf F rfl (Xe rfl rfl QF (qNK hK14 ?_));clear hK14;clear F a;intro a F
 refine cIf F rfl (fun h44=>?_) (fun h44=>?_)
 ·
  replace h44:=of_decide_eq_true h44;refine cSR fun K15 hK15=>Xf F rfl (Xd rfl (qNK hK15 ?_));clear hK15;clear F a;intro a F;refine wp_ret ?_;refine xI ?_;refine JI results28 F rfl ?_
  have hno:∀ x ∈ l,toL 38 x ∈ tl q:=fun x hx=>by
   rcases hb with ⟨_,h2⟩ | ⟨n,y,h1,_⟩
   · obtain ⟨k,hk⟩:=List.getElem?_of_mem hx
     exact Xhy hq hx (h2 k x (List.getElem?_eq_some_iff.1 hk).1 hk)
   · omega
  exact ⟨A,c,q,rfl,⟨hq.up,fun z=>⟨hq.sub z,fun hz=>by obtain ⟨v,hv,rfl⟩:=List.mem_map.1 hz;exact hno v hv⟩⟩,H.pick 0 rfl⟩
 replace h44:=of_decide_eq_false h44
 obtain ⟨n,y,rfl,hnl,hy,hcy,hmy⟩:∃ (n:Nat) (y:By),b=(n:Int)∧n < l.length∧l[n]? = some y∧NV q y∧∀ x ∈ l,NV q x→¬ Nb (toL 38 x) (toL 38 y) < 0:=by
  rcases hb with h | ⟨n,y,h1,h2,h3,h4,h5⟩
  · rw [h.1] at h44;exact absurd h44 (by decide)
  · exact ⟨n,y,h1,h2,h3,h4,fun x hx hc=>by
     obtain ⟨k,hk⟩:=List.getElem?_of_mem hx
     exact h5 k x (List.getElem?_eq_some_iff.1 hk).1 hk hc⟩
 obtain ⟨bY,oY,eY,hY⟩:=hR n (bs 38 y) (by rw [List.getElem?_map,hy];rfl)
 cases eY
 have hyl:y ∈ l:=List.mem_of_getElem? hy
 have hyn:toL 38 y ∉ tl q:=fun hh=>by
  have:=XbF hq hcy _ hh
  rw [N9] at this
  exact absurd this (by decide)
 have hlt:=Xgc hyl hyn
 refine wp_skip (hK13 _ _ (JY (Xf F rfl (Xh rfl (Xh rfl ?_)))));clear hK13;clear F a;intro a F
 refine sIx XU X0 F rfl rfl rfl rfl ?_ ?_
 focus omega
 clear F a;intro a F;refine Xs X5 rfl X0 F rfl (H.argR hY) ?_;clear F a;intro a F;refine Cf H XU X0 YZ rfl F rfl rfl rfl rfl rfl ?_;clear F a H;intro b51 a w F H
 refine Mq (bytes:=38) H 1 XU Zg rfl rfl rfl rfl rfl rfl F rfl rfl rfl rfl rfl (H.whole 0 rfl) rfl ?s1 ?s2 ?_
 case s1=>rfl
 case s2=>(rw [List.length_map];omega)
 clear F a H;intro A52 c52 a w F H;refine Xa F rfl ?_;clear F a;intro a F;refine J4 ?_
 have e2:q.map (bs 38)++[bs 38 y]=(q++[y]).map (bs 38):=by rw [List.map_append];rfl
 rw [e2,List.length_map] at H F
 exact ⟨_,hlt,_,⟨A52,c52,q++[y],rfl,rfl,XfJ hq hyl hcy hmy,by rw [List.length_append,List.length_singleton];omega,H.tail⟩,F.tt⟩
-- TrQ
open Go.RowKit
set_option maxRecDepth 100000
def TreeIn (S:Nat→Prop) (w:World):Nat→List Value→Cnd→Prop
 | 0,_,_=>False
 | h+1,cs,.mk k t n v kids=>∃ A C,cs=[b8 k,b8 t,b8 n,b8 v,.slice A kids.length C]∧kids.length≤9223372036854775807 ∧
     ∀ j kid,kids[j]? = some kid→∃ b off cs',A=some ⟨b,off,none⟩∧S b∧w.rangeAt b (off+j * 5) cs'∧TreeIn S w h cs' kid
theorem TreeIn.at {S:Nat→Prop} {w:World}:∀ {h:Nat} {cs:List Value} {c:Cnd},TreeIn S w h cs c→CondAt w h cs c
 | 0,_,_,hc=>hc
 | h+1,cs,.mk k t n v kids,⟨A,C,h1,h2,h3⟩=>⟨A,C,h1,h2,fun j kid hj=>by
   obtain ⟨b,off,cs',h4,_,h6,h7⟩:=h3 j kid hj
   exact ⟨b,off,cs',h4,h6,h7.at⟩⟩
theorem Dn {w w':World} {b o:Nat} {cs:List Value} (h:w'.heap[b]? = w.heap[b]?) (hr:w.rangeAt b o cs):w'.rangeAt b o cs:=fun k v hk=>by
 have:=hr k v hk
 unfold World.cell? at this ⊢
 simp only [h]
 exact this
theorem TreeIn.loc {S T:Nat→Prop} {w w':World} (hs:∀ b,S b→w'.heap[b]? = w.heap[b]?) (hT:∀ b,S b→T b):∀ {h:Nat} {cs:List Value} {c:Cnd},TreeIn S w h cs c→TreeIn T w' h cs c
 | 0,_,_,hc=>hc
 | h+1,cs,.mk k t n v kids,⟨A,C,h1,h2,h3⟩=>⟨A,C,h1,h2,fun j kid hj=>by
   obtain ⟨b,off,cs',h4,h5,h6,h7⟩:=h3 j kid hj
   exact ⟨b,off,cs',h4,hT b h5,Dn (hs b h5) h6,h7.loc hs hT⟩⟩
def Res.held (S:Nat→Prop) (A:Option Addr) (sz:Nat) (rows:List (List Value)):Res:=
 ⟨S,fun w=>∀ (j:Nat) (cs:List Value),rows[j]? = some cs→∃ b off,A=some ⟨b,off,none⟩∧S b∧w.rangeAt b (off+j * sz) cs,fun _ _ hb hp j cs h=>by
   obtain ⟨b,off,h1,h2,h3⟩:=hp j cs h
   exact ⟨b,off,h1,h2,Dn (hb b h2) h3⟩⟩
theorem Own.held {w0 w:World} {row:Option Nat} {S:Nat→Prop} {A:Option Addr} {sz:Nat} {rows:List (List Value)} {rs:List Res} (H:Own w0 row w rs) (i:Nat) (hi:rs[i]? = some (.held S A sz rows)):RowsAt w A sz rows:=fun j cs h=>by
 obtain ⟨b,off,h1,_,h3⟩:=(H.pred i _ hi:∀ (j:Nat) (cs:List Value),rows[j]? = some cs→∃ b off,A=some ⟨b,off,.none⟩∧S b∧w.rangeAt b (off+j * sz) cs) j cs h
 exact ⟨b,off,h1,h3⟩
-- MeL
open Go.RowKit
set_option maxRecDepth 100000
abbrev Sl:=Option Addr × Nat × List (List Value)
def InL (L:List Sl) (s:Sl):Prop:=s ∈ L∨s.2.2=[]
def MemL (w:World) (L:List Sl):Prop:=∀ x ∈ L,RowsAt w x.1 x.2.1 x.2.2
theorem MemL.at {w:World} {L:List Sl} (h:MemL w L) {s:Sl} (hs:InL L s):RowsAt w s.1 s.2.1 s.2.2:=by
 rcases hs with hs | hs
 · exact h s hs
 · intro j cs hj
   rw [hs] at hj;cases hj
theorem MemL.own {w0 w:World} {L:List Sl} {rs:List Res} (h:MemL w0 L) (H:Own w0 none w rs):MemL w L:=fun x hx=>RowsAt.own (h x hx) H
theorem InL.left {L K:List Sl} {s:Sl} (h:InL L s):InL (L++K) s:=h.imp_left fun h=>List.mem_append_left _ h
theorem InL.right {L K:List Sl} {s:Sl} (h:InL L s):InL (K++L) s:=h.imp_left fun h=>List.mem_append_right _ h
theorem InL.head {L:List Sl} {s:Sl}:InL (s :: L) s:=.inl List.mem_cons_self
theorem InL.tail {L:List Sl} {s x:Sl} (h:InL L s):InL (x :: L) s:=h.imp_left fun h=>List.mem_cons_of_mem _ h
def Res.mem (S:Nat→Prop) (L:List Sl):Res:=
 ⟨S,fun w=>∀ x ∈ L,∀ (j:Nat) (cs:List Value),x.2.2[j]? = some cs→∃ b off,x.1=some ⟨b,off,none⟩∧S b∧w.rangeAt b (off+j * x.2.1) cs,fun _ _ hb hp x hx j cs h=>by
   obtain ⟨b,off,h1,h2,h3⟩:=hp x hx j cs h
   exact ⟨b,off,h1,h2,Dn (hb b h2) h3⟩⟩
theorem Own.memAt {w0 w:World} {row:Option Nat} {S:Nat→Prop} {L:List Sl} {rs:List Res} (H:Own w0 row w rs) (i:Nat) (hi:rs[i]? = some (.mem S L)):MemL w L:=fun x hx j cs h=>by
 obtain ⟨b,off,h1,_,h3⟩:=(H.pred i _ hi:∀ x ∈ L,∀ (j:Nat) (cs:List Value),x.2.2[j]? = some cs→∃ b off,x.1=some ⟨b,off,.none⟩∧S b∧w.rangeAt b (off+j * x.2.1) cs) x hx j cs h
 exact ⟨b,off,h1,h3⟩
theorem Own.memFuse {w0 w:World} {row:Option Nat} {S T:Nat→Prop} {L K:List Sl} {rs:List Res} (H:Own w0 row w (.mem S L :: .mem T K :: rs)):Own w0 row w (.mem (fun b=>S b∨T b) (L++K) :: rs):=by
 have h1:∀ x ∈ L,∀ (j:Nat) (cs:List Value),x.2.2[j]? = some cs→∃ b off,x.1=some ⟨b,off,.none⟩∧S b∧w.rangeAt b (off+j * x.2.1) cs:=H.pred 0 _ rfl
 have h2:∀ x ∈ K,∀ (j:Nat) (cs:List Value),x.2.2[j]? = some cs→∃ b off,x.1=some ⟨b,off,.none⟩∧T b∧w.rangeAt b (off+j * x.2.1) cs:=H.pred 1 _ rfl
 refine H.fuse (.mem (fun b=>S b∨T b) (L++K)) (fun x hx j cs h=>?_) (fun b hb=>hb)
 rcases List.mem_append.1 hx with hx | hx
 · obtain ⟨b,off,a1,a2,a3⟩:=h1 x hx j cs h
   exact ⟨b,off,a1,.inl a2,a3⟩
 · obtain ⟨b,off,a1,a2,a3⟩:=h2 x hx j cs h
   exact ⟨b,off,a1,.inr a2,a3⟩
theorem Own.memNil {w0 w:World} {row:Option Nat} {rs:List Res} (H:Own w0 row w rs):Own w0 row w (.mem (fun _=>False) [] :: rs):=
 H.void (.mem (fun _=>False) []) (fun x hx=>by cases hx) (fun b hb=>hb)
theorem Own.toMem {w0 w:World} {row:Option Nat} {e:TypeId} {n c sz:Nat} {A:Option Addr} {rows:List (List Value)} {rs:List Res} (H:Own w0 row w (.rws e sz (.slice A n c) rows :: rs)) (hr:∀ r ∈ rows,r.length=sz) (hsz:0 < sz) :
   Own w0 row w (.mem (fun b=>(Value.slice A n c).ownBlock=some b) [(A,sz,rows)] :: rs):=by
 have h:=H.rowsAt 0 rfl hr hsz
 refine H.seen (.mem (fun b=>(Value.slice A n c).ownBlock=some b) [(A,sz,rows)]) (fun x hx j cs hj=>?_) (fun b hb=>hb)
 rw [List.mem_singleton.1 hx] at hj ⊢
 obtain ⟨b,off,h1,h2⟩:=h j cs hj
 exact ⟨b,off,h1,by rw [show A=some ⟨b,off,.none⟩ from h1];rfl,h2⟩
end Go.Proofs.YtcpehikcegoojaaGreatDoor
