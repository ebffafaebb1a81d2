/-
  WALK2. The reference of layer 15: Over, Finals, Way. Conditions: the program lies in memory; its condition's depth is a Ml that an int holds; the rows lie in memory.
-/
import Derived.Test.YtcpehikcegoojaaGreatDoorJn13
import Derived.Test.YtcpehikcegoojaaGreatDoorJn12
set_option linter.unusedSimpArgs false
set_option linter.unusedVariables false
namespace Go.Proofs.YtcpehikcegoojaaGreatDoor
-- RsG
open Go.Proofs.Tryz
open Go.RowKit
set_option maxRecDepth 100000
structure RowQ where
 s:By
 w:List Pss
 A:Option Addr
 c:Nat
def RowQ.cells (r:RowQ):List Value:=bs 142 r.s++[.slice r.A r.w.length r.c]
theorem Xay (r:RowQ):r.cells.length=143:=by unfold RowQ.cells;rw [List.length_append,bs_length];rfl
theorem NN (l:List RowQ):∀ r ∈ l.map RowQ.cells,r.length=143:=fun r hr=>by
 obtain ⟨s,_,rfl⟩:=List.mem_map.1 hr
 exact Xay s
theorem NJ {w:World} {b o:Nat} {x y:List Value} (h:w.rangeAt b o (x++y)):w.rangeAt b o x:=fun k v hk=>h k v (by rw [List.getElem?_append_left (List.getElem?_eq_some_iff.1 hk).1];exact hk)
theorem XbA {w:World} {b o:Nat} {r:RowQ} (h:w.rangeAt b o r.cells):w.cell? ⟨b,o+142,none⟩=some (.slice r.A r.w.length r.c):=h 142 _ (by
 unfold RowQ.cells
 rw [List.getElem?_append_right (by rw [bs_length];exact Nat.le_refl _),bs_length];rfl)
def N7 (p:Prg) (mc:UInt8) (r:RowQ):Bool:=(Qj p mc r.s).isEmpty
theorem Xc4 {l:List Pss}:((l.length:Int) == 0)=l.isEmpty:=by rw [Qb];cases l <;> rfl
theorem Dp (cs:List Value) (p:Prg) (w0:World) (hP:ProgAt w0 cs p) (hd:Nw p.cond≤9223372036854775807) (mc:UInt8) (r:RowQ) :
   Calls Tryz.prog 10 #[.agg cs.toArray,YtcpehikcegoojaaGreatDoor.b8 mc,.agg r.cells.toArray] w0 fun e w'=>e = .returned (.bool (N7 p mc r))∧Below w0.heap.size w0 w':=by
 have H:=Own.start w0 none
 obtain ⟨d1,d2,d3,d4,d5,d6,d7,d8,d9,d10,rfl⟩:=hP.len10
 refine JF func10 rfl ntmps10 rfl (fun a F=>?_);refine cSR fun K1 hK1=>?_;refine sBx H F rfl rfl rfl ?_;clear F a H;intro b3 a w F H;refine sBx H F rfl rfl rfl ?_;clear F a H;intro b5 a w F H;refine Xa F rfl ?_;clear F a;intro a F;refine J4 ?_
 replace H:Own w0 none w [.blk b5 r.cells 62,.blk b3 [d1,d2,d3,d4,d5,d6,d7,d8,d9,d10] 29]:=H
 refine hK1 _ _ (cSR fun K2 hK2=>?_);clear hK1
 refine Xw XM rfl ?si F rfl (H.whole 1 rfl) ?_
 case si=>exact Jz Ya
 clear F a;intro a F;refine Xf F rfl (Xr (f:=0) (k:=0) Yv rfl XL rfl rfl rfl (Nu XG rfl XL rfl rfl rfl (NJ (H.whole 0 rfl)) ?_));clear F a;intro a F;refine Xu call21 F rfl (Lw _ p _ (hP.own H) hd mc r.s) ?_;rintro e w ⟨A,c,rfl,H2⟩;replace H:=H.join H2;clear H2;refine ⟨_,rfl,?_⟩;clear F a;intro a F;refine Ec XX F rfl rfl rfl (Xe rfl rfl Mp (Xd rfl (qNK hK2 ?_)));clear hK2;clear F a;intro a F;refine wp_ret ?_;refine JI results10 F rfl ?_
 exact ⟨by rw [Xc4];rfl,H.below⟩
def XiB (p:Prg) (mc:UInt8) (l:List RowQ):List By:=(l.filter (N7 p mc)).map fun r=>Qh r.s
theorem XfN (p:Prg) (mc:UInt8) {l:List RowQ} {i:Nat} {r:RowQ} (h:l[i]? = some r):XiB p mc (l.take (i+1))=XiB p mc (l.take i)++if N7 p mc r=true then [Qh r.s] else []:=by
 unfold XiB
 rw [List.take_add_one,h,List.filter_append,List.map_append]
 congr 1
 by_cases hh:N7 p mc r=true
 · rw [if_pos hh];show ([r].filter _).map _=_;rw [List.filter_cons_of_pos hh];rfl
 · rw [if_neg hh];show ([r].filter _).map _=_;rw [List.filter_cons_of_neg hh];rfl
set_option maxHeartbeats 2000000 in
theorem XaV (cs:List Value) (p:Prg) (w0:World) (hP:ProgAt w0 cs p) (hd:Nw p.cond≤9223372036854775807) (mc:UInt8) (RA:Option Addr) (RC:Nat) (l:List RowQ) (hR:RowsAt w0 RA 143 (l.map RowQ.cells)) (hl:l.length≤65536) :
   Calls Tryz.prog 11 #[.agg cs.toArray,YtcpehikcegoojaaGreatDoor.b8 mc,.slice RA l.length RC] w0 fun e w'=>∃ A c q,e = .returned (.slice A q.length c)∧(MO (tl q)∧∀ x,x ∈ tl q ↔ x ∈ tl (XiB p mc l))∧Own w0 none w' [.rws 34 38 (.slice A q.length c) (q.map (bs 38))]:=by
 have H:=Own.start w0 none
 obtain ⟨d1,d2,d3,d4,d5,d6,d7,d8,d9,d10,rfl⟩:=hP.len10
 refine JF func11 rfl ntmps11 rfl (fun a F=>?_);refine cSR fun K1 hK1=>?_;refine sBx H F rfl rfl rfl ?_;clear F a H;intro b3 a w F H;refine Xa F rfl (qNK hK1 (qSR fun K2 hK2=>Xd rfl ?_));clear hK1;clear F a;intro a F
 replace H:=H.nilRws 34 38
 refine nK hK2 ?_;clear hK2;refine JD (fun K3 hK3=>?_);refine cSR fun K4 hK4=>Xa F rfl (qNK hK4 ?_);clear hK4;clear F a;intro a F;refine wp_block ?_
 refine JN [1,2,3] (fun m ups w=>∃ (i:Nat) (A:Option Addr) (c:Nat) (q:List By),m=l.length - i∧ups=[(7,.slice A q.length c),(8,.int .i64 ((i:Nat):Int))]∧i≤l.length∧q=XiB p mc (l.take i)∧q.length≤i∧Own w0 none w [.rws 34 38 (.slice A q.length c) (q.map (bs 38)),.blk b3 [d1,d2,d3,d4,d5,d6,d7,d8,d9,d10] 29]) F (l.length) [(7,.slice none 0 0),(8,.int .i64 ((0:Nat):Int))] ?_ ?_
 · exact ⟨0,none,0,[],rfl,rfl,by omega,rfl,Nat.le_refl _,H.sel [0,1] rfl rfl⟩
 clear F
 clear H
 intro m ups a w hI F
 obtain ⟨i,A,c,q,rfl,rfl,hi,hq,hqn,H⟩:=hI
 refine JD (fun K5 hK5=>?_);refine cSR fun K6 hK6=>Xf F rfl (Xh rfl (Xx Yn rfl (Xe rfl rfl QF (qNK hK6 ?_))));clear hK6;clear F a;intro a F
 refine cIf F rfl (fun h12=>?_) (fun h12=>?_)
 ·
  replace h12:=of_decide_eq_true h12
  have hil:i < l.length:=by omega
  obtain ⟨r,hr⟩:∃ r,l[i]? = some r:=⟨_,List.getElem?_eq_getElem hil⟩
  obtain ⟨bR,oR,rfl,hc⟩:=hR i r.cells (by rw [List.getElem?_map,hr];rfl)
  have hs:=XfN p mc hr
  refine wp_skip (hK5 _ _ ?_);clear hK5;refine JD (fun K7 hK7=>?_);refine wp_block ?_;refine JD (fun K8 hK8=>?_);refine Xi H ?_;replace H:=H.drew
  refine Xk (k:=0) (i:=0) rfl F rfl rfl (fun w H=>rLr XM rfl ?si F rfl (H.whole 1 rfl)) H (fun _ _ _ h=>h) ?_
  case si=>exact Jz Ya
  clear F a;intro a F;refine Xj 1 rfl F rfl (fun w=>rMv F rfl) H qq0 (Xm 2 rfl rfl (fun a F w=>rMv F rfl) H qq0 (Xm 3 rfl rfl (fun a F w=>rMv F rfl) H qq0 ?_));clear F a;intro a F
  refine Xq (k:=4) (i:=4) rfl F rfl (fun w=>rIx Yn YD F rfl rfl ?_) H (fun _ _ _ h=>h) ?_
  focus exact hil
  clear F a;intro a F
  refine Xk (k:=5) (i:=5) rfl F rfl rfl (fun w H=>rLr Yv rfl ?si F rfl (H.argR hc)) H (fun _ _ _ h=>h) ?_
  case si=>exact Jz YD
  clear F a;intro a F;refine Xn (k:=6) (i:=6) rfl F (J3 call10 F rfl rfl (Dp _ p _ (hP.own H) hd mc r) (gG H ?_));clear F a H;intro a w F H;refine Xo H ?_;refine Xp (k:=7) ?_;refine hK8 _ _ ?_;clear hK8
  refine cIf F rfl (fun h21=>?_) (fun h21=>?_)
  ·
   refine JY (Xf F rfl (Xh rfl (Xh rfl ?_)));clear F a;intro a F
   refine sIx Yn YD F rfl rfl rfl rfl ?_ ?_
   focus exact hil
   clear F a;intro a F;refine Xb (f:=0) Yv rfl XL rfl rfl F rfl (Nu XG rfl XL rfl rfl rfl (H.argR (NJ hc)) ?_);clear F a;intro a F;refine Xu call27 F rfl (DI r.s _) (gG H ?_);clear F a H;intro a w F H;refine Cf H XU X0 YZ rfl F rfl rfl rfl rfl rfl ?_;clear F a H;intro b29 a w F H
   refine Mq (bytes:=38) H 1 XU Zg rfl rfl rfl rfl rfl rfl F rfl rfl rfl rfl rfl (H.whole 0 rfl) rfl ?s1 ?s2 ?_
   case s1=>rfl
   case s2=>(rw [List.length_map];omega)
   clear F a H;intro A30 c30 a w F H;refine Xa F rfl (qNK hK7 (Ef (Xh rfl ?_)));clear hK7;clear F a;intro a F
   refine Xg F rfl rfl (JJ (j:=1) ?_) ?_
   focus omega
   clear F a;intro a F;refine Xa F rfl ?_;clear F a;intro a F;refine J4 ?_
   (have ho:N7 p mc r=true:=h21
    have e2:q.map (bs 38)++[bs 38 (Qh r.s)]=(q++[Qh r.s]).map (bs 38):=by rw [List.map_append];rfl
    rw [e2,List.length_map] at H F
    exact ⟨_,by omega,_,⟨i+1,A30,c30,q++[Qh r.s],rfl,rfl,by omega,by rw [hs,if_pos ho,hq],by rw [List.length_append,List.length_singleton];omega,H.tail⟩,F.tt⟩)
  refine wp_skip (hK7 _ _ (JY (Xf F rfl ?_)));clear hK7;clear F a;intro a F
  refine Xg F rfl rfl (JJ (j:=1) ?_) ?_
  focus omega
  clear F a;intro a F;refine Xa F rfl ?_;clear F a;intro a F;refine J4 ?_
  (have ho:¬ N7 p mc r=true:=by rw [h21];decide
   exact ⟨_,by omega,_,⟨i+1,A,c,q,rfl,rfl,by omega,by rw [hs,if_neg ho,List.append_nil,hq],by omega,H⟩,F.tt⟩)
 replace h12:=of_decide_eq_false h12
 obtain rfl:i=l.length:=by omega
 rw [List.take_length] at hq;subst hq;refine wp_exit ?_;refine hK3 _ _ (cSR fun K9 hK9=>Xf F rfl ?_);clear hK3;clear F a;intro a F;refine Xu call28 F rfl (Xep A c (XiB p mc l) _ (H.rowsAt 0 rfl (Mc _) (by decide)) (by omega)) ?_;rintro e w ⟨A2,k2,q2,rfl,hq2,H2⟩;replace H:=H.join H2;clear H2;refine ⟨_,rfl,?_⟩;clear F a;intro a F;refine Xa F rfl (qNK hK9 ?_);clear hK9;clear F a;intro a F;refine wp_ret ?_;refine JI results11 F rfl ?_
 exact ⟨A2,k2,q2,rfl,hq2,H.pick 0 rfl⟩
def Xe4 (p:Prg) (mc:UInt8) (f:By) (l:List RowQ):Option RowQ:=l.find? fun r=>N7 p mc r && same 38 (Qh r.s) f
theorem Xgs {p:Prg} {mc:UInt8} {f:By} {l:List RowQ} {i:Nat} {r:RowQ} (hi:l[i]? = some r) (hno:∀ j r,j < i→l[j]? = some r→(N7 p mc r && same 38 (Qh r.s) f)=false) (h:(N7 p mc r && same 38 (Qh r.s) f)=true):Xe4 p mc f l=some r:=by
 unfold Xe4
 obtain ⟨hl,rfl⟩:=List.getElem?_eq_some_iff.1 hi
 refine List.find?_eq_some_iff_getElem.2 ⟨h,i,hl,rfl,fun j hj=>?_⟩
 have:=hno j _ hj (List.getElem?_eq_getElem (by omega))
 rw [this];rfl
theorem XbY {p:Prg} {mc:UInt8} {f:By} {l:List RowQ} (hno:∀ j r,j < l.length→l[j]? = some r→(N7 p mc r && same 38 (Qh r.s) f)=false):Xe4 p mc f l=none:=by
 unfold Xe4
 refine List.find?_eq_none.2 fun k hk=>?_
 obtain ⟨j,hj⟩:=List.mem_iff_getElem?.1 hk
 have:=hno j k (List.getElem?_eq_some_iff.1 hj).1 hj
 rw [this];decide
def wayV:Option RowQ→Value
 | none=>.slice none 0 0
 | some r=>.slice r.A r.w.length r.c
set_option maxHeartbeats 2000000 in
theorem Xei (cs:List Value) (p:Prg) (w0:World) (hP:ProgAt w0 cs p) (hd:Nw p.cond≤9223372036854775807) (mc:UInt8) (f:By) (RA:Option Addr) (RC:Nat) (l:List RowQ) (hR:RowsAt w0 RA 143 (l.map RowQ.cells)) (hl:l.length≤65536) :
   Calls Tryz.prog 13 #[.agg cs.toArray,YtcpehikcegoojaaGreatDoor.b8 mc,.agg (bs 38 f).toArray,.slice RA l.length RC] w0 fun e w'=>e = .returned (.tuple #[wayV (Xe4 p mc f l),.bool (Xe4 p mc f l).isSome])∧Below w0.heap.size w0 w':=by
 have H:=Own.start w0 none
 obtain ⟨d1,d2,d3,d4,d5,d6,d7,d8,d9,d10,rfl⟩:=hP.len10
 refine JF func13 rfl ntmps13 rfl (fun a F=>?_);refine cSR fun K1 hK1=>?_;refine sBx H F rfl rfl rfl ?_;clear F a H;intro b4 a w F H;refine Mg H F rfl rfl rfl ?_;clear F a H;intro b6 a w F H;refine Xa F rfl (Xd rfl (qNK hK1 ?_));clear hK1;clear F a;intro a F;refine JD (fun K2 hK2=>?_);refine cSR fun K3 hK3=>Xa F rfl (qNK hK3 ?_);clear hK3;clear F a;intro a F;refine wp_block ?_
 refine JN [1,3,4,6] (fun m ups w=>∃ (i:Nat),m=l.length - i∧ups=[(10,.int .i64 ((i:Nat):Int))]∧i≤l.length∧(∀ j r,j < i→l[j]? = some r→(N7 p mc r && same 38 (Qh r.s) f)=false)∧Own w0 none w [.blk b6 (bs 38 f) 34,.blk b4 [d1,d2,d3,d4,d5,d6,d7,d8,d9,d10] 29]) F (l.length) [(10,.int .i64 ((0:Nat):Int))] ?_ ?_
 · exact ⟨0,rfl,rfl,by omega,fun j r hj=>absurd hj (by omega),H.sel [0,1] rfl rfl⟩
 clear F
 clear H
 intro m ups a w hI F
 obtain ⟨i,rfl,rfl,hi,hno,H⟩:=hI
 refine JD (fun K4 hK4=>?_);refine cSR fun K5 hK5=>Xf F rfl (Xh rfl (Xx Yn rfl (Xe rfl rfl QF (qNK hK5 ?_))));clear hK5;clear F a;intro a F
 refine cIf F rfl (fun h14=>?_) (fun h14=>?_)
 ·
  replace h14:=of_decide_eq_true h14
  have hil:i < l.length:=by omega
  obtain ⟨r,hr⟩:∃ r,l[i]? = some r:=⟨_,List.getElem?_eq_getElem hil⟩
  obtain ⟨bR,oR,rfl,hc⟩:=hR i r.cells (by rw [List.getElem?_map,hr];rfl)
  refine wp_skip (hK4 _ _ ?_);clear hK4;refine JD (fun K6 hK6=>?_);refine wp_block ?_;refine JD (fun K7 hK7=>?_);refine Xi H ?_;replace H:=H.drew
  refine Xk (k:=0) (i:=0) rfl F rfl rfl (fun w H=>rLr XM rfl ?si F rfl (H.whole 1 rfl)) H (fun _ _ _ h=>h) ?_
  case si=>exact Jz Ya
  clear F a;intro a F;refine Xj 1 rfl F rfl (fun w=>rMv F rfl) H qq0 (Xm 2 rfl rfl (fun a F w=>rMv F rfl) H qq0 (Xm 3 rfl rfl (fun a F w=>rMv F rfl) H qq0 ?_));clear F a;intro a F
  refine Xq (k:=4) (i:=4) rfl F rfl (fun w=>rIx Yn YD F rfl rfl ?_) H (fun _ _ _ h=>h) ?_
  focus exact hil
  clear F a;intro a F
  refine Xk (k:=5) (i:=5) rfl F rfl rfl (fun w H=>rLr Yv rfl ?si F rfl (H.argR hc)) H (fun _ _ _ h=>h) ?_
  case si=>exact Jz YD
  clear F a;intro a F;refine Xn (k:=6) (i:=6) rfl F (J3 call10 F rfl rfl (Dp _ p _ (hP.own H) hd mc r) (gG H ?_));clear F a H;intro a w F H;refine Xo H ?_;refine Xj 7 rfl F rfl (fun w=>rMv F rfl) H qq0 ?_;clear F a;intro a F
  refine F.split 24 rfl ?_ ?_ <;> (clear F;intro h24 F)
  ·
   refine Xj 8 rfl F rfl (fun w=>rMv F rfl) H qq0 (Xm 9 rfl rfl (fun a F w=>rMv F rfl) H qq0 ?_);clear F a;intro a F
   refine Xq (k:=10) (i:=10) rfl F rfl (fun w=>rIx Yn YD F rfl rfl ?_) H (fun _ _ _ h=>h) ?_
   focus exact hil
   clear F a;intro a F;refine Xj 11 rfl F rfl (fun w=>rFa (f:=0) Yv rfl XL rfl rfl F rfl) H qq0 (Xl 12 rfl rfl rfl (fun a F w H=>Nt XG rfl XL F rfl (H.argR (NJ hc))) H qq0 (Xl 14 rfl rfl rfl (fun a F w H=>Nt X5 rfl X0 F rfl (H.whole 0 rfl)) H qq0 ?_));clear F a;intro a F;refine Xn (k:=14) (i:=13) rfl F (J3 call27 F rfl rfl (DI r.s _) (gG H ?_));clear F a H;intro a w F H;refine JR H ?_;refine Xj 15 rfl F rfl (fun w=>Q0 F rfl rfl (XjT Xky Xkr rfl)) H qq0 (Xm 16 rfl rfl (fun a F w=>rPk F rfl rfl) H qq0 ?_);clear F a;intro a F;refine Xp (k:=17) ?_;refine hK7 _ _ ?_;clear hK7
   refine cIf F rfl (fun h33=>?_) (fun h33=>?_)
   ·
    refine cSR fun K8 hK8=>Xf F rfl (Xh rfl ?_);clear F a;intro a F
    refine sIx Yn YD F rfl rfl rfl rfl ?_ ?_
    focus exact hil
    clear F a;intro a F;refine Xb (f:=1) Yv rfl sizeOf48 rfl rfl F rfl (Xc isAgg48 rfl (H.arg (XbA hc)) (Xd rfl (Xd rfl (qNK hK8 ?_))));clear hK8;clear F a;intro a F;refine wp_ret ?_;refine xI ?_;refine Et results13 F rfl rfl ?_
    (have h1:N7 p mc r=true:=by assumption
     have h2:same 38 (Qh r.s) f=true:=by assumption
     rw [Xgs hr hno (by rw [h1,h2];rfl)]
     exact ⟨rfl,H.below⟩)
   refine wp_skip (hK6 _ _ (JY (Xf F rfl ?_)));clear hK6;clear F a;intro a F
   refine Xg F rfl rfl (JJ (j:=1) ?_) ?_
   focus omega
   clear F a;intro a F;refine Xa F rfl ?_;clear F a;intro a F;refine J4 ?_
   have hn:(N7 p mc r && same 38 (Qh r.s) f)=false:=by
    (have h5:same 38 (Qh r.s) f=false:=by assumption
     rw [h5,Bool.and_false])
   exact ⟨_,by omega,_,⟨i+1,rfl,rfl,by omega,fun j r' hj hr'=>(by
    rcases Nat.lt_or_ge j i with h | h
    · exact hno j r' h hr'
    · obtain rfl:j=i:=by omega
      rw [hr] at hr';cases hr';exact hn),H⟩,F.tt⟩
  refine Xz 8 rfl F rfl H qq0 (XA 9 rfl rfl H qq0 (XA 10 rfl rfl H qq0 (XA 11 rfl rfl H qq0 (XA 12 rfl rfl H qq0 (XA 13 rfl rfl H qq0 (XA 14 rfl rfl H qq0 (XA 15 rfl rfl H qq0 (Xm 16 rfl rfl (fun a F w=>rPk F rfl rfl) H qq0 ?_))))))));clear F a;intro a F;refine Xp (k:=17) ?_;refine hK7 _ _ ?_;clear hK7;refine LB F rfl ?_;refine wp_skip (hK6 _ _ (JY (Xf F rfl ?_)));clear hK6;clear F a;intro a F
  refine Xg F rfl rfl (JJ (j:=1) ?_) ?_
  focus omega
  clear F a;intro a F;refine Xa F rfl ?_;clear F a;intro a F;refine J4 ?_
  have hn:(N7 p mc r && same 38 (Qh r.s) f)=false:=by
   (have h5:N7 p mc r=false:=by assumption
    rw [h5];rfl)
  exact ⟨_,by omega,_,⟨i+1,rfl,rfl,by omega,fun j r' hj hr'=>(by
   rcases Nat.lt_or_ge j i with h | h
   · exact hno j r' h hr'
   · obtain rfl:j=i:=by omega
     rw [hr] at hr';cases hr';exact hn),H⟩,F.tt⟩
 replace h14:=of_decide_eq_false h14
 obtain rfl:i=l.length:=by omega
 refine wp_exit ?_;refine hK2 _ _ (cSR fun K9 hK9=>Xa F rfl (Xd rfl (qNK hK9 ?_)));clear hK2 hK9;clear F a;intro a F;refine wp_ret ?_;refine Et results13 F rfl rfl ?_
 (rw [XbY hno]
  exact ⟨rfl,H.below⟩)
-- RsP
open Go.RowKit
set_option maxRecDepth 100000
def Xio (q:List (Int × Pss)):Prop:=∀ (j:Nat) (f:Int) (x:Pss),0 < j→q[j]? = some (f,x)→∃ i:Nat,f=(i:Int)∧i < j
theorem Xa9 {q:List (Int × Pss)} (h:Xio q) (z:Int × Pss):∀ f k,k < q.length→NM (q++[z]) f k=NM q f k
 | 0,_,_=>rfl
 | f+1,k,hk=>by
   rw [NM,NM,List.getElem?_append_left hk]
   by_cases h0:k=0
   · rw [if_pos h0,if_pos h0]
   · rw [if_neg h0,if_neg h0]
     cases hq:q[k]? with
     | none=>rfl
     | some y=>
       obtain ⟨g,x⟩:=y
       obtain ⟨i,rfl,hi⟩:=h k g x (by omega) hq
       show NM (q++[z]) f (i:Int).toNat++[x]=NM q f (i:Int).toNat++[x]
       rw [Int.toNat_natCast,Xa9 h z f i (by omega)]
theorem XeZ {q:List (Int × Pss)} (h:Xio q):∀ (k f:Nat),k≤f→NM q f k=NM q k k:=by
 intro k
 induction k using Nat.strongRecOn with
 | ind k ih=>
   intro f hf
   rcases Nat.eq_zero_or_pos k with e | e
   · subst e
     cases f with
     | zero=>rfl
     | succ f=>rfl
   · obtain ⟨f,rfl⟩:∃ g,f=g+1:=⟨f - 1,by omega⟩
     obtain ⟨k',rfl⟩:∃ g,k=g+1:=⟨k - 1,by omega⟩
     rw [NM,NM,if_neg (by omega),if_neg (by omega)]
     cases hq:q[k'+1]? with
     | none=>rfl
     | some y=>
       obtain ⟨g,x⟩:=y
       obtain ⟨i,rfl,hi⟩:=h _ _ _ e hq
       show NM q f (i:Int).toNat++[x]=NM q k' (i:Int).toNat++[x]
       rw [Int.toNat_natCast,ih i hi f (by omega),ih i hi k' (by omega)]
structure RowsQ (rows:List RowQ) (l:List By) (q:List (Int × Pss)) (K:List Sl):Prop where
 st:rows.map RowQ.s=l
 way:∀ (j:Nat) (r:RowQ),rows[j]? = some r→r.w=NM q j j
 mem:∀ r ∈ rows,InL K (r.A,3,r.w.map Pss.cells)
theorem RowsQ.len {rows:List RowQ} {l:List By} {q:List (Int × Pss)} {K:List Sl} (h:RowsQ rows l q K):rows.length=l.length:=by rw [← h.st,List.length_map]
theorem RowsQ.at {rows:List RowQ} {l:List By} {q:List (Int × Pss)} {K:List Sl} (h:RowsQ rows l q K) {j:Nat} {s:By} (hs:l[j]? = some s):∃ r,rows[j]? = some r∧r.s=s:=by
 rw [← h.st,List.getElem?_map] at hs
 obtain ⟨r,hr,e⟩:=Option.map_eq_some_iff.1 hs
 exact ⟨r,hr,e⟩
theorem RowsQ.up {rows:List RowQ} {l:List By} {q:List (Int × Pss)} {K M:List Sl} (h:RowsQ rows l q K) (hh:∀ x,InL K x→InL M x):RowsQ rows l q M:=⟨h.st,h.way,fun r hr=>hh _ (h.mem r hr)⟩
theorem RowsQ.snoc {rows:List RowQ} {l:List By} {q:List (Int × Pss)} {K:List Sl} (h:RowsQ rows l q K) (hq:Xio q) (hlen:q.length=l.length) {k:Nat} {x:Pss} {r:RowQ} {z:By} {A:Option Addr} {c:Nat} (hr:rows[k]? = some r) :
   RowsQ (rows++[⟨z,r.w++[x],A,c⟩]) (l++[z]) (q++[((k:Int),x)]) ((A,3,(r.w++[x]).map Pss.cells) :: K) where
 st:=by rw [List.map_append,h.st];rfl
 way:=fun j v hv=>by
   have hn:=h.len
   rcases Nat.lt_or_ge j rows.length with hj | hj
   · rw [List.getElem?_append_left hj] at hv
     rw [Xa9 hq _ _ _ (by omega)]
     exact h.way j v hv
   · have hj2:j=rows.length:=by
       have:=(List.getElem?_eq_some_iff.1 hv).1
       rw [List.length_append,List.length_singleton] at this
       omega
     rw [hj2,List.getElem?_append_right (Nat.le_refl _),Nat.sub_self] at hv
     cases hv
     have hk:=(List.getElem?_eq_some_iff.1 hr).1
     obtain ⟨j',rfl⟩:∃ g,j=g+1:=⟨j - 1,by omega⟩
     rw [NM,if_neg (by omega),List.getElem?_append_right (by omega),show j'+1 - q.length=0 by omega]
     show r.w++[x]=NM (q++[((k:Int),x)]) j' (k:Int).toNat++[x]
     rw [Int.toNat_natCast,Xa9 hq _ _ _ (by omega),XeZ hq k j' (by omega),h.way k r hr]
 mem:=fun v hv=>by
   rw [List.mem_append,List.mem_singleton] at hv
   rcases hv with hv | hv
   · exact (h.mem v hv).tail
   · rw [hv];exact InL.head
theorem VisI.linkQ {p:Prg} {m:UInt8} {most k:Nat} {s:By} {l0:List By} {dn:List Pss} {l:List By} {q:List (Int × Pss)} (h:VisI p m most k s l0 dn l q):Xio q:=fun j f x hj hq=>by
 obtain ⟨i,e,hi,_⟩:=h.link j f x hj hq
 exact ⟨i,e,hi⟩
theorem Xgi {l:List By} {i:Nat} {y z:By} (hy:l[i]? = some y):Xbi (l.take (i+1)) z=(Xbi (l.take i) z || same 142 y z):=by
 unfold Xbi
 rw [List.take_add_one,hy,List.any_append]
 congr 1
 show (same 142 z y || false)=_
 rw [Bool.or_false,Lv]
def Xbe (p:Prg) (m:UInt8) (n:Int) (w0:World) (e:Ending) (w':World):Prop:=
 ∃ (A:Option Addr) (c:Nat) (rows:List RowQ) (S:Nat→Prop) (K:List Sl),e = .returned (.tuple #[.slice A rows.length c,.int .i64 (J8 p m n)])∧RowsQ rows (fo (J7 p m n)).list (fo (J7 p m n)).links K∧Own w0 none w' [.rws 62 143 (.slice A rows.length c) (rows.map RowQ.cells),.mem S K]
theorem ME {p:Prg} {m:UInt8} {n v:Int} {w0 w:World} {rs:List Res} (H:Own w0 none w rs) (hv:J8 p m n=v) (h0:v ≠ 0):Xbe p m n w0 (.returned (.tuple #[.slice none 0 0,.int .i64 v])) w:=by
 refine ⟨none,0,[],fun _=>False,[],by rw [hv];rfl,?_,((H.sel [] rfl rfl).memNil).nilRws _ _⟩
 rw [L7 (by rw [hv];exact h0)]
 exact ⟨rfl,fun j r h=>by simp at h,fun r h=>by cases h⟩
theorem De {x u v:List Value} (h:x.length=u.length):Qn (u++v) 0 x=x++v:=by
 apply List.ext_getElem?
 intro i
 rw [MB _ _ _ _ (by rw [List.length_append];omega)]
 by_cases hi:i < x.length
 · rw [if_pos (by omega),Nat.sub_zero,List.getElem?_append_left hi]
 · rw [if_neg (by omega),List.getElem?_append_right (by omega),List.getElem?_append_right (by omega),h]
theorem XcH (x:List Value) (u v:Value):Qn (x++[u]) x.length [v]=x++[v]:=by
 show (x++[u]).set x.length v=_
 rw [List.set_append_right _ _ (Nat.le_refl _),Nat.sub_self];rfl
theorem Xgx {zs:List Value} (hz:zs=bs 142 zb++[.slice none 0 0]) (s:By):M9 (fun i=>([(0,142),(142,1)]:List (Nat × Nat))[i]?) zs [(0,.agg (bs 142 s).toArray)]=some (RowQ.mk s [] none 0).cells:=by
 have e1:(Value.agg (bs 142 s).toArray).cells.toList=bs 142 s:=by simp [Value.cells]
 have e2:zs.length=143:=by rw [hz,List.length_append,bs_length];rfl
 show (bif Nat.beq (Value.agg (bs 142 s).toArray).cells.toList.length 142 && Nat.ble (0+(Value.agg (bs 142 s).toArray).cells.toList.length) zs.length then some (Qn zs 0 (Value.agg (bs 142 s).toArray).cells.toList) else none)=_
 rw [e1,bs_length,e2,hz,De (by rw [bs_length,bs_length])]
 rfl
theorem Xgw {zs:List Value} (hz:zs=bs 142 zb++[.slice none 0 0]) (s:By) (wy:List Pss) (A:Option Addr) (c:Nat):M9 (fun i=>([(0,142),(142,1)]:List (Nat × Nat))[i]?) zs [(0,.agg (bs 142 s).toArray),(1,.slice A wy.length c)]=some (RowQ.mk s wy A c).cells:=by
 have e1:(Value.agg (bs 142 s).toArray).cells.toList=bs 142 s:=by simp [Value.cells]
 have e2:zs.length=143:=by rw [hz,List.length_append,bs_length];rfl
 have e3:(bs 142 s++[Value.slice none 0 0]).length=143:=by rw [List.length_append,bs_length];rfl
 show (bif Nat.beq (Value.agg (bs 142 s).toArray).cells.toList.length 142 && Nat.ble (0+(Value.agg (bs 142 s).toArray).cells.toList.length) zs.length then (bif Nat.beq 1 1 && Nat.ble (142+1) (Qn zs 0 (Value.agg (bs 142 s).toArray).cells.toList).length then some (Qn (Qn zs 0 (Value.agg (bs 142 s).toArray).cells.toList) 142 [.slice A wy.length c]) else none) else none)=_
 rw [e1,bs_length,e2,hz,De (by rw [bs_length,bs_length]),e3]
 have e4:=XcH (bs 142 s) (.slice none 0 0) (.slice A wy.length c)
 rw [bs_length] at e4;rw [e4]
 rfl
-- RsH
open Go.Proofs.Tryz
open Go.RowKit
set_option maxRecDepth 100000
set_option maxHeartbeats 1500000 in
theorem Xeq (cs:List Value) (p:Prg) (w0:World) (hP:ProgAt w0 cs p) (hd:Nw p.cond≤9223372036854775807) (mc:UInt8) (n:Int) (hlo : -9223372036854775808≤n) (hhi:n≤9223372036854775807) :
   Calls Tryz.prog 5 #[.agg cs.toArray,YtcpehikcegoojaaGreatDoor.b8 mc,.int .i64 n] w0 fun e w'=>Xbe p mc n w0 e w':=by
 have H:=Own.start w0 none
 obtain ⟨d1,d2,d3,d4,d5,d6,d7,d8,d9,d10,rfl⟩:=hP.len10
 have hkn:=known_of (m:=mc)
 have hbad:¬ MW p mc n→J8 p mc n=2:=fun h=>if_neg h
 refine JF func5 rfl ntmps5 rfl (fun a F=>?_);refine cSR fun K1 hK1=>?_;refine sBx H F rfl rfl rfl ?_;clear F a H;intro b3 a w F H;refine Xa F rfl (Xd rfl (qNK hK1 ?_));clear hK1;clear F a;intro a F;refine JD (fun K2 hK2=>?_);refine cSR fun K3 hK3=>?_
 refine Xw XM rfl ?si F rfl (H.whole 0 rfl) ?_
 case si=>exact Jz Ya
 clear F a;intro a F;refine Xu call19 F rfl (Dj _ p _ (hP.own H) hd) (gG H ?_);clear F a H;intro a w F H;refine Xg F rfl rfl DR (Xh rfl ?_);clear F a;intro a F
 refine F.split 22 rfl ?_ ?_ <;> (clear F;intro h22 F)
 ·
  replace h22:=Ep h22;refine XB F (XC (Xy rfl rfl (Xh rfl (XC (XC (Xy rfl rfl (Xh rfl (XC (XC (Xy rfl rfl (Xh rfl (XC (XC (Xy rfl rfl (qNK hK3 ?_)))))))))))))));clear hK3;clear F a;intro a F;refine MQ F rfl ?_;refine cSR fun K4 hK4=>Xa F rfl (Xd rfl (qNK hK4 ?_));clear hK4;clear F a;intro a F;refine wp_ret ?_;simp only [Exit.then];refine Et Y9 F rfl rfl ?_
  (refine ME H (hbad fun hC=>?_) (by decide)
   obtain ⟨q1,q2,q3,q4⟩:=hC
   have q5:=hkn.1 q1
   exact absurd q4 h22)
 replace h22:=Er h22;refine Xf F rfl (Xe rfl rfl (Eu (y:=1)) (Xy rfl rfl (Xh rfl ?_)));clear F a;intro a F
 refine F.split 26 rfl ?_ ?_ <;> (clear F;intro h26 F)
 ·
  replace h26:=of_decide_eq_true h26;refine XB F (XC (Xy rfl rfl (Xh rfl (XC (XC (Xy rfl rfl (Xh rfl (XC (XC (Xy rfl rfl (qNK hK3 ?_)))))))))));clear hK3;clear F a;intro a F;refine MQ F rfl ?_;refine cSR fun K5 hK5=>Xa F rfl (Xd rfl (qNK hK5 ?_));clear hK5;clear F a;intro a F;refine wp_ret ?_;simp only [Exit.then];refine Et Y9 F rfl rfl ?_
  (refine ME H (hbad fun hC=>?_) (by decide)
   obtain ⟨q1,q2,q3,q4⟩:=hC
   have q5:=hkn.1 q1
   exact q5.1 h26)
 replace h26:=of_decide_eq_false h26;refine Xf F rfl (Xe rfl rfl (DY (y:=3)) (Xy rfl rfl (Xh rfl ?_)));clear F a;intro a F
 refine F.split 30 rfl ?_ ?_ <;> (clear F;intro h30 F)
 ·
  replace h30:=of_decide_eq_true h30;refine XB F (XC (Xy rfl rfl (Xh rfl (XC (XC (Xy rfl rfl (qNK hK3 ?_)))))));clear hK3;clear F a;intro a F;refine MQ F rfl ?_;refine cSR fun K6 hK6=>Xa F rfl (Xd rfl (qNK hK6 ?_));clear hK6;clear F a;intro a F;refine wp_ret ?_;simp only [Exit.then];refine Et Y9 F rfl rfl ?_
  (refine ME H (hbad fun hC=>?_) (by decide)
   obtain ⟨q1,q2,q3,q4⟩:=hC
   have q5:=hkn.1 q1
   exact q5.2 h30)
 replace h30:=of_decide_eq_false h30;refine Xf F rfl (Xe rfl rfl QF (Xy rfl rfl (Xh rfl ?_)));clear F a;intro a F
 refine F.split 34 rfl ?_ ?_ <;> (clear F;intro h34 F)
 ·
  replace h34:=of_decide_eq_true h34;refine XB F (XC (Xy rfl rfl (qNK hK3 ?_)));clear hK3;clear F a;intro a F;refine MQ F rfl ?_;refine cSR fun K7 hK7=>Xa F rfl (Xd rfl (qNK hK7 ?_));clear hK7;clear F a;intro a F;refine wp_ret ?_;simp only [Exit.then];refine Et Y9 F rfl rfl ?_
  (refine ME H (hbad fun hC=>?_) (by decide)
   obtain ⟨q1,q2,q3,q4⟩:=hC
   have q5:=hkn.1 q1
   omega)
 replace h34:=of_decide_eq_false h34;refine Xf F rfl (Xe rfl rfl L3 (Xy rfl rfl (qNK hK3 ?_)));clear hK3;clear F a;intro a F
 refine cIf F rfl (fun h37=>?_) (fun h37=>?_)
 ·
  replace h37:=of_decide_eq_true h37;refine cSR fun K8 hK8=>Xa F rfl (Xd rfl (qNK hK8 ?_));clear hK8;clear F a;intro a F;refine wp_ret ?_;simp only [Exit.then];refine Et Y9 F rfl rfl ?_
  (refine ME H (hbad fun hC=>?_) (by decide)
   obtain ⟨q1,q2,q3,q4⟩:=hC
   have q5:=hkn.1 q1
   omega)
 replace h37:=of_decide_eq_false h37;refine wp_skip (hK2 _ _ (cSR fun K9 hK9=>?_));clear hK2
 refine Xw XM rfl ?si F rfl (H.whole 0 rfl) ?_
 case si=>exact Jz Ya
 clear F a;intro a F;refine Xu call20 F rfl (XbC _ p _ (hP.own H) hd) (gG H ?_);clear F a H;intro a w F H;refine Xf F rfl (NU rfl rfl rfl rfl (NU rfl rfl rfl rfl ?_));clear F a;intro a F;refine Mo H N3 F rfl rfl ?_;clear F a H;intro b8 a w F H;refine Xt H 0 XL F rfl rfl rfl ?_;clear H;intro w H;rw [JE] at H;refine Xa F rfl (qNK hK9 (qSR fun K10 hK10=>Nu XG rfl XL rfl rfl rfl (H.whole 0 rfl) (qBd (cs:=(RowQ.mk (EE p) [] none 0).cells) (places:=[(0,142),(142,1)]) Zb Yv (by kernel_rfl) rfl rfl rfl (Xgx (by kernel_rfl) _) ?_)));clear hK9;clear F a;intro a F;refine Cf H Yn YD Zb rfl F rfl rfl rfl rfl rfl ?_;clear F a H;intro b45 a w F H;refine Xa F rfl (qNK hK10 ?_);clear hK10;clear F a;intro a F;refine JD (fun K11 hK11=>?_);refine cSR fun K12 hK12=>Xa F rfl (qNK hK12 ?_);clear hK12;clear F a;intro a F;refine wp_block ?_
 have hv:JH p=0:=by exact h22
 have hk:QS mc=true:=hkn.2 ⟨by exact h26,by exact h30⟩
 have hC:MW p mc n:=⟨hk,by omega,by omega,hv⟩
 obtain ⟨mst,rfl⟩:∃ k:Nat,n=k:=⟨n.toNat,by omega⟩
 have hS:J7 p mc (mst:Int)=QX p mc mst:=if_pos hC
 have hE:J8 p mc (mst:Int)=if (QX p mc mst).isSome=true then 0 else 5:=if_pos hC
 have eS:EE p=Qr p:=if_pos hv
 rw [eS] at H
 replace H:=(H.blkRws 0 (n:=1) (sz:=143) [(RowQ.mk (Qr p) [] none 0).cells] rfl (by simp [Value.cells]) rfl (by simp [Value.cells,Xay]) (by decide)).memNil
 refine JN [1,2,3] (fun m ups w=>∃ (k:Nat) (fd:Fnd) (A:Option Addr) (c:Nat) (rows:List RowQ) (S:Nat→Prop) (K:List Sl),m=mst+1 - k∧ups=[(10,.slice A rows.length c),(11,.int .i64 ((k:Nat):Int))]∧FndI p mc mst k fd∧QX p mc mst=Qa p mc mst (mst+1 - k) k fd∧RowsQ rows fd.list fd.links K∧Own w0 none w [.rws 62 143 (.slice A rows.length c) (rows.map RowQ.cells),.mem S K,.blk b3 [d1,d2,d3,d4,d5,d6,d7,d8,d9,d10] 29]) F (mst+1) [(10,.slice (some ⟨b45,0,none⟩) 1 1),(11,.int .i64 ((0:Nat):Int))] ?_ ?_
 · exact ⟨0,EW p,some ⟨b45,0,none⟩,1,[RowQ.mk (Qr p) [] none 0],_,[],rfl,rfl,BM hv hk (by omega),rfl,⟨rfl,fun j r h=>by (match j,h with | 0,h=>cases h;rfl | j+1,h=>simp at h),fun r h=>by rw [List.mem_singleton.1 h];exact .inr rfl⟩,H.sel [0+1,0,2+1] rfl rfl⟩
 clear F
 clear H
 intro m ups a w hI F
 obtain ⟨k,fd,A,c,rows,S,K,rfl,rfl,hI1,hreach,hrw,H⟩:=hI
 have hmany:=hI1.many
 have hkle:=hI1.kle
 have hrl:=hrw.len
 refine JD (fun K13 hK13=>?_);refine cSR fun K14 hK14=>Xf F rfl (Xh rfl (Xx Yn rfl (Xe rfl rfl QF (qNK hK14 ?_))));clear hK14;clear F a;intro a F
 refine cIf F rfl (fun h49=>?_) (fun h49=>?_)
 ·
  replace h49:=of_decide_eq_true h49
  have hkl:k < fd.list.length:=by omega
  obtain ⟨s,hs⟩:∃ s,fd.list[k]? = some s:=⟨_,List.getElem?_eq_getElem hkl⟩
  have hF:=hI1.fine s (List.mem_of_getElem? hs)
  obtain ⟨r,hr,hrs⟩:=hrw.at hs
  subst hrs
  obtain ⟨bS,oS,rfl,_⟩:=H.rowsAt 0 rfl (NN _) (by decide) k r.cells (by rw [List.getElem?_map,hr];rfl)
  have eM:Qj p mc r.s=JG p mc r.s:=ER hF.r
  refine wp_skip (hK13 _ _ ?_);clear hK13;refine JD (fun K15 hK15=>?_);refine wp_block ?_;refine JD (fun K16 hK16=>?_);refine Xi H ?_;replace H:=H.drew
  refine Xk (k:=0) (i:=0) rfl F rfl rfl (fun w H=>rLr XM rfl ?si F rfl (H.whole 2 rfl)) H (fun _ _ _ h=>h) ?_
  case si=>exact Jz Ya
  clear F a;intro a F;refine Xj 1 rfl F rfl (fun w=>rMv F rfl) H qq0 (Xm 2 rfl rfl (fun a F w=>rMv F rfl) H qq0 (Xm 3 rfl rfl (fun a F w=>rMv F rfl) H qq0 ?_));clear F a;intro a F
  refine Xq (k:=4) (i:=4) rfl F rfl (fun w=>rIx Yn YD F rfl rfl ?_) H (fun _ _ _ h=>h) ?_
  focus omega
  clear F a;intro a F;refine Xj 5 rfl F rfl (fun w=>Xct (f:=0) Yv rfl XL rfl rfl F rfl) H qq0 ?_;clear F a;intro a F
  refine Xk (k:=6) (i:=6) rfl F rfl rfl (fun w H=>Nt XG rfl XL F rfl (by obtain ⟨b',o',g1,g2⟩:=H.rowsAt 0 rfl (NN _) (by decide) k r.cells (by rw [List.getElem?_map,hr];rfl);cases g1;exact NJ g2)) H (fun _ _ _ h=>h) ?_;clear F a;intro a F
  refine Xn (k:=7) (i:=7) rfl F (J3 call21 F rfl rfl ((by have:=Lw _ p _ (hP.own H) hd mc r.s;rw [eM] at this;exact this)) ?_);rintro e w ⟨AM,cM,rfl,H2⟩;replace H:=H.join H2;clear H2;refine ⟨_,rfl,?_⟩;clear F a;intro a F;refine Xo H ?_;refine Xj 8 rfl F rfl (fun w=>rAs F rfl) H qq0 ?_;clear F a;intro a F;refine Xp (k:=9) ?_;refine hK16 _ _ (cSR fun K17 hK17=>Xa F rfl (qNK hK17 ?_));clear hK16 hK17;clear F a;intro a F;refine wp_block ?_
  refine JN [1,2,3,11,12] (fun m ups w=>∃ (i:Nat) (l:List By) (q:List (Int × Pss)) (A5:Option Addr) (c5:Nat) (rows5:List RowQ) (S5:Nat→Prop) (K5:List Sl),m=(JG p mc r.s).length - i∧ups=[(10,.slice A5 rows5.length c5),(13,.int .i64 ((i:Nat):Int))]∧i≤(JG p mc r.s).length∧VisI p mc mst k r.s fd.list ((JG p mc r.s).take i) l q∧Qd p mc mst k r.s (JG p mc r.s) fd.list fd.links=Qd p mc mst k r.s ((JG p mc r.s).drop i) l q∧RowsQ rows5 l q K5∧Own w0 none w [.rws 73 3 (.slice AM (JG p mc r.s).length cM) ((JG p mc r.s).map Pss.cells),.rws 62 143 (.slice A5 rows5.length c5) (rows5.map RowQ.cells),.mem S5 K5,.blk b3 [d1,d2,d3,d4,d5,d6,d7,d8,d9,d10] 29]) F ((JG p mc r.s).length) [(10,.slice (some ⟨bS,oS,none⟩) rows.length c),(13,.int .i64 ((0:Nat):Int))] ?_ ?_
  · exact ⟨0,fd.list,fd.links,_,_,rows,S,K,rfl,rfl,by omega,Bk hI1 hs,rfl,hrw,H.sel [0,1,2,3] rfl rfl⟩
  clear F
  clear H
  intro m ups a w hI F
  obtain ⟨i,l,q,A5,c5,rows5,S5,K5,rfl,rfl,hi,hV,hvis,hrw5,H⟩:=hI
  have hml:=(H.rwsLen 0 rfl).2
  simp only [maxLen] at hml
  have hlm:=hV.many
  have hll:=hV.len
  have hrl5:=hrw5.len
  refine JD (fun K18 hK18=>?_);refine cSR fun K19 hK19=>Xf F rfl (Xh rfl (Xx XX rfl (Xe rfl rfl QF (qNK hK19 ?_))));clear hK19;clear F a;intro a F
  refine cIf F rfl (fun h63=>?_) (fun h63=>?_)
  ·
   replace h63:=of_decide_eq_true h63
   have hil:i < (JG p mc r.s).length:=by omega
   obtain ⟨x,hx⟩:∃ x,(JG p mc r.s)[i]? = some x:=⟨_,List.getElem?_eq_getElem hil⟩
   have hxm:x ∈ JG p mc r.s:=List.mem_of_getElem? hx
   have hdr:(JG p mc r.s).drop i=x :: (JG p mc r.s).drop (i+1):=by
    obtain ⟨hj,rfl⟩:=List.getElem?_eq_some_iff.1 hx
    exact List.drop_eq_getElem_cons hj
   have htk:(JG p mc r.s).take (i+1)=(JG p mc r.s).take i++[x]:=by rw [List.take_add_one,hx];rfl
   rw [hdr] at hvis
   obtain ⟨r5,hr5,hrs5⟩:=hrw5.at hV.here
   obtain ⟨bM,oM,rfl,_⟩:=H.rowsAt 0 rfl (Xax _) (by decide) _ _ (by rw [List.getElem?_map,hx];rfl)
   obtain ⟨bS2,oS2,rfl,_⟩:=H.rowsAt 1 rfl (NN _) (by decide) k r5.cells (by rw [List.getElem?_map,hr5];rfl)
   have hkl2:k < rows5.length:=(List.getElem?_eq_some_iff.1 hr5).1
   have hin:x ∈ Qj p mc r5.s:=by rw [hrs5,eM];exact hxm
   have hst:Ll p mc r5.s x=J5 p mc r.s x:=by rw [Ll,if_pos hin,hrs5]
   refine wp_skip (hK18 _ _ ?_);clear hK18;refine JD (fun K20 hK20=>?_);refine wp_block ?_;refine JD (fun K21 hK21=>?_);refine Xi H ?_;replace H:=H.drew
   refine Xk (k:=0) (i:=0) rfl F rfl rfl (fun w H=>rLr XM rfl ?si F rfl (H.whole 3 rfl)) H (fun _ _ _ h=>h) ?_
   case si=>exact Jz Ya
   clear F a;intro a F;refine Xj 1 rfl F rfl (fun w=>rMv F rfl) H qq0 (Xm 2 rfl rfl (fun a F w=>rMv F rfl) H qq0 (Xm 3 rfl rfl (fun a F w=>rMv F rfl) H qq0 ?_));clear F a;intro a F
   refine Xq (k:=4) (i:=4) rfl F rfl (fun w=>rIx Yn YD F rfl rfl ?_) H (fun _ _ _ h=>h) ?_
   focus exact hkl2
   clear F a;intro a F;refine Xj 5 rfl F rfl (fun w=>Xct (f:=0) Yv rfl XL rfl rfl F rfl) H qq0 ?_;clear F a;intro a F
   refine Xk (k:=6) (i:=6) rfl F rfl rfl (fun w H=>Nt XG rfl XL F rfl (by obtain ⟨b',o',g1,g2⟩:=H.rowsAt 1 rfl (NN _) (by decide) k r5.cells (by rw [List.getElem?_map,hr5];rfl);cases g1;exact NJ g2)) H (fun _ _ _ h=>h) ?_;clear F a;intro a F
   refine Xj 7 rfl F rfl (fun w=>rMv F rfl) H qq0 (Xm 8 rfl rfl (fun a F w=>rMv F rfl) H qq0 ?_);clear F a;intro a F
   refine Xq (k:=9) (i:=9) rfl F rfl (fun w=>rIx XX Yd F rfl rfl ?_) H (fun _ _ _ h=>h) ?_
   focus exact hil
   clear F a;intro a F
   refine Xk (k:=10) (i:=10) rfl F rfl rfl (fun w H=>rLr X6 rfl ?si F rfl (by obtain ⟨b',o',g1,g2⟩:=H.rowsAt 0 rfl (Xax _) (by decide) _ _ (by rw [List.getElem?_map,hx];rfl);cases g1;exact g2)) H (fun _ _ _ h=>h) ?_
   case si=>exact Jz Yd
   clear F a;intro a F
   refine XaZ F H [1,2,3,10,11,12,13] 16 [true,true,true,true,true,true,true,true,true,true,true,true,true,true,true,true,false,false] (fun rs ups w=>∃ b14,ups=[(79,.agg (bs 142 (Ll p mc r5.s x)).toArray),(80,.int .i64 (BH p mc r5.s x)),(14,.pointer (some ⟨b14,0,none⟩))]∧Own w0 none w ((.blk b14 (bs 142 zb) 60) :: rs)) (by repeat (first | exact SubR.nil | (apply SubR.cons;· rfl))) ?_ (fun hJ=>?_)
   rotate_left
   ·
    refine Xdl (k:=11) (i:=11) (j:=15) (by kernel_rfl) F rfl rfl rfl rfl ?_ ?_
    ·
     refine J3 call22 F rfl rfl (Bz _ p _ (hP.own H) hd mc r5.s x) (gG H ?_);clear F a H;intro a w F H;refine JR H ?_;refine Xj 12 rfl F rfl (fun w=>rMv F rfl) H qq0 (Xm 13 rfl rfl (fun a F w=>Mi F rfl rfl) H qq0 (Xm 14 rfl rfl (fun a F w=>Mi F rfl rfl) H qq0 ?_));clear F a;intro a F;refine Xn (k:=15) (i:=15) rfl F (Cj H N3 F rfl ?_);clear F a H;intro b14 a w F H;refine JR H.tail ?_
     exact eGo hJ (by kernel_rfl) _ ⟨b14,rfl,H.sel [0,1,2,3,4] rfl rfl⟩ F.tt
    refine Cj H N3 F rfl ?_;clear F a H;intro b14 a w F H;refine JR H.tail ?_;refine Xn (k:=12) (i:=11) rfl F (J3 call22 F rfl rfl (Bz _ p _ (hP.own H) hd mc r5.s x) (gG H ?_));clear F a H;intro a w F H;refine JR H.tail ?_;refine Xj 12 rfl F rfl (fun w=>rMv F rfl) H.tail qq0 (Xm 13 rfl rfl (fun a F w=>Mi F rfl rfl) H.tail qq0 (Xm 14 rfl rfl (fun a F w=>Mi F rfl rfl) H.tail qq0 ?_));clear F a;intro a F
    exact eGo hJ (by kernel_rfl) _ ⟨b14,rfl,H.sel [0,1,2,3,4] rfl rfl⟩ F.tt
   clear F H;intro ups a w hI F
   obtain ⟨b14,rfl,H⟩:=hI
   refine Xn (k:=16) (i:=16) rfl F (DV H 0 XL F rfl rfl rfl (by omega) ?_);clear H;intro w H;rw [JE] at H;refine Xo H ?_;refine Xj 17 rfl F rfl (fun w=>rAs F rfl) H qq0 ?_;clear F a;intro a F;refine Xp (k:=18) ?_;rw [hst] at H;refine hK21 _ _ (cSR fun K22 hK22=>Xa F rfl (qNK hK22 ?_));clear hK21 hK22;clear F a;intro a F;refine JD (fun K23 hK23=>?_);refine cSR fun K24 hK24=>Xa F rfl (qNK hK24 ?_);clear hK24;clear F a;intro a F;refine wp_block ?_
   refine JN [1,2,3,10,11,12,13,14] (fun m ups w=>∃ (j:Nat) (b:Bool),m=rows5.length - j∧ups=[(16,.bool b),(17,.int .i64 ((j:Nat):Int))]∧j≤rows5.length∧b=Xbi (l.take j) (J5 p mc r.s x)∧Own w0 none w [.blk b14 (bs 142 (J5 p mc r.s x)) 60,.rws 73 3 (.slice (some ⟨bM,oM,none⟩) (JG p mc r.s).length cM) ((JG p mc r.s).map Pss.cells),.rws 62 143 (.slice (some ⟨bS2,oS2,none⟩) rows5.length c5) (rows5.map RowQ.cells),.mem S5 K5,.blk b3 [d1,d2,d3,d4,d5,d6,d7,d8,d9,d10] 29]) F (rows5.length) [(16,.bool false),(17,.int .i64 ((0:Nat):Int))] ?_ ?_
   · exact ⟨0,false,rfl,rfl,by omega,rfl,H.sel [0,1,2,3,4] rfl rfl⟩
   clear F
   clear H
   intro m ups a w hI F
   obtain ⟨j,b,rfl,rfl,hj,hb,H⟩:=hI
   refine JD (fun K25 hK25=>?_);refine cSR fun K26 hK26=>Xf F rfl (Xh rfl (Xx Yn rfl (Xe rfl rfl QF (qNK hK26 ?_))));clear hK26;clear F a;intro a F
   refine cIf F rfl (fun h84=>?_) (fun h84=>?_)
   ·
    replace h84:=of_decide_eq_true h84
    have hjl:j < rows5.length:=by omega
    obtain ⟨y,hy⟩:∃ y,l[j]? = some y:=⟨_,List.getElem?_eq_getElem (by omega)⟩
    obtain ⟨ry,hry,hrys⟩:=hrw5.at hy
    subst hrys
    have hsn:=Xgi (z:=J5 p mc r.s x) hy
    refine wp_skip (hK25 _ _ ?_);clear hK25;refine JD (fun K27 hK27=>?_);refine wp_block ?_;refine JD (fun K28 hK28=>?_);refine Xi H ?_;replace H:=H.drew;refine Xj 0 rfl F rfl (fun w=>rMv F rfl) H qq0 (Xm 1 rfl rfl (fun a F w=>rMv F rfl) H qq0 ?_);clear F a;intro a F
    refine Xq (k:=2) (i:=2) rfl F rfl (fun w=>rIx Yn YD F rfl rfl ?_) H (fun _ _ _ h=>h) ?_
    focus exact hjl
    clear F a;intro a F;refine Xj 3 rfl F rfl (fun w=>Xct (f:=0) Yv rfl XL rfl rfl F rfl) H qq0 ?_;clear F a;intro a F
    refine Xk (k:=4) (i:=4) rfl F rfl rfl (fun w H=>Nt XG rfl XL F rfl (by obtain ⟨b',o',g1,g2⟩:=H.rowsAt 2 rfl (NN _) (by decide) j ry.cells (by rw [List.getElem?_map,hry];rfl);cases g1;exact NJ g2)) H (fun _ _ _ h=>h) ?_;clear F a;intro a F
    refine Xv 5 rfl F rfl rfl (fun w H=>Nt XG rfl XL F rfl (H.whole 0 rfl)) H qq0 (Xm 6 rfl rfl (fun a F w=>Q0 F rfl rfl (XjT eT60 gT60 rfl)) H qq0 ?_);clear F a;intro a F;refine Xp (k:=7) ?_;refine hK28 _ _ ?_;clear hK28
    refine cIf F rfl (fun h93=>?_) (fun h93=>?_)
    ·
     refine JY (Xa F rfl (qNK hK27 (Ef (Xh rfl ?_))));clear hK27;clear F a;intro a F
     refine Xg F rfl rfl (JJ (j:=1) ?_) ?_
     focus omega
     clear F a;intro a F;refine Xa F rfl ?_;clear F a;intro a F;refine J4 ?_
     (have he:same 142 ry.s (J5 p mc r.s x)=true:=h93
      exact ⟨_,by omega,_,⟨j+1,true,rfl,rfl,hjl,by rw [hsn,he,Bool.or_true],H⟩,F.tt⟩)
    refine wp_skip (hK27 _ _ (JY (Xf F rfl ?_)));clear hK27;clear F a;intro a F
    refine Xg F rfl rfl (JJ (j:=1) ?_) ?_
    focus omega
    clear F a;intro a F;refine Xa F rfl ?_;clear F a;intro a F;refine J4 ?_
    (have he:same 142 ry.s (J5 p mc r.s x)=false:=h93
     exact ⟨_,by omega,_,⟨j+1,b,rfl,rfl,hjl,by rw [hsn,he,Bool.or_false,hb],H⟩,F.tt⟩)
   replace h84:=of_decide_eq_false h84
   obtain rfl:j=rows5.length:=by omega
   rw [hrl5,List.take_length] at hb
   have hwl:=Xa8 q k k
   have hw5:=hrw5.way k r5 hr5
   rw [← hw5] at hwl;refine wp_exit ?_;refine hK23 _ _ ?_;clear hK23;refine JD (fun K29 hK29=>?_);refine cSR fun K30 hK30=>Xf F rfl (Cc rfl rfl rfl (qNK hK30 ?_));clear hK30;clear F a;intro a F
   refine cIf F rfl (fun h95=>?_) (fun h95=>?_)
   ·
    replace h95:=N1 h95
    have hin2:Xbi l (J5 p mc r.s x)=false:=by rw [← hb];exact h95
    refine JD (fun K31 hK31=>?_);refine Xi H ?_;replace H:=H.drew;refine Xj 1 rfl F rfl (fun w=>rMv F rfl) H qq0 (Xm 2 rfl rfl (fun a F w=>rMv F rfl) H qq0 ?_);clear F a;intro a F
    refine Xq (k:=2) (i:=3) rfl F rfl (fun w=>rIx Yn YD F rfl rfl ?_) H (fun _ _ _ h=>h) ?_
    focus exact hkl2
    clear F a;intro a F;refine Xj 4 rfl F rfl (fun w=>rFa (f:=1) (k:=_+142) Yv rfl sizeOf48 rfl rfl F rfl) H qq0 ?_;clear F a;intro a F
    refine Xk (k:=4) (i:=5) rfl F rfl rfl (fun w H=>rLd isAgg48 F rfl (by obtain ⟨b',o',g1,g2⟩:=H.rowsAt 2 rfl (NN _) (by decide) k r5.cells (by rw [List.getElem?_map,hr5];rfl);cases g1;exact XbA g2)) H (fun _ _ _ h=>h) ?_;clear F a;intro a F
    refine Xj 7 rfl F rfl (fun w=>rMv F rfl) H qq0 (Xm 8 rfl rfl (fun a F w=>rMv F rfl) H qq0 ?_);clear F a;intro a F
    refine Xq (k:=7) (i:=9) rfl F rfl (fun w=>rIx XX Yd F rfl rfl ?_) H (fun _ _ _ h=>h) ?_
    focus exact hil
    clear F a;intro a F
    refine Xk (k:=8) (i:=10) rfl F rfl rfl (fun w H=>rLr X6 rfl ?si F rfl (by obtain ⟨b',o',g1,g2⟩:=H.rowsAt 1 rfl (Xax _) (by decide) _ _ (by rw [List.getElem?_map,hx];rfl);cases g1;exact g2)) H (fun _ _ _ h=>h) ?_
    case si=>exact Jz Yd
    clear F a;intro a F
    refine XaZ F H [1,2,3,10,11,12,13,14] 12 [true,true,true,true,true,true,true,true,true,true,true,true,false,false] (fun rs ups w=>∃ A102 c102 b107,ups=[(102,.slice A102 (([]:List (List Value))++r5.w.map Pss.cells).length c102),(107,.slice (some ⟨b107,0,none⟩) 1 1)]∧Own w0 none w ((.rws 73 3 (.slice A102 (([]:List (List Value))++r5.w.map Pss.cells).length c102) (([]:List (List Value))++r5.w.map Pss.cells)) :: (.blk b107 x.cells 73) :: rs)) (by repeat (first | exact SubR.nil | (apply SubR.cons;· rfl))) ?_ (fun hJ=>?_)
    rotate_left
    ·
     refine Xdl (k:=9) (i:=0) (j:=11) (by kernel_rfl) F rfl rfl rfl rfl ?_ ?_
     ·
      refine oBs (cs:=[]) H XX Yd Ym rfl F rfl rfl rfl rfl ?_;clear F a H;intro b96 a w F H
      replace H:=H.emptyRws 3
      refine JR H.tail ?_
      refine Xdl (k:=10) (i:=6) (j:=11) (by kernel_rfl) F rfl rfl rfl rfl ?_ ?_
      ·
       refine XhD (bytes:=3) (sz:=3) H 0 XX YJ rfl rfl rfl rfl rfl rfl F rfl rfl rfl rfl ?hm ((show RowsAt _ r5.A 3 (r5.w.map Pss.cells) from (H.memAt 4 rfl).at (hrw5.mem r5 (List.mem_of_getElem? hr5)))) ((Xax _)) ((fun r hr=>by obtain ⟨x,_,rfl⟩:=List.mem_map.1 hr;rfl)) ?hb ?_
       case hm=>(simp;done)
       case hb=>exact ((by (simp only [List.length_nil,List.length_map];omega)))
       clear F a H;intro A102 c102 a w F H;refine JR H.tail ?_;refine Xn (k:=11) (i:=11) rfl F (Xkf H XX Yd Ym rfl F rfl rfl rfl rfl ?_);clear F a H;intro b107 a w F H;refine JR H.tail.tail ?_
       exact eGo hJ (by kernel_rfl) _ ⟨A102,c102,b107,rfl,H.sel [1,0,2,3,4,5,6] rfl rfl⟩ F.tt
      refine Xkf H XX Yd Ym rfl F rfl rfl rfl rfl ?_;clear F a H;intro b107 a w F H;refine JR H.tail.tail ?_;refine Xn (k:=11) (i:=6) rfl F (XhD (bytes:=3) (sz:=3) H 1 XX YJ rfl rfl rfl rfl rfl rfl F rfl rfl rfl rfl ?hm ((show RowsAt _ r5.A 3 (r5.w.map Pss.cells) from (H.memAt 5 rfl).at (hrw5.mem r5 (List.mem_of_getElem? hr5)))) ((Xax _)) ((fun r hr=>by obtain ⟨x,_,rfl⟩:=List.mem_map.1 hr;rfl)) ?hb ?_)
      case hm=>(simp;done)
      case hb=>exact ((by (simp only [List.length_nil,List.length_map];omega)))
      clear F a H;intro A102 c102 a w F H;refine JR H.tail.tail ?_
      exact eGo hJ (by kernel_rfl) _ ⟨A102,c102,b107,rfl,H.sel [1,0,2,3,4,5,6] rfl rfl⟩ F.tt
     refine Xkf H XX Yd Ym rfl F rfl rfl rfl rfl ?_;clear F a H;intro b107 a w F H;refine JR H.tail ?_;refine Xn (k:=10) (i:=0) rfl F (oBs (cs:=[]) H XX Yd Ym rfl F rfl rfl rfl rfl ?_);clear F a H;intro b96 a w F H
     replace H:=H.emptyRws 3
     refine JR H.tail.tail ?_;refine Xn (k:=11) (i:=6) rfl F (XhD (bytes:=3) (sz:=3) H 0 XX YJ rfl rfl rfl rfl rfl rfl F rfl rfl rfl rfl ?hm ((show RowsAt _ r5.A 3 (r5.w.map Pss.cells) from (H.memAt 5 rfl).at (hrw5.mem r5 (List.mem_of_getElem? hr5)))) ((Xax _)) ((fun r hr=>by obtain ⟨x,_,rfl⟩:=List.mem_map.1 hr;rfl)) ?hb ?_)
     case hm=>(simp;done)
     case hb=>exact ((by (simp only [List.length_nil,List.length_map];omega)))
     clear F a H;intro A102 c102 a w F H;refine JR H.tail.tail ?_
     exact eGo hJ (by kernel_rfl) _ ⟨A102,c102,b107,rfl,H.sel [0,1,2,3,4,5,6] rfl rfl⟩ F.tt
    clear F H;intro ups a w hI F
    obtain ⟨A102,c102,b107,rfl,H⟩:=hI
    refine Xn (k:=12) (i:=12) rfl F (Xkg (bytes:=3) H 0 XX YJ rfl rfl rfl rfl rfl rfl F rfl rfl rfl rfl (H.whole 1 rfl) rfl ?s1 ?s2 ?_)
    case s1=>rfl
    case s2=>(simp only [List.length_append,List.length_nil,List.length_map];omega)
    clear F a H;intro A108 c108 a w F H;refine Xo H ?_;refine Xj 13 rfl F rfl (fun w=>rAs F rfl) H qq0 ?_;clear F a;intro a F;refine Xp (k:=14) ?_
    have e9:([]++r5.w.map Pss.cells)++[x.cells]=(r5.w++[x]).map Pss.cells:=by rw [List.nil_append,List.map_append];rfl
    rw [e9,List.length_map] at H F;refine hK31 _ _ (JY (Xf F rfl (Nu XG rfl XL rfl rfl rfl (H.whole 2 rfl) (Xh rfl (qBd (cs:=(RowQ.mk (J5 p mc r.s x) (r5.w++[x]) A108 c108).cells) (places:=[(0,142),(142,1)]) Zb Yv (by kernel_rfl) rfl rfl rfl (Xgw (by kernel_rfl) _ _ _ _) ?_)))));clear hK31;clear F a;intro a F;refine Cf H Yn YD Zb rfl F rfl rfl rfl rfl rfl ?_;clear F a H;intro b113 a w F H
    refine Mq (bytes:=168) H 5 Yn typeInfo62 rfl rfl rfl rfl rfl rfl F rfl rfl rfl rfl rfl (H.whole 0 rfl) rfl ?s1 ?s2 ?_
    case s1=>rfl
    case s2=>(rw [List.length_map];omega)
    clear F a H;intro A114 c114 a w F H;refine Xa F rfl ?_;clear F a;intro a F;refine J4 ?_
    have e8:rows5.map RowQ.cells++[(RowQ.mk (J5 p mc r.s x) (r5.w++[x]) A108 c108).cells]=(rows5++[RowQ.mk (J5 p mc r.s x) (r5.w++[x]) A108 c108]).map RowQ.cells:=by rw [List.map_append];rfl
    rw [e8,List.length_map] at H F
    have hsn:=hrw5.snoc hV.linkQ hll (x:=x) (z:=J5 p mc r.s x) (A:=A108) (c:=c108) hr5
    have hl9:(rows5++[RowQ.mk (J5 p mc r.s x) (r5.w++[x]) A108 c108]).length=l.length+1:=by rw [List.length_append,List.length_singleton];omega
    refine hK29 _ _ (cSR fun K32 hK32=>Xf F rfl (Xx Yn rfl (Xh rfl (Xe rfl rfl L3 (qNK hK32 ?_)))));clear hK29 hK32;clear F a;intro a F
    refine cIf F rfl (fun h118=>?_) (fun h118=>?_)
    ·
     replace h118:=of_decide_eq_true h118
     have hno:QX p mc mst=none:=by
      rw [hreach,show mst+1 - k=(mst - k)+1 by omega]
      exact Xbv hs (hvis.trans (Bi hin2 (by omega)))
     refine cSR fun K33 hK33=>Xa F rfl (Xd rfl (qNK hK33 ?_));clear hK33;clear F a;intro a F;refine wp_ret ?_;refine xI ?_;refine Et Y9 F rfl rfl ?_
     exact ME H (by rw [hE,hno];rfl) (by decide)
    replace h118:=of_decide_eq_false h118;refine wp_skip (hK20 _ _ (JY (Xf F rfl ?_)));clear hK20;clear F a;intro a F
    refine Xg F rfl rfl (JJ (j:=1) ?_) ?_
    focus omega
    clear F a;intro a F;refine Xa F rfl ?_;clear F a;intro a F;refine J4 ?_
    exact ⟨_,by omega,_,⟨i+1,l++[J5 p mc r.s x],q++[((k:Int),x)],A114,c114,_,_,_,rfl,rfl,by omega,htk ▸ Xfc hV hxm hin2 (by omega),hvis.trans (Cq hin2 (by omega)),hsn,((((H.sel [1,6,4,5,7] rfl rfl).toMem (Xax _) (by decide)).memFuse).sel [1,2,0,3] rfl rfl)⟩,F.tt⟩
   replace h95:=N2 h95
   have hin2:Xbi l (J5 p mc r.s x)=true:=by rw [← hb];exact h95
   refine wp_skip (hK29 _ _ (cSR fun K34 hK34=>Xf F rfl (Xx Yn rfl (Xh rfl (Xe rfl rfl L3 (qNK hK34 ?_))))));clear hK29 hK34;clear F a;intro a F
   refine cIf F rfl (fun h118=>?_) (fun h118=>?_)
   ·
    replace h118:=of_decide_eq_true h118
    omega
   replace h118:=of_decide_eq_false h118;refine wp_skip (hK20 _ _ (JY (Xf F rfl ?_)));clear hK20;clear F a;intro a F
   refine Xg F rfl rfl (JJ (j:=1) ?_) ?_
   focus omega
   clear F a;intro a F;refine Xa F rfl ?_;clear F a;intro a F;refine J4 ?_
   exact ⟨_,by omega,_,⟨i+1,l,q,_,_,rows5,S5,K5,rfl,rfl,by omega,htk ▸ Xir hV hxm hin2,hvis.trans (Xbm hin2),hrw5,H.sel [1,2,3,4] rfl rfl⟩,F.tt⟩
  replace h63:=of_decide_eq_false h63
  obtain rfl:i=(JG p mc r.s).length:=by omega
  rw [List.drop_length] at hvis
  have hvis:Qd p mc mst k r.s (JG p mc r.s) fd.list fd.links=some (l,q):=hvis
  refine wp_exit ?_;refine hK15 _ _ (JY (Xf F rfl ?_));clear hK15;clear F a;intro a F
  refine Xg F rfl rfl (JJ (j:=1) ?_) ?_
  focus omega
  clear F a;intro a F;refine Xa F rfl ?_;clear F a;intro a F;refine J4 ?_
  exact ⟨_,by omega,_,⟨k+1,⟨l,q,_⟩,A5,c5,rows5,S5,K5,rfl,rfl,Ea hI1 hs hvis,hreach.trans (by rw [show mst+1 - k=(mst+1 - (k+1))+1 by omega];exact Xbw hs hvis),hrw5,H.sel [1,2,3] rfl rfl⟩,F.tt⟩
 replace h49:=of_decide_eq_false h49
 have hsome:QX p mc mst=some fd:=by rw [hreach,CI (by omega)]
 refine wp_exit ?_;refine hK11 _ _ (cSR fun K35 hK35=>Xf F rfl (Xd rfl (Xd rfl (qNK hK35 ?_))));clear hK11 hK35;clear F a;intro a F;refine wp_ret ?_;refine Et Y9 F rfl rfl ?_
 (have h0:J8 p mc (mst:Int)=0:=by rw [hE,hsome];rfl
  have h1:fo (J7 p mc (mst:Int))=fd:=by rw [hS,hsome];rfl
  unfold Xbe
  rw [h0,h1]
  exact ⟨A,c,rows,S,K,rfl,hrw,H.sel [0,1] rfl rfl⟩)
-- RsI
open Go.RowKit
set_option maxRecDepth 100000
theorem Mh {rows:List RowQ} {fd:Fnd} {K:List Sl} (h:RowsQ rows fd.list fd.links K) {p:Prg} {m:UInt8} {most:Nat} (hI:FndI p m most fd.list.length fd) {j:Nat} {r:RowQ} (hr:rows[j]? = some r):fd.list[j]? = some r.s∧Qj p m r.s=JG p m r.s∧r.w=E8 fd j:=by
 have h1:fd.list[j]? = some r.s:=by rw [← h.st,List.getElem?_map,hr];rfl
 exact ⟨h1,ER (hI.fine _ (List.mem_of_getElem? h1)).r,h.way j r hr⟩
theorem XaF {rows:List RowQ} {fd:Fnd} {K:List Sl} (h:RowsQ rows fd.list fd.links K) {p:Prg} {m:UInt8} {most:Nat} (hI:FndI p m most fd.list.length fd) {j:Nat} {r:RowQ} (hr:rows[j]? = some r):N7 p m r=true ↔ j ∈ fd.ends:=by
 obtain ⟨h1,h2,_⟩:=Mh h hI hr
 unfold N7
 rw [h2,La hI,List.isEmpty_iff]
 constructor
 · exact fun e=>⟨r.s,h1,e⟩
 · rintro ⟨s,hs,e⟩
   rw [h1] at hs;cases hs;exact e
def XcW (p:Prg) (m:UInt8) (l:List RowQ):Nat:=(l.filter (N7 p m)).length
theorem Xey (p:Prg) (m:UInt8) {l:List RowQ} {i:Nat} {r:RowQ} (h:l[i]? = some r):XcW p m (l.take (i+1))=XcW p m (l.take i)+if N7 p m r=true then 1 else 0:=by
 unfold XcW
 rw [List.take_add_one,h,List.filter_append,List.length_append]
 congr 1
 by_cases hh:N7 p m r=true
 · rw [if_pos hh];show ([r].filter _).length=_;rw [List.filter_cons_of_pos hh];rfl
 · rw [if_neg hh];show ([r].filter _).length=_;rw [List.filter_cons_of_neg hh];rfl
theorem DN {α:Type} (P:α→Bool) (Q:Nat→Bool):∀ (n:Nat) (l:List α),l.length=n→(∀ j x,l[j]? = some x→P x=Q j)→(l.filter P).length=((List.range l.length).filter Q).length
 | 0,l,e,_=>by rw [List.eq_nil_of_length_eq_zero e];rfl
 | n+1,l,e,h=>by
   rcases List.eq_nil_or_concat l with e2 | ⟨r,x,e2⟩
   · rw [e2] at e;cases e
   · rw [List.concat_eq_append] at e2
     subst e2
     have e3:r.length=n:=by rw [List.length_append,List.length_singleton] at e;omega
     have h1:P x=Q r.length:=h r.length x (by simp)
     rw [List.filter_append,List.length_append,DN P Q n r e3 (fun j y hj=>h j y (by rw [List.getElem?_append_left (List.getElem?_eq_some_iff.1 hj).1];exact hj)),List.length_append,List.length_singleton,List.range_succ,List.filter_append,List.length_append]
     congr 1
     cases hq:Q r.length
     · rw [List.filter_cons_of_neg (by rw [h1,hq];decide),List.filter_cons_of_neg (by rw [hq];decide)];rfl
     · rw [List.filter_cons_of_pos (by rw [h1,hq]),List.filter_cons_of_pos (by rw [hq])];rfl
theorem Xez {rows:List RowQ} {fd:Fnd} {K:List Sl} (h:RowsQ rows fd.list fd.links K) {p:Prg} {m:UInt8} {most:Nat} (hI:FndI p m most fd.list.length fd):XcW p m rows=fd.ends.length:=by
 unfold XcW
 rw [hI.ends,← h.len]
 refine DN _ _ _ rows rfl fun j r hr=>?_
 obtain ⟨h1,h2,_⟩:=Mh h hI hr
 unfold N7
 rw [h1,h2]
theorem XfO {rows:List RowQ} {fd:Fnd} {K:List Sl} (h:RowsQ rows fd.list fd.links K) {p:Prg} {m:UInt8} {most:Nat} (hI:FndI p m most fd.list.length fd) {x:List UInt8}:x ∈ tl (XiB p m rows) ↔ OutM p m x:=by
 rw [← XaU hI]
 unfold tl XiB Xda
 rw [List.map_map,List.mem_map,List.mem_map]
 constructor
 · rintro ⟨r,hr,rfl⟩
   obtain ⟨hr1,hr2⟩:=List.mem_filter.1 hr
   obtain ⟨j,hj⟩:=List.getElem?_of_mem hr1
   have h1:=(Mh h hI hj).1
   exact ⟨j,(XaF h hI hj).1 hr2,by rw [List.getD_eq_getElem?_getD,h1];rfl⟩
 · rintro ⟨j,hj,rfl⟩
   obtain ⟨s,hs,_⟩:=(La hI).1 hj
   obtain ⟨r,hr,e⟩:=h.at hs
   subst e
   exact ⟨r,List.mem_filter.2 ⟨List.mem_of_getElem? hr,(XaF h hI hr).2 hj⟩,by rw [List.getD_eq_getElem?_getD,hs];rfl⟩
theorem XhW {rows:List RowQ} {fd:Fnd} {K:List Sl} (h:RowsQ rows fd.list fd.links K) {p:Prg} {m:UInt8} {most:Nat} (hI:FndI p m most fd.list.length fd) (f:By):match D9 fd f with
   | none=>Xe4 p m f rows=none
   | some k=>∃ r,rows[k]? = some r∧Xe4 p m f rows=some r∧r.w=E8 fd k:=by
 have hval:∀ j r,rows[j]? = some r→(N7 p m r && same 38 (Qh r.s) f)=(decide (j ∈ fd.ends) && same 38 (Qh (fd.list.getD j zb)) f):=fun j r hr=>by
   have h1:=(Mh h hI hr).1
   have h2:=XaF h hI hr
   rw [List.getD_eq_getElem?_getD,h1,Option.getD_some,Bool.eq_iff_iff,Bool.and_eq_true,Bool.and_eq_true,h2,decide_eq_true_eq]
 cases hh:D9 fd f with
 | none=>
   refine XbY fun j r hj hr=>?_
   rw [hval j r hr]
   unfold D9 at hh
   by_cases he:j ∈ fd.ends
   · have:=List.find?_eq_none.1 hh j he
     rw [decide_eq_true he,Bool.true_and]
     exact Bool.eq_false_iff.2 this
   · rw [decide_eq_false he,Bool.false_and]
 | some k=>
   unfold D9 at hh
   obtain ⟨h1,i,hi,e,h2⟩:=List.find?_eq_some_iff_getElem.1 hh
   have hk:k ∈ fd.ends:=by rw [← e];exact List.getElem_mem _
   obtain ⟨s,hs,_⟩:=(La hI).1 hk
   obtain ⟨r,hr,_⟩:=h.at hs
   refine ⟨r,hr,Xgs hr (fun j r' hj hr'=>?_) (by rw [hval k r hr,decide_eq_true hk,h1];rfl),h.way k r hr⟩
   rw [hval j r' hr']
   by_cases he:j ∈ fd.ends
   · rw [decide_eq_true he,Bool.true_and]
     obtain ⟨i',hi',e'⟩:=List.mem_iff_getElem.1 he
     have hlt:i' < i:=by
       refine Nat.lt_of_not_le fun hle=>?_
       have hs:=Xdi hI
       rcases Nat.eq_or_lt_of_le hle with e2 | e2
       · subst e2
         rw [e] at e'
         omega
       · have:=List.pairwise_iff_getElem.1 hs i i' hi hi' e2
         omega
     have:=h2 i' hlt
     rw [e'] at this
     simpa using this
   · rw [decide_eq_false he,Bool.false_and]
theorem Xe9 {rows:List RowQ} {fd:Fnd} {K:List Sl} (h:RowsQ rows fd.list fd.links K) {p:Prg} {m:UInt8} {n:Int} (hfd:J7 p m n=some fd) (hE:J8 p m n=0) {most:Nat} (hI:FndI p m most fd.list.length fd) (f:By) :
   ∃ A c,wayV (Xe4 p m f rows) = .slice A (Xak p m f n).length c∧InL K (A,3,(Xak p m f n).map Pss.cells)∧((Xe4 p m f rows).isSome=true ↔ Xeh p m f n=0)∧(Xeh p m f n=0∨Xeh p m f n=6):=by
 have hq:=XhW h hI f
 unfold Xak Xeh
 rw [hfd,if_pos hE]
 show ∃ A c,_=Value.slice A (match D9 fd f with | none=>[] | some k=>E8 fd k).length c∧InL K (A,3,(match D9 fd f with | none=>[] | some k=>E8 fd k).map Pss.cells)∧(_ ↔ (match D9 fd f with | none=>(6:Int) | some _=>0)=0)∧((match D9 fd f with | none=>(6:Int) | some _=>0)=0∨(match D9 fd f with | none=>(6:Int) | some _=>0)=6)
 cases hh:D9 fd f with
 | none=>
   rw [hh] at hq
   replace hq:Xe4 p m f rows=none:=hq
   rw [hq]
   exact ⟨none,0,rfl,.inr rfl,⟨fun e=>Bool.noConfusion e,fun e=>absurd e (by decide)⟩,.inr rfl⟩
 | some k=>
   rw [hh] at hq
   obtain ⟨r,hr,e1,e2⟩:∃ r,rows[k]? = some r∧Xe4 p m f rows=some r∧r.w=E8 fd k:=hq
   rw [e1]
   refine ⟨r.A,r.c,?_,?_,⟨fun _=>rfl,fun _=>rfl⟩,.inl rfl⟩
   · show Value.slice r.A r.w.length r.c=_
     rw [e2]
   · have:=h.mem r (List.mem_of_getElem? hr)
     rw [e2] at this
     exact this
end Go.Proofs.YtcpehikcegoojaaGreatDoor
