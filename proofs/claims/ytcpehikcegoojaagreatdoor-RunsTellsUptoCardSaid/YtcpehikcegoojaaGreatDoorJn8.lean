/-
  WALK2. The reference of layer 14: bare, row, withRow, Seen, waits, sorted, drained. Conditions: the thread is one of four, its buffer holds at most 12 stores.
-/
import Derived.Test.YtcpehikcegoojaaGreatDoorJn4
import Derived.Test.YtcpehikcegoojaaGreatDoorJn7
set_option linter.unusedSimpArgs false
set_option linter.unusedVariables false
namespace Go.Proofs.YtcpehikcegoojaaGreatDoor
-- RsB
open Go.Proofs.Tryz
open Go.RowKit
set_option maxRecDepth 100000
def QN (l:List (UInt8 × UInt8)):List (List Value):=l.map fun x=>[YtcpehikcegoojaaGreatDoor.b8 x.1,YtcpehikcegoojaaGreatDoor.b8 x.2]
theorem Nc (l:List (UInt8 × UInt8)):(QN l).length=l.length:=List.length_map ..
theorem QA (l:List (UInt8 × UInt8)):∀ r ∈ QN l,r.length=2:=fun r hr=>by
 obtain ⟨x,_,rfl⟩:=List.mem_map.1 hr;rfl
theorem L8 (l:List (UInt8 × UInt8)) (x:UInt8 × UInt8):QN l++[[YtcpehikcegoojaaGreatDoor.b8 x.1,YtcpehikcegoojaaGreatDoor.b8 x.2]]=QN (l++[x]):=by unfold QN;rw [List.map_append];rfl
theorem Xbr {l:List (UInt8 × UInt8)} {k:Nat} {x:UInt8 × UInt8} (h:l[k]? = some x):(QN l)[k]? = some [YtcpehikcegoojaaGreatDoor.b8 x.1,YtcpehikcegoojaaGreatDoor.b8 x.2]:=by rw [QN,List.getElem?_map,h];rfl
def stB (x:UInt8 × UInt8):By:=fun i=>if i=0 then x.1 else x.2
theorem QL {l:List (UInt8 × UInt8)} {k:Nat} {x:UInt8 × UInt8} (h:l[k]? = some x):(QN l)[k]? = some (bs 2 (stB x)):=Xbr h
theorem Lu (l:List (UInt8 × UInt8)) (x:UInt8 × UInt8):QN l++[bs 2 (stB x)]=QN (l++[x]):=L8 l x
theorem Mj (s:By) (w0:World):Calls Tryz.prog 43 #[.agg (bs 142 s).toArray] w0 fun e w'=>e = .returned (.agg (bs 142 (Qf s)).toArray)∧Below w0.heap.size w0 w':=by
 have H:=Own.start w0 none
 refine JF func43 rfl ntmps43 rfl (fun a F=>?_);refine cSR fun K1 hK1=>?_;refine Mg H F rfl rfl rfl ?_;clear F a H;intro b1 a w F H;refine Mo H N3 F rfl rfl ?_;clear F a H;intro b2 a w F H;refine nK hK1 (cSR fun K2 hK2=>Xb (f:=0) (k:=0) XG rfl Yc rfl rfl F rfl (Nu XW rfl Yc rfl rfl rfl (H.rangeB0 1 36 rfl (by omega)) (Xr (f:=1) (k:=36) XG rfl Yg rfl rfl rfl (Nu Yj rfl Yg rfl rfl rfl (H.ra' 1 _ 6 rfl) (Xhx (places:=[(0,36),(36,6),(42,96),(138,4)]) N3 XG (by kernel_rfl) rfl rfl rfl (FillB.row rfl rfl (FillB.row rfl rfl FillB.nil)) ?_)))));clear hK1;clear F a;intro a F;refine Xt H 0 XL F rfl rfl rfl ?_;clear H;intro w H;rw [JE] at H;refine nK hK2 ?_;clear hK2;refine wp_ret ?_;refine NE results43 F rfl XG rfl XL H 0 rfl ?_
 refine ⟨Ch fun i _=>?_,H.below⟩
 simp only [lay,cut,Qf,zb]
 split <;> split <;> (try split) <;> first | rfl | (congr 1;omega) | omega
theorem EK (s:By) (t:Nat) (w0:World) (ht:t < 4) (hm:JA s t≤12) :
   Calls Tryz.prog 34 #[.agg (bs 142 s).toArray,.int .i64 (t:Int)] w0 fun e w'=>∃ A c,e = .returned (.slice A (QU s t).length c)∧Own w0 none w' [.rws 55 2 (.slice A (QU s t).length c) (QN (QU s t))]:=by
 have H:=Own.start w0 none
 have hmy:JA s t=(s (138+t)).toNat:=rfl
 refine JF func34 rfl ntmps34 rfl (fun a F=>?_);refine cSR fun K1 hK1=>?_;refine Mg H F rfl rfl rfl ?_;clear F a H;intro b2 a w F H;refine Xa F rfl (qNK hK1 (qSR fun K2 hK2=>Xd rfl ?_));clear hK1;clear F a;intro a F
 replace H:=H.nilRws 55 2
 refine nK hK2 ?_;clear hK2;refine JD (fun K3 hK3=>?_);refine cSR fun K4 hK4=>Xa F rfl (qNK hK4 ?_);clear hK4;clear F a;intro a F;refine wp_block ?_
 refine JN [1,2] (fun m ups w=>∃ (k:Nat) (A:Option Addr) (c:Nat) (l:List (UInt8 × UInt8)),m=JA s t - k∧ups=[(5,.slice A l.length c),(6,.int .i64 ((k:Nat):Int))]∧k≤JA s t∧l=(QU s t).take k∧Own w0 none w [.rws 55 2 (.slice A l.length c) (QN l),.blk b2 (bs 142 s) 60]) F (JA s t) [(5,.slice none 0 0),(6,.int .i64 ((0:Nat):Int))] ?_ ?_
 · exact ⟨0,none,0,[],rfl,rfl,Nat.zero_le _,rfl,H⟩
 clear F
 clear H
 intro m ups a w hI F
 obtain ⟨k,A,c,l,rfl,rfl,hk,hl,H⟩:=hI
 refine JD (fun K5 hK5=>?_);refine cSR fun K6 hK6=>Xf F rfl (Xe rfl rfl QF (Xh rfl ?_));clear F a;intro a F
 refine F.split 9 rfl ?_ ?_ <;> (clear F;intro h9 F)
 ·
  replace h9:=of_decide_eq_true h9;refine Xf F rfl (Xh rfl (Xr (f:=3) (k:=138) XG rfl Yh rfl rfl rfl ?_));clear F a;intro a F
  refine MP X8 XH F rfl rfl rfl rfl ?_ ?_
  focus (omega)
  clear F a;intro a F;refine sLd XJ F rfl rfl rfl (H.ce' 1 rfl) (qCv XO XT rfl rfl rfl (QG _) (Xe rfl rfl QF (Xy rfl rfl (qNK hK6 ?_))));clear hK6;clear F a;intro a F
  refine cIf F rfl (fun h17=>?_) (fun h17=>?_)
  ·
   replace h17:=of_decide_eq_true h17
   have hkm:k < JA s t:=by omega
   have hb:(QU s t)[k]? = some (JU s t k,Nm s t k):=by rw [Q7,if_pos hkm]
   have hll:l.length=k:=by rw [hl,List.length_take,NC];omega
   refine wp_skip (hK5 _ _ ?_);clear hK5;refine JD (fun K7 hK7=>?_);refine wp_block ?_;refine JY (Xf F rfl (Xh rfl (Xh rfl (Xr (f:=2) (k:=42) XG rfl Yb rfl rfl rfl ?_))));clear F a;intro a F
   refine sIa XZ Yi F rfl rfl rfl rfl ?_ ?_
   focus (omega)
   clear F a;intro a F
   refine sIa X2 XS F rfl rfl rfl rfl ?_ ?_
   focus (omega)
   clear F a;intro a F;refine Xs XQ rfl XS F rfl (H.ra' 1 _ 2 rfl) ?_;clear F a;intro a F;refine Cf H X4 XS Y0 rfl F rfl rfl rfl rfl rfl ?_;clear F a H;intro b27 a w F H
   refine Mq (bytes:=2) H 1 X4 Zh rfl rfl rfl rfl rfl rfl F rfl rfl rfl rfl rfl (H.whole 0 rfl) rfl ?s1 ?s2 ?_
   case s1=>rfl
   case s2=>(rw [Nc];omega)
   clear F a H;intro A28 c28 a w F H;refine Xa F rfl (qNK hK7 (Ef (Xh rfl ?_)));clear hK7;clear F a;intro a F
   refine Xg F rfl rfl (JJ (j:=1) ?_) ?_
   focus omega
   clear F a;intro a F;refine Xa F rfl ?_;clear F a;intro a F;refine J4 ?_
   have e2:QN l++[bs 2 (cut s (42+t * 24+k * 2))]=QN (l++[(JU s t k,Nm s t k)]):=L8 l (JU s t k,Nm s t k)
   rw [e2,Nc] at H F
   exact ⟨_,by omega,_,⟨k+1,A28,c28,l++[(JU s t k,Nm s t k)],rfl,rfl,hkm,by rw [List.take_add_one,← hl,hb];rfl,H.tail⟩,F.tt⟩
  replace h17:=of_decide_eq_false h17;refine wp_exit ?_;refine hK3 _ _ (cSR fun K8 hK8=>Xf F rfl (Xd rfl (qNK hK8 ?_)));clear hK3 hK8;clear F a;intro a F;refine wp_ret ?_;refine JI results34 F rfl ?_
  obtain rfl:k=JA s t:=by omega
  rw [List.take_of_length_le (by rw [NC];exact Nat.le_refl _)] at hl
  subst hl
  exact ⟨A,c,rfl,H.pick 0 rfl⟩
 replace h9:=of_decide_eq_false h9;refine XB F (XC (XC (XC (XC (XC (XC (Xy rfl rfl (qNK hK6 ?_))))))));clear hK6;clear F a;intro a F;refine LB F rfl ?_;refine wp_exit ?_;refine hK3 _ _ (cSR fun K9 hK9=>Xf F rfl (Xd rfl (qNK hK9 ?_)));clear hK3 hK9;clear F a;intro a F;refine wp_ret ?_;refine JI results34 F rfl ?_
 obtain rfl:k=JA s t:=by omega
 rw [List.take_of_length_le (by rw [NC];exact Nat.le_refl _)] at hl
 subst hl
 exact ⟨A,c,rfl,H.pick 0 rfl⟩
theorem Xhi {l:List (UInt8 × UInt8)} {k:Nat} {x:UInt8 × UInt8} (h:l[k]? = some x) (hk:k < 12) (o:Nat) (s f:By) (h0:f 0=x.1) (h1:f 1=x.2):lay (lay s o 24 (stL (l.take k))) (o+k * 2) 2 f=lay s o 24 (stL (l.take (k+1))):=by
 funext i
 unfold lay
 by_cases h2:o+k * 2≤i∧i < o+k * 2+2
 · rw [if_pos h2,if_pos (by omega)]
   unfold stL
   have e1:(i - o) / 2=k:=by omega
   rw [e1,List.getElem?_take_of_lt (by omega),h]
   rcases (by omega:i - (o+k * 2)=0∨i - (o+k * 2)=1) with e | e
   · have:(i - o) % 2=0:=by omega
     rw [e]
     show f 0=if (i - o) % 2=0 then x.1 else x.2
     rw [if_pos this];exact h0
   · have:¬ (i - o) % 2=0:=by omega
     rw [e]
     show f 1=if (i - o) % 2=0 then x.1 else x.2
     rw [if_neg this];exact h1
 · rw [if_neg h2]
   by_cases h3:o≤i∧i < o+24
   · rw [if_pos h3,if_pos h3]
     unfold stL
     rcases Nat.lt_or_ge ((i - o) / 2) k with h4 | h4
     · rw [List.getElem?_take_of_lt h4,List.getElem?_take_of_lt (by omega)]
     · rw [List.getElem?_eq_none (by rw [List.length_take];omega),List.getElem?_eq_none (by rw [List.length_take];omega)]
   · rw [if_neg h3,if_neg h3]
theorem Xhh (o:Nat) (s:By) (l:List (UInt8 × UInt8)):lay s o 24 (stL (l.take 0))=lay s o 24 zb:=by
 funext i
 unfold lay stL zb
 simp
set_option maxHeartbeats 1000000 in
theorem Be (s:By) (t:Nat) (LA:Option Addr) (LC:Nat) (l:List (UInt8 × UInt8)) (w0:World) (ht:t < 4) (hl:l.length≤12) (hR:RowsAt w0 LA 2 (QN l)) :
   Calls Tryz.prog 39 #[.agg (bs 142 s).toArray,.int .i64 (t:Int),.slice LA l.length LC] w0 fun e w'=>e = .returned (.agg (bs 142 (Xbl s t l)).toArray)∧Below w0.heap.size w0 w':=by
 have H:=Own.start w0 none
 refine JF func39 rfl ntmps39 rfl (fun a F=>?_);refine cSR fun K1 hK1=>?_;refine Mg H F rfl rfl rfl ?_;clear F a H;intro b3 a w F H;refine Mo H N3 F rfl rfl ?_;clear F a H;intro b6 a w F H;refine nK hK1 (cSR fun K2 hK2=>?_);clear hK1;refine Mo H zB56 F rfl rfl ?_;clear F a H;intro b7 a w F H;refine nK hK2 (cSR fun K3 hK3=>Xf F rfl (Nu X2 rfl Yi rfl rfl rfl (H.whole 0 rfl) (Xr (f:=2) (k:=42) XG rfl Yb rfl rfl rfl ?_)));clear hK2;clear F a;intro a F
 refine sIa XZ Yi F rfl rfl rfl rfl ?_ ?_
 focus (omega)
 clear F a;intro a F;refine Xt H 2 Yi F rfl rfl rfl ?_;clear H;intro w H;refine nK hK3 ?_;clear hK3;refine JD (fun K4 hK4=>?_);refine cSR fun K5 hK5=>Xa F rfl (qNK hK5 ?_);clear hK5;clear F a;intro a F;refine wp_block ?_
 refine JN [1,2,3,6] (fun m ups w=>∃ k:Nat,m=l.length - k∧ups=[(8,.int .i64 ((k:Nat):Int))]∧k≤l.length∧Own w0 none w [.blk b7 (bs 24 zb) 56,.blk b6 (bs 142 zb) 60,.blk b3 (bs 142 (lay s (42+t * 24) 24 (stL (l.take k)))) 60]) F (l.length) [(8,.int .i64 ((0:Nat):Int))] ?_ ?_
 · (refine ⟨0,rfl,rfl,Nat.zero_le _,?_⟩;rw [Xhh];exact H.sel [0,1,2] rfl rfl)
 clear F
 clear H
 intro m ups a w hI F
 obtain ⟨k,rfl,rfl,hk,H⟩:=hI
 refine JD (fun K6 hK6=>?_);refine cSR fun K7 hK7=>Xf F rfl (Xh rfl (Xx X4 rfl (Xe rfl rfl QF (qNK hK7 ?_))));clear hK7;clear F a;intro a F
 refine cIf F rfl (fun h16=>?_) (fun h16=>?_)
 ·
  replace h16:=of_decide_eq_true h16
  have hkl:k < l.length:=by omega
  obtain ⟨x,hx⟩:∃ x,l[k]? = some x:=⟨_,List.getElem?_eq_getElem hkl⟩
  obtain ⟨bL,oL,rfl,hc⟩:=hR k _ (QL hx)
  have e2:=Xhi hx (by omega) (42+t * 24) s (stB x) rfl rfl
  refine wp_skip (hK6 _ _ ?_);clear hK6;refine JD (fun K8 hK8=>?_);refine wp_block ?_;refine Xi H ?_;replace H:=H.drew;refine Xj 0 rfl F rfl (fun w=>rMv F rfl) H qq0 (Xm 1 rfl rfl (fun a F w=>rMv F rfl) H qq0 (Xm 2 rfl rfl (fun a F w=>rMv F rfl) H qq0 (Xm 3 rfl rfl (fun a F w=>rMv F rfl) H qq0 ?_)));clear F a;intro a F
  refine Xq (k:=4) (i:=4) rfl F rfl (fun w=>rIx X4 XS F rfl rfl ?_) H (fun _ _ _ h=>h) ?_
  focus exact hkl
  clear F a;intro a F;refine Xv 5 rfl F rfl rfl (fun w H=>Nt XQ rfl XS F rfl (H.argR hc)) H qq0 (Xm 6 rfl rfl (fun a F w=>rFa (f:=2) (k:=42) XG rfl Yb rfl rfl F rfl) H qq0 ?_);clear F a;intro a F
  refine Xq (k:=7) (i:=7) rfl F rfl (fun w=>rIa XZ Yi F rfl rfl ?_) H (fun _ _ _ h=>h) ?_
  focus (omega)
  clear F a;intro a F
  refine Xq (k:=8) (i:=8) rfl F rfl (fun w=>rIa X2 XS F rfl rfl ?_) H (fun _ _ _ h=>h) ?_
  focus (omega)
  clear F a;intro a F;refine Xn (k:=9) (i:=9) rfl F (DV H 2 XS F rfl rfl rfl (by omega) ?_);clear H;intro w H;refine Xo H ?_;refine Xp (k:=10) ?_;refine hK8 _ _ (JY (Xf F rfl ?_));clear hK8;clear F a;intro a F
  refine Xg F rfl rfl (JJ (j:=1) ?_) ?_
  focus omega
  clear F a;intro a F;refine Xa F rfl ?_;clear F a;intro a F;refine J4 ?_
  exact ⟨_,by omega,_,⟨k+1,rfl,rfl,by omega,by rw [← e2];exact H⟩,F.tt⟩
 replace h16:=of_decide_eq_false h16
 obtain rfl:k=l.length:=by omega
 rw [List.take_length] at H;refine wp_exit ?_;refine hK4 _ _ (cSR fun K9 hK9=>Xf F rfl (Xh rfl (Xx X4 rfl (qCv XT XO rfl rfl rfl (Xe7 _) (Xr (f:=3) (k:=138) XG rfl Yh rfl rfl rfl ?_)))));clear hK4;clear F a;intro a F
 refine MP X8 XH F rfl rfl rfl rfl ?_ ?_
 focus (omega)
 clear F a;intro a F;refine LJ H 2 XH F rfl rfl rfl rfl (by omega) ?_;clear H;intro w H;refine nK hK9 (cSR fun K10 hK10=>Xs XG rfl XL F rfl (H.whole 2 rfl) ?_);clear hK9;clear F a;intro a F;refine Xt H 1 XL F rfl rfl rfl ?_;clear H;intro w H;rw [JE] at H;refine nK hK10 ?_;clear hK10;refine wp_ret ?_;refine NE results39 F rfl XG rfl XL H 1 rfl ?_
 exact ⟨by rw [Xbl],H.below⟩
set_option maxHeartbeats 1000000 in
theorem CH (s:By) (t:Nat) (loc:UInt8) (w0:World) (ht:t < 4) (hl:loc.toNat < 6) (hm:JA s t≤12):Calls Tryz.prog 41 #[.agg (bs 142 s).toArray,.int .i64 (t:Int),YtcpehikcegoojaaGreatDoor.b8 loc] w0 fun e w'=>e = .returned (YtcpehikcegoojaaGreatDoor.b8 (LU s t loc))∧Below w0.heap.size w0 w':=by
 have hbl:(QU s t).length=JA s t:=NC s t
 have H:=Own.start w0 none
 refine JF func41 rfl ntmps41 rfl (fun a F=>?_);refine cSR fun K1 hK1=>?_;refine Mg H F rfl rfl rfl ?_;clear F a H;intro b3 a w F H;refine Xa F rfl (qNK hK1 ?_);clear hK1;clear F a;intro a F;refine JD (fun K2 hK2=>?_);refine cSR fun K3 hK3=>Xf F rfl (Xe rfl rfl QF (Xh rfl ?_));clear F a;intro a F
 refine F.split 11 rfl ?_ ?_ <;> (clear F;intro h11 F)
 ·
  replace h11:=of_decide_eq_true h11
  exact absurd h11 (by omega)
 replace h11:=of_decide_eq_false h11;refine Xf F rfl (Xe rfl rfl L3 (Xy rfl rfl (Xh rfl ?_)));clear F a;intro a F
 refine F.split 15 rfl ?_ ?_ <;> (clear F;intro h15 F)
 ·
  replace h15:=of_decide_eq_true h15
  exact absurd h15 (by omega)
 replace h15:=of_decide_eq_false h15;refine Xf F rfl (Xe rfl rfl (DY (y:=5)) (Xy rfl rfl (qNK hK3 ?_)));clear hK3;clear F a;intro a F
 refine cIf F rfl (fun h18=>?_) (fun h18=>?_)
 ·
  replace h18:=of_decide_eq_true h18
  exact absurd h18 (by rw [UInt8.lt_iff_toNat_lt];show ¬ (5:UInt8).toNat < loc.toNat;have e5:(5:UInt8).toNat=5:=rfl;omega)
 replace h18:=of_decide_eq_false h18;refine wp_skip (hK2 _ _ (cSR fun K4 hK4=>Xs XG rfl XL F rfl (H.whole 0 rfl) (Xh rfl ?_)));clear hK2;clear F a;intro a F;refine Xu call34 F rfl (EK s t _ ht hm) ?_;rintro e w ⟨A,c,rfl,H2⟩;replace H:=H.join H2;clear H2;refine ⟨_,rfl,?_⟩;clear F a;intro a F;refine Xa F rfl (qNK hK4 ?_);clear hK4;clear F a;intro a F;refine JD (fun K5 hK5=>?_);refine cSR fun K6 hK6=>Xf F rfl (Xx X4 rfl ?_);clear F a;intro a F
 refine Xg F rfl rfl (Ca ?_) ?_
 focus omega
 clear F a;intro a F;refine Xa F rfl (qNK hK6 ?_);clear hK6;clear F a;intro a F;refine wp_block ?_
 refine JN [2,3,7] (fun m ups w=>∃ k:Nat,m=k∧ups=[(8,.int .i64 (((k:Nat):Int) - 1))]∧k≤JA s t∧LU s t loc=seenN s t loc k∧Own w0 none w [.rws 55 2 (.slice A (QU s t).length c) (QN (QU s t)),.blk b3 (bs 142 s) 60]) F (JA s t) [(8,.int .i64 ((((QU s t).length:Nat):Int) - 1))] ?_ ?_
 · exact ⟨JA s t,rfl,by rw [hbl],Nat.le_refl _,by rw [LU,Nat.min_eq_left hm],H.sel [0,1] rfl rfl⟩
 clear F
 clear H
 intro m ups a w hI F
 obtain ⟨k,rfl,rfl,hk,hs,H⟩:=hI
 refine JD (fun K7 hK7=>?_);refine cSR fun K8 hK8=>Xf F rfl (Xe rfl rfl Cb (qNK hK8 ?_));clear hK8;clear F a;intro a F
 refine cIf F rfl (fun h26=>?_) (fun h26=>?_)
 ·
  replace h26:=of_decide_eq_true h26
  obtain ⟨k',rfl⟩:∃ q,m=q+1:=⟨m - 1,by omega⟩
  rw [show ((k'+1:Nat):Int) - 1=((k':Nat):Int) by omega] at F;rw [seenN] at hs
  have hb:(QU s t)[k']? = some (JU s t k',Nm s t k'):=by rw [Q7,if_pos (by omega)]
  obtain ⟨bL,oL,rfl,hR⟩:=H.rowsAt 0 rfl (QA _) (by decide) k' _ (Xbr hb)
  refine wp_skip (hK7 _ _ ?_);clear hK7;refine JD (fun K9 hK9=>?_);refine wp_block ?_;refine cSR fun K10 hK10=>Xf F rfl (Xh rfl ?_);clear F a;intro a F
  refine sIx X4 XS F rfl rfl rfl rfl ?_ ?_
  focus omega
  clear F a;intro a F;refine Xe2 (f:=0) XQ rfl XH rfl rfl F rfl rfl rfl (Xc XJ rfl (by simpa using hR 0 _ rfl) (Xh rfl (Xe rfl rfl JL (qNK hK10 ?_))));clear hK10;clear F a;intro a F
  refine cIf F rfl (fun h35=>?_) (fun h35=>?_)
  ·
   replace h35:=J1 h35;refine cSR fun K11 hK11=>Xf F rfl (Xh rfl ?_);clear F a;intro a F
   refine sIx X4 XS F rfl rfl rfl rfl ?_ ?_
   focus omega
   clear F a;intro a F;refine Xb (f:=1) (k:=_+1) XQ rfl XH rfl rfl F rfl (Xc XJ rfl (hR 1 _ rfl) (Xd rfl (qNK hK11 ?_)));clear hK11;clear F a;intro a F;refine wp_ret ?_;refine xI ?_;refine JI results41 F rfl ?_
   exact ⟨by rw [hs,if_pos (show JU s t k'=loc from h35)],H.below⟩
  replace h35:=J2 h35;refine wp_skip (hK9 _ _ (JY (Xf F rfl ?_)));clear hK9;clear F a;intro a F
  refine Xg F rfl rfl (Ca ?_) ?_
  focus omega
  clear F a;intro a F;refine Xa F rfl ?_;clear F a;intro a F;refine J4 ?_
  exact ⟨k',by omega,_,⟨k',rfl,rfl,by omega,by rw [hs,if_neg (show ¬ JU s t k'=loc from h35)],H.sel [0,1] rfl rfl⟩,F.tt⟩
 replace h26:=of_decide_eq_false h26
 obtain rfl:m=0:=by omega
 refine wp_exit ?_;refine hK5 _ _ (cSR fun K12 hK12=>Xf F rfl (Xr (f:=1) (k:=36) XG rfl Yg rfl rfl rfl ?_));clear hK5;clear F a;intro a F
 refine MP Yj XH F rfl rfl rfl rfl ?_ ?_
 focus (omega)
 clear F a;intro a F;refine sLd XJ F rfl rfl rfl (H.ce' 1 rfl) (Xd rfl (qNK hK12 ?_));clear hK12;clear F a;intro a F;refine wp_ret ?_;refine JI results41 F rfl ?_
 exact ⟨by rw [hs];rfl,H.below⟩
def Me (x:Ins) (m:UInt8):Bool:=if x.op=7 then x.mode == 3 || (x.mode == 5 && m == 3) else decide (4≤x.op) && decide (x.op≤6)
theorem Xfb (x:Ins) (m:UInt8) (w0:World):Calls Tryz.prog 35 #[.agg x.cells.toArray,YtcpehikcegoojaaGreatDoor.b8 m] w0 fun e w'=>e = .returned (.bool (Me x m))∧Below w0.heap.size w0 w':=by
 have H:=Own.start w0 none
 refine JF func35 rfl ntmps35 rfl (fun a F=>?_);refine cSR fun K1 hK1=>?_;refine sBx H F rfl rfl rfl ?_;clear F a H;intro b2 a w F H;refine Xa F rfl (qNK hK1 ?_);clear hK1;clear F a;intro a F;refine JD (fun K2 hK2=>?_);refine cSR fun K3 hK3=>Xb (f:=0) (k:=0) XI rfl XH rfl rfl F rfl (Xc XJ rfl (H.cell 0 rfl rfl) (Xe rfl rfl (JL (y:=7)) (qNK hK3 ?_)));clear hK3;clear F a;intro a F
 refine cIf F rfl (fun h7=>?_) (fun h7=>?_)
 ·
  replace h7:=J1 h7;refine cSR fun K4 hK4=>Xb (f:=6) (k:=8) XI rfl XH rfl rfl F rfl (Xc XJ rfl (H.cell 0 rfl rfl) (Xe rfl rfl (JL (y:=3)) (Xh rfl ?_)));clear F a;intro a F
  refine F.split 11 rfl ?_ ?_ <;> (clear F;intro h11 F)
  ·
   replace h11:=J1 h11;refine XB F (XC (XC (XC (XC (XC (XC (Xy rfl rfl (Xd rfl (qNK hK4 ?_)))))))));clear hK4;clear F a;intro a F;refine wp_ret ?_;simp only [Exit.then];refine JI Zn F rfl ?_
   refine ⟨?_,H.below⟩
   clear F H
   rw [Me]
   (rw [if_pos h7];simp_all)
  replace h11:=J2 h11;refine Xb (f:=6) (k:=8) XI rfl XH rfl rfl F rfl (Xc XJ rfl (H.cell 0 rfl rfl) (Xe rfl rfl (JL (y:=5)) (Xh rfl ?_)));clear F a;intro a F
  refine F.split 15 rfl ?_ ?_ <;> (clear F;intro h15 F)
  ·
   replace h15:=J1 h15;refine Xf F rfl (Xe rfl rfl (JL (y:=3)) (Xy rfl rfl (Xy rfl rfl (Xd rfl (qNK hK4 ?_)))));clear hK4;clear F a;intro a F;refine wp_ret ?_;simp only [Exit.then];refine JI Zn F rfl ?_
   refine ⟨?_,H.below⟩
   clear F H
   rw [Me]
   (rw [if_pos h7];simp_all)
  replace h15:=J2 h15;refine XB F (XC (Xy rfl rfl (Xy rfl rfl (Xd rfl (qNK hK4 ?_)))));clear hK4;clear F a;intro a F;refine wp_ret ?_;simp only [Exit.then];refine JI Zn F rfl ?_
  refine ⟨?_,H.below⟩
  clear F H
  rw [Me]
  (rw [if_pos h7];simp_all)
 replace h7:=J2 h7;refine wp_skip (hK2 _ _ (cSR fun K5 hK5=>Xb (f:=0) (k:=0) XI rfl XH rfl rfl F rfl (Xc XJ rfl (H.cell 0 rfl rfl) (Xe rfl rfl (Xcq (y:=4)) (Xh rfl ?_)))));clear hK2;clear F a;intro a F
 refine F.split 23 rfl ?_ ?_ <;> (clear F;intro h23 F)
 ·
  replace h23:=of_decide_eq_true h23;refine Xb (f:=0) (k:=0) XI rfl XH rfl rfl F rfl (Xc XJ rfl (H.cell 0 rfl rfl) (Xe rfl rfl (Xdz (y:=6)) (Xy rfl rfl (Xd rfl (qNK hK5 ?_)))));clear hK5;clear F a;intro a F;refine wp_ret ?_;refine JI Zn F rfl ?_
  refine ⟨?_,H.below⟩
  clear F H
  rw [Me]
  (rw [if_neg (show ¬ x.op=7 from h7),decide_eq_true h23,Bool.true_and])
 replace h23:=of_decide_eq_false h23;refine XB F (XC (XC (Xy rfl rfl (Xd rfl (qNK hK5 ?_)))));clear hK5;clear F a;intro a F;refine wp_ret ?_;refine JI Zn F rfl ?_
 refine ⟨?_,H.below⟩
 clear F H
 rw [Me]
 (rw [if_neg (show ¬ x.op=7 from h7),decide_eq_false (by exact h23)];rfl)
theorem XfE {x:Ins} {m:UInt8} {s:By} {t:Nat} (ho:x.op=1∨x.op=2∨x.op=3∨x.op=4∨x.op=5∨x.op=6∨x.op=7∨x.op=8):QQ x m s t=(s (138+t) == 0 || !Me x m):=by
 have far:x.op=1∨x.op=2∨x.op=3∨x.op=8→QQ x m s t=(s (138+t) == 0 || !Me x m):=fun hh=>by
   have h1:¬ (x.op=4∨x.op=5∨x.op=6):=by rcases hh with o | o | o | o <;> rw [o] <;> decide
   have h2:¬ x.op=7:=by rcases hh with o | o | o | o <;> rw [o] <;> decide
   have h3:(decide ((4:UInt8)≤x.op) && decide (x.op≤6))=false:=by rcases hh with o | o | o | o <;> rw [o] <;> decide
   unfold QQ Me
   rw [if_neg h1,if_neg h2,if_neg h2,h3,Bool.not_false,Bool.or_true]
 have near:x.op=4∨x.op=5∨x.op=6→QQ x m s t=(s (138+t) == 0 || !Me x m):=fun hh=>by
   have h2:¬ x.op=7:=by rcases hh with o | o | o <;> rw [o] <;> decide
   have h3:(decide ((4:UInt8)≤x.op) && decide (x.op≤6))=true:=by rcases hh with o | o | o <;> rw [o] <;> decide
   unfold QQ Me
   rw [if_pos hh,if_neg h2,h3,Bool.not_true,Bool.or_false]
 rcases ho with o | o | o | o | o | o | o | o
 · exact far (.inl o)
 · exact far (.inr (.inl o))
 · exact far (.inr (.inr (.inl o)))
 · exact near (.inl o)
 · exact near (.inr (.inl o))
 · exact near (.inr (.inr o))
 · have h1:¬ (x.op=4∨x.op=5∨x.op=6):=by rw [o];decide
   unfold QQ Me
   rw [if_neg h1,if_pos o,if_pos o,Bool.or_comm,Bool.and_comm (m == 3)]
 · exact far (.inr (.inr (.inr o)))
set_option maxHeartbeats 1000000 in
theorem Xeo (LA:Option Addr) (LC:Nat) (l:List (UInt8 × UInt8)) (N:Nat) (hN:N=256) (w0:World) (hl:l.length≤12) (hR:RowsAt w0 LA 2 (QN l)) :
   Calls Tryz.prog 38 #[.slice LA l.length LC] w0 fun e w'=>∃ A c,e = .returned (.slice A (N5 l N).length c)∧Own w0 none w' [.rws 55 2 (.slice A (N5 l N).length c) (QN (N5 l N))]:=by
 have H:=Own.start w0 none
 have hlen:∀ (v k:Nat) (q:List (UInt8 × UInt8)),v≤N→q=N5 l v++DL (l.take k) (UInt8.ofNat v)→q.length≤4000:=fun v k q hv e=>by
   have h1:∀ n,(N5 l n).length≤n * 12:=fun n=>by
     induction n with
     | zero=>exact Nat.zero_le _
     | succ n ih=>
       rw [N5,List.length_append]
       have:=List.length_filter_le (fun x:UInt8 × UInt8=>x.1 == UInt8.ofNat n) l
       unfold DL
       omega
   have h2:=List.length_filter_le (fun x:UInt8 × UInt8=>x.1 == UInt8.ofNat v) (l.take k)
   have h3:=h1 v
   have h4:=List.length_take_le k l
   have h5:(l.take k).length≤l.length:=by rw [List.length_take];omega
   rw [e,List.length_append]
   unfold DL
   omega
 refine JF func38 rfl ntmps38 rfl (fun a F=>?_);refine cSR fun K1 hK1=>Xa F rfl (qNK hK1 (qSR fun K2 hK2=>Xd rfl ?_));clear hK1;clear F a;intro a F
 replace H:=H.nilRws 55 2
 refine nK hK2 ?_;clear hK2;refine JD (fun K3 hK3=>?_);refine cSR fun K4 hK4=>Xa F rfl (qNK hK4 ?_);clear hK4;clear F a;intro a F;refine wp_block ?_
 refine JN [0] (fun m ups w=>∃ (v:Nat) (A:Option Addr) (c:Nat) (q:List (UInt8 × UInt8)),m=N - v∧ups=[(3,.slice A q.length c),(4,.int .i64 ((v:Nat):Int))]∧v≤N∧q=N5 l v∧Own w0 none w [.rws 55 2 (.slice A q.length c) (QN q)]) F (N) [(3,.slice none 0 0),(4,.int .i64 ((0:Nat):Int))] ?_ ?_
 · exact ⟨0,none,0,[],rfl,rfl,Nat.zero_le _,rfl,H⟩
 clear F
 clear H
 intro m ups a w hI F
 obtain ⟨v,A,c,q,rfl,rfl,hv,hq,H⟩:=hI
 refine JD (fun K5 hK5=>?_);refine cSR fun K6 hK6=>Xf F rfl (Xe rfl rfl QF (qNK hK6 ?_));clear hK6;clear F a;intro a F
 refine cIf F rfl (fun h7=>?_) (fun h7=>?_)
 ·
  replace h7:=of_decide_eq_true h7;refine wp_skip (hK5 _ _ ?_);clear hK5;refine JD (fun K7 hK7=>?_);refine wp_block ?_;refine cSR fun K8 hK8=>Xa F rfl (qNK hK8 ?_);clear hK8;clear F a;intro a F;refine wp_block ?_
  refine JN [0,4] (fun m ups w=>∃ (k:Nat) (A:Option Addr) (c:Nat) (q:List (UInt8 × UInt8)),m=l.length - k∧ups=[(3,.slice A q.length c),(5,.int .i64 ((k:Nat):Int))]∧k≤l.length∧q=N5 l v++DL (l.take k) (UInt8.ofNat v)∧Own w0 none w [.rws 55 2 (.slice A q.length c) (QN q)]) F (l.length) [(3,.slice A q.length c),(5,.int .i64 ((0:Nat):Int))] ?_ ?_
  · exact ⟨0,A,c,q,rfl,rfl,Nat.zero_le _,by rw [hq,List.take_zero,show DL [] (UInt8.ofNat v)=[] from rfl,List.append_nil],H.sel [0] rfl rfl⟩
  clear F
  clear H
  intro m ups a w hI F
  obtain ⟨k,A2,c2,q2,rfl,rfl,hk,hq2,H⟩:=hI
  refine JD (fun K9 hK9=>?_);refine cSR fun K10 hK10=>Xf F rfl (Xh rfl (Xx X4 rfl (Xe rfl rfl QF (qNK hK10 ?_))));clear hK10;clear F a;intro a F
  refine cIf F rfl (fun h13=>?_) (fun h13=>?_)
  ·
   replace h13:=of_decide_eq_true h13
   have hkl:k < l.length:=by omega
   obtain ⟨x,hx⟩:∃ x,l[k]? = some x:=⟨_,List.getElem?_eq_getElem hkl⟩
   obtain ⟨bL,oL,rfl,hc⟩:=hR k _ (QL hx)
   have hc0:=hc 0 (YtcpehikcegoojaaGreatDoor.b8 x.1) rfl
   rw [Nat.add_zero] at hc0
   have hsm:=hlen v k q2 hv hq2
   have hst:DL (l.take (k+1)) (UInt8.ofNat v)=DL (l.take k) (UInt8.ofNat v)++if x.1=UInt8.ofNat v then [x] else []:=by rw [List.take_add_one,hx];show DL (l.take k++[x]) _=_;rw [Mk,XaD]
   have hxv:(x.1=UInt8.ofNat v) ↔ x.1.toNat=v:=by
    constructor
    · intro e
      rw [e,UInt8.toNat_ofNat']
      omega
    · intro e
      rw [← e];exact UInt8.ofNat_toNat.symm
   refine wp_skip (hK9 _ _ ?_);clear hK9;refine JD (fun K11 hK11=>?_);refine wp_block ?_;refine cSR fun K12 hK12=>Xf F rfl (Xh rfl ?_);clear F a;intro a F
   refine sIx X4 XS F rfl rfl rfl rfl ?_ ?_
   focus exact hkl
   clear F a;intro a F;refine Xb (f:=0) XQ rfl XH rfl rfl F rfl (Xc XJ rfl (H.arg hc0) (qCv XO XT rfl rfl rfl (QG _) (Xh rfl (Xe rfl rfl Mp (qNK hK12 ?_)))));clear hK12;clear F a;intro a F
   refine cIf F rfl (fun h23=>?_) (fun h23=>?_)
   ·
    replace h23:=J1 h23;refine JY (Xf F rfl (Xh rfl (Xh rfl ?_)));clear F a;intro a F
    refine sIx X4 XS F rfl rfl rfl rfl ?_ ?_
    focus exact hkl
    clear F a;intro a F;refine Xs XQ rfl XS F rfl (H.argR hc) ?_;clear F a;intro a F;refine Cf H X4 XS Y0 rfl F rfl rfl rfl rfl rfl ?_;clear F a H;intro b29 a w F H
    refine Mq (bytes:=2) H 1 X4 Zh rfl rfl rfl rfl rfl rfl F rfl rfl rfl rfl rfl (H.whole 0 rfl) rfl ?s1 ?s2 ?_
    case s1=>rfl
    case s2=>(rw [Nc];omega)
    clear F a H;intro A30 c30 a w F H;refine Xa F rfl (qNK hK11 (Ef (Xh rfl ?_)));clear hK11;clear F a;intro a F
    refine Xg F rfl rfl (JJ (j:=1) ?_) ?_
    focus omega
    clear F a;intro a F;refine Xa F rfl ?_;clear F a;intro a F;refine J4 ?_
    (have hh:x.1=UInt8.ofNat v:=hxv.2 (by omega)
     rw [Lu q2 x,Nc] at H F
     exact ⟨_,by omega,_,⟨k+1,A30,c30,q2++[x],rfl,rfl,hkl,by rw [hst,if_pos hh,hq2,List.append_assoc],H.tail⟩,F.tt⟩)
   replace h23:=J2 h23;refine wp_skip (hK11 _ _ (JY (Xf F rfl ?_)));clear hK11;clear F a;intro a F
   refine Xg F rfl rfl (JJ (j:=1) ?_) ?_
   focus omega
   clear F a;intro a F;refine Xa F rfl ?_;clear F a;intro a F;refine J4 ?_
   (have hh:¬ x.1=UInt8.ofNat v:=fun e=>by have:=hxv.1 e;omega
    exact ⟨_,by omega,_,⟨k+1,A2,c2,q2,rfl,rfl,hkl,by rw [hst,if_neg hh,List.append_nil,hq2],H⟩,F.tt⟩)
  replace h13:=of_decide_eq_false h13
  obtain rfl:k=l.length:=by omega
  rw [List.take_length] at hq2;refine wp_exit ?_;refine hK7 _ _ (JY (Xf F rfl ?_));clear hK7;clear F a;intro a F
  refine Xg F rfl rfl (JJ (j:=1) ?_) ?_
  focus omega
  clear F a;intro a F;refine Xa F rfl ?_;clear F a;intro a F;refine J4 ?_
  exact ⟨_,by omega,_,⟨v+1,A2,c2,q2,rfl,rfl,by omega,by rw [hq2,N5],H⟩,F.tt⟩
 replace h7:=of_decide_eq_false h7
 obtain rfl:v=N:=by omega
 refine wp_exit ?_;refine hK3 _ _ (cSR fun K13 hK13=>Xf F rfl (Xd rfl (qNK hK13 ?_)));clear hK3 hK13;clear F a;intro a F;refine wp_ret ?_;refine JI results38 F rfl ?_;subst hq
 exact ⟨A,c,rfl,H.pick 0 rfl⟩
-- RsC
open Go.Proofs.Tryz
open Go.RowKit
set_option maxRecDepth 100000
theorem Xi9 {p:Prg} {s:By} (h:Qi p (Qf s)=true) {t:Nat} (ht:t < 4) (hl:p.threads.length≤t):s (t * 9)=0:=by
 have h1:=h
 unfold Qi Mf at h1
 simp only [Bool.and_eq_true] at h1
 have h2:=(allB_iff.1 h1.2.1.1) t ht
 have h3:=(LY hl).1 h2 0 (by omega)
 rw [Nat.add_zero] at h3
 exact (Xdx (s:=s) ht).symm.trans h3
def Xco (m:UInt8) (s:By) (t:Nat):Prop:=(s (t * 9)).toNat < JA s t∨(0 < JA s t∧m=1)
theorem Xij {p:Prg} {m:UInt8} {s:By} (h:Qi p (Qf s)=true) {t:Nat} (ht:t < 4):¬ Xco m s t ↔ JA s t≤Mm p m s t:=by
 unfold Xco Mm
 by_cases h1:m=1
 · rw [if_neg (fun hh=>hh.1 h1)]
   constructor
   · intro hh
     rcases Nat.eq_zero_or_pos (JA s t) with e | e
     · omega
     · exact absurd (.inr ⟨e,h1⟩) hh
   · intro hh e
     rcases e with e | e <;> omega
 · by_cases h2:t < p.threads.length
   · rw [if_pos ⟨h1,h2⟩]
     constructor
     · intro hh
       exact Nat.le_of_not_lt fun e=>hh (.inl e)
     · rintro hh (e | e)
       · omega
       · exact h1 e.2
   · rw [if_neg (fun hh=>h2 hh.2)]
     have h3:=Xi9 h ht (by omega)
     rw [h3]
     constructor
     · intro hh
       exact Nat.le_of_not_lt fun e=>hh (.inl e)
     · rintro hh (e | e)
       · have:(0:UInt8).toNat=0:=rfl
         omega
       · exact h1 e.2
def DQ (s:By) (t k:Nat):Prop:=JA s t≤k∧0 < (JU s t k).toNat+(Nm s t k).toNat
def DX (p:Prg) (s:By) (t k:Nat):Prop:=k < JA s t∧p.locs.length≤(JU s t k).toNat
def DP (m:UInt8) (s:By) (t k:Nat):Prop:=m=3∧0 < k∧k < JA s t∧JU s t k < JU s t (k - 1)
theorem slotQ_iff {p:Prg} {m:UInt8} {s:By} {t k:Nat}:Qo p m s t k=true ↔ ¬ DQ s t k∧¬ DX p s t k∧¬ DP m s t k:=by
 unfold Qo DQ DX DP
 by_cases h:JA s t≤k
 · rw [if_pos h,Bool.and_eq_true,beq_iff_eq,beq_iff_eq]
   constructor
   · rintro ⟨h1,h2⟩
     refine ⟨fun hh=>?_,fun hh=>by omega,fun hh=>by omega⟩
     rw [h1,h2] at hh
     exact absurd hh.2 (by decide)
   · rintro ⟨h1,_⟩
     have h2:¬ 0 < (JU s t k).toNat+(Nm s t k).toNat:=fun hh=>h1 ⟨h,hh⟩
     exact ⟨UInt8.toNat_inj.1 (by show _=0;omega),UInt8.toNat_inj.1 (by show _=0;omega)⟩
 · rw [if_neg h,Bool.and_eq_true,decide_eq_true_eq]
   constructor
   · rintro ⟨h1,h2⟩
     refine ⟨fun hh=>h hh.1,fun hh=>by omega,fun hh=>?_⟩
     rw [Bool.not_eq_true'] at h2
     have h3:(m == 3 && decide (0 < k) && decide (JU s t k < JU s t (k - 1)))=true:=by
       simp only [Bool.and_eq_true,beq_iff_eq,decide_eq_true_eq]
       exact ⟨⟨hh.1,hh.2.1⟩,hh.2.2.2⟩
     rw [h2] at h3;cases h3
   · rintro ⟨_,h2,h3⟩
     refine ⟨Nat.lt_of_not_le fun hh=>h2 ⟨by omega,hh⟩,?_⟩
     rw [Bool.not_eq_true']
     refine Bool.eq_false_iff.2 fun hh=>h3 ?_
     simp only [Bool.and_eq_true,beq_iff_eq,decide_eq_true_eq] at hh
     exact ⟨hh.1.1,hh.1.2,by omega,hh.2⟩
theorem Xb1 {p:Prg} {m:UInt8} {s:By} (h:Qi p (Qf s)=true) {t:Nat} (ht:t < 4):Nd p m s t=true ↔ ¬ Xco m s t∧∀ k,k < 12→¬ DQ s t k∧¬ DX p s t k∧¬ DP m s t k:=by
 unfold Nd
 rw [Bool.and_eq_true,decide_eq_true_eq,allB_iff,Xij h ht]
 exact ⟨fun hh=>⟨hh.1,fun k hk=>slotQ_iff.1 (hh.2 k hk)⟩,fun hh=>⟨hh.1,fun k hk=>slotQ_iff.2 (hh.2 k hk)⟩⟩
theorem known_of {m:UInt8}:QS m=true ↔ ¬ m < 1∧¬ 3 < m:=by
 unfold QS
 simp only [Bool.and_eq_true,decide_eq_true_eq,UInt8.not_lt]
theorem Nn {n:Nat} {P Q:Prop} (h:n=0 ↔ P) (hq:Q):n=0 ↔ P∧Q:=⟨fun e=>⟨h.1 e,hq⟩,fun e=>h.2 e.1⟩
theorem Ex {n:Nat} {P Q:Prop} (hq:¬ Q):n+1=0 ↔ P∧Q:=⟨fun e=>absurd e (by omega),fun e=>absurd e.2 hq⟩
set_option maxHeartbeats 4000000 in
theorem XbB (cs:List Value) (p:Prg) (w0:World) (hP:ProgAt w0 cs p) (hd:Nw p.cond≤9223372036854775807) (mc:UInt8) (s:By) :
   Calls Tryz.prog 33 #[.agg cs.toArray,YtcpehikcegoojaaGreatDoor.b8 mc,.agg (bs 142 s).toArray] w0 fun e w'=>e = .returned (.bool (N0 p mc s))∧Below w0.heap.size w0 w':=by
 have H:=Own.start w0 none
 have hP0:=hP
 obtain ⟨LA,LC,IA,IC,TA,TC,h,ccs,hp⟩:=hP
 obtain ⟨c1,c2,c3,c4,c5,rfl⟩:=DM (JT hp.cond)
 have hcs:=hp.cs
 subst hcs
 have hmy:∀ t,JA s t=(s (138+t)).toNat:=fun _=>rfl
 have hpr:[Value.string p.name,.slice LA p.locs.length LC,.slice IA p.init.length IC,.slice TA p.threads.length TC,YtcpehikcegoojaaGreatDoor.b8 p.ask]++[c1,c2,c3,c4,c5]=[Value.string p.name,.slice LA p.locs.length LC,.slice IA p.init.length IC,.slice TA p.threads.length TC,YtcpehikcegoojaaGreatDoor.b8 p.ask,c1,c2,c3,c4,c5]:=rfl
 refine JF func33 rfl ntmps33 rfl (fun a F=>?_);refine cSR fun K1 hK1=>?_;refine sBx H F rfl rfl rfl ?_;clear F a H;intro b3 a w F H;refine Mg H F rfl rfl rfl ?_;clear F a H;intro b5 a w F H;refine Xa F rfl (qNK hK1 ?_);clear hK1;clear F a;intro a F;refine JD (fun K2 hK2=>?_);refine JD (fun K3 hK3=>?_);refine Xi H ?_;replace H:=H.drew;refine Xj 0 rfl F rfl (fun w=>rMv F rfl) H qq0 (Xm 1 rfl rfl (fun a F w=>Q0 F rfl rfl (Eu (y:=1))) H qq0 (Xm 2 rfl rfl (fun a F w=>rMv F rfl) H qq0 ?_));clear F a;intro a F
 refine F.split 14 rfl ?_ ?_ <;> (clear F;intro h14 F)
 ·
  replace h14:=of_decide_eq_true h14;refine Xz 3 rfl F rfl H qq0 (XA 4 rfl rfl H qq0 (Xm 5 rfl rfl (fun a F w=>rPk F rfl rfl) H qq0 (Xm 6 rfl rfl (fun a F w=>rMv F rfl) H qq0 (XA 7 rfl rfl H qq0 (XA 8 rfl rfl H qq0 (XA 9 rfl rfl H qq0 (XA 10 rfl rfl H qq0 (XA 11 rfl rfl H qq0 (Xm 12 rfl rfl (fun a F w=>rPk F rfl rfl) H qq0 ?_)))))))));clear F a;intro a F;refine Xp (k:=13) ?_;refine hK3 _ _ ?_;clear hK3;refine MQ F rfl ?_;refine cSR fun K4 hK4=>Xa F rfl (qNK hK4 ?_);clear hK4;clear F a;intro a F;refine wp_ret ?_;simp only [Exit.then];refine JI results33 F rfl ?_
  refine ⟨Np ?_,H.below⟩
  clear F H
  exact Xfw (Bool.eq_false_iff.2 fun hh=>(known_of.1 hh).1 h14)
 replace h14:=of_decide_eq_false h14;refine Xj 3 rfl F rfl (fun w=>rMv F rfl) H qq0 (Xm 4 rfl rfl (fun a F w=>Q0 F rfl rfl (DY (y:=3))) H qq0 (Xm 5 rfl rfl (fun a F w=>rPk F rfl rfl) H qq0 (Xm 6 rfl rfl (fun a F w=>rMv F rfl) H qq0 ?_)));clear F a;intro a F
 refine F.split 18 rfl ?_ ?_ <;> (clear F;intro h18 F)
 ·
  replace h18:=of_decide_eq_true h18;refine Xz 7 rfl F rfl H qq0 (XA 8 rfl rfl H qq0 (XA 9 rfl rfl H qq0 (XA 10 rfl rfl H qq0 (XA 11 rfl rfl H qq0 (Xm 12 rfl rfl (fun a F w=>rPk F rfl rfl) H qq0 ?_)))));clear F a;intro a F;refine Xp (k:=13) ?_;refine hK3 _ _ ?_;clear hK3;refine MQ F rfl ?_;refine cSR fun K5 hK5=>Xa F rfl (qNK hK5 ?_);clear hK5;clear F a;intro a F;refine wp_ret ?_;simp only [Exit.then];refine JI results33 F rfl ?_
  refine ⟨Np ?_,H.below⟩
  clear F H
  exact Xfw (Bool.eq_false_iff.2 fun hh=>(known_of.1 hh).2 h18)
 replace h18:=of_decide_eq_false h18
 refine Xk (k:=7) (i:=7) rfl F rfl rfl (fun w H=>rLr XM rfl ?si F rfl (H.whole 1 rfl)) H (fun _ _ _ h=>h) ?_
 case si=>exact Jz Ya
 clear F a;intro a F;refine Xv 8 rfl F rfl rfl (fun w H=>Nt XG rfl XL F rfl (H.whole 0 rfl)) H qq0 ?_;clear F a;intro a F;refine Xn (k:=9) (i:=9) rfl F (J3 call43 F rfl rfl (Mj s _) (gG H ?_));clear F a H;intro a w F H;refine JR H ?_;refine Xn (k:=10) (i:=10) rfl F (J3 call65 F rfl rfl (DH _ p _ (hP0.own H) hd (Qf s)) (gG H ?_));clear F a H;intro a w F H;refine Xo H ?_;refine Xj 11 rfl F rfl (fun w=>Xg5 F rfl) H qq0 (Xm 12 rfl rfl (fun a F w=>rPk F rfl rfl) H qq0 ?_);clear F a;intro a F;refine Xp (k:=13) ?_;refine hK3 _ _ ?_;clear hK3
 refine cIf F rfl (fun h24=>?_) (fun h24=>?_)
 ·
  replace h24:=N1 h24;refine cSR fun K6 hK6=>Xa F rfl (qNK hK6 ?_);clear hK6;clear F a;intro a F;refine wp_ret ?_;simp only [Exit.then];refine JI results33 F rfl ?_
  refine ⟨Np ?_,H.below⟩
  clear F H
  exact Xix h24
 replace h24:=N2 h24
 have hk:QS mc=true:=known_of.2 ⟨h14,h18⟩
 have hr:Qi p (Qf s)=true:=h24
 refine wp_skip (hK2 _ _ (cSR fun K7 hK7=>Xa F rfl (qNK hK7 ?_)));clear hK2 hK7;clear F a;intro a F;refine JD (fun K8 hK8=>?_);refine cSR fun K9 hK9=>Xa F rfl (qNK hK9 ?_);clear hK9;clear F a;intro a F;refine wp_block ?_
 refine JN [1,3,5] (fun m ups w=>∃ (j n:Nat),m=4 - j∧ups=[(7,.int .i64 ((n:Nat):Int)),(8,.int .i64 ((j:Nat):Int))]∧j≤4∧n≤100 * j∧(n=0 ↔ ∀ i,i < j→Nd p mc s i=true)∧Own w0 none w [.blk b5 (bs 142 s) 60,.blk b3 ([.string p.name,.slice LA p.locs.length LC,.slice IA p.init.length IC,.slice TA p.threads.length TC,YtcpehikcegoojaaGreatDoor.b8 p.ask]++[c1,c2,c3,c4,c5]) 29]) F (4) [(7,.int .i64 ((0:Nat):Int)),(8,.int .i64 ((0:Nat):Int))] ?_ ?_
 · exact ⟨0,0,rfl,rfl,by omega,by omega,⟨fun _ i hi=>absurd hi (by omega),fun _=>rfl⟩,H.sel [0,1] rfl rfl⟩
 clear F
 clear H
 intro m ups a w hI F
 obtain ⟨j,n,rfl,rfl,hj,hn,hz,H⟩:=hI
 refine JD (fun K10 hK10=>?_);refine cSR fun K11 hK11=>Xf F rfl (Xe rfl rfl QF (qNK hK11 ?_));clear hK11;clear F a;intro a F
 refine cIf F rfl (fun h26=>?_) (fun h26=>?_)
 ·
  replace h26:=of_decide_eq_true h26
  have hj4:j < 4:=by omega
  refine wp_skip (hK10 _ _ ?_);clear hK10;refine JD (fun K12 hK12=>?_);refine wp_block ?_;refine cSR fun K13 hK13=>Xf F rfl (Xr (f:=3) (k:=138) XG rfl Yh rfl rfl rfl ?_);clear F a;intro a F
  refine MP X8 XH F rfl rfl rfl rfl ?_ ?_
  focus (omega)
  clear F a;intro a F;refine sLd XJ F rfl rfl rfl (H.ce' 0 rfl) (qCv XO XT rfl rfl rfl (QG _) (Xd rfl (qNK hK13 ?_)));clear hK13;clear F a;intro a F
  refine Mx [1,3,5,8,9] (fun ups w=>∃ n1:Nat,ups=[(7,.int .i64 ((n1:Nat):Int))]∧n1≤n+1∧(n1=0 ↔ (∀ i,i < j→Nd p mc s i=true)∧¬ Xco mc s j)∧Own w0 none w [.blk b5 (bs 142 s) 60,.blk b3 ([.string p.name,.slice LA p.locs.length LC,.slice IA p.init.length IC,.slice TA p.threads.length TC,YtcpehikcegoojaaGreatDoor.b8 p.ask]++[c1,c2,c3,c4,c5]) 29]) F ?_ ?_
  ·
   refine cSR fun K14 hK14=>Xf F rfl (Xh rfl (Xr (f:=0) (k:=0) XG rfl Yc rfl rfl rfl ?_));clear F a;intro a F
   refine Ed XW XN F rfl rfl rfl rfl ?_ ?_
   focus (omega)
   clear F a;intro a F;refine Xe2 (f:=0) XK rfl XH rfl rfl F rfl rfl rfl (Xc XJ rfl (H.ce' 0 rfl) (qCv XO XT rfl rfl rfl (QG _) (Xe rfl rfl L3 (Xh rfl ?_))));clear F a;intro a F
   refine F.split 42 rfl ?_ ?_ <;> (clear F;intro h42 F)
   ·
    replace h42:=of_decide_eq_true h42;refine XB F (XC (XC (XC (XC (XC (Xy rfl rfl (qNK hK14 ?_)))))));clear hK14;clear F a;intro a F;refine MQ F rfl ?_;refine JY (Xf F rfl ?_);clear F a;intro a F
    refine Xg F rfl rfl (JJ (j:=1) ?_) ?_
    focus omega
    clear F a;intro a F;refine Xa F rfl ?_;clear F a;intro a F;refine J4 ?_
    exact ⟨_,⟨n+1,rfl,by omega,Ex (fun hh=>hh (.inl (by have:=hmy j;omega))),H.sel [0,1] rfl rfl⟩,F.tt⟩
   replace h42:=of_decide_eq_false h42;refine Xf F rfl (Xe rfl rfl L3 (Xh rfl ?_));clear F a;intro a F
   refine F.split 45 rfl ?_ ?_ <;> (clear F;intro h45 F)
   ·
    replace h45:=of_decide_eq_true h45;refine Xf F rfl (Xe rfl rfl (JL (y:=1)) (Xy rfl rfl (Xy rfl rfl (qNK hK14 ?_))));clear hK14;clear F a;intro a F
    refine cIf F rfl (fun h49=>?_) (fun h49=>?_)
    ·
     replace h49:=J1 h49;refine JY (Xf F rfl ?_);clear F a;intro a F
     refine Xg F rfl rfl (JJ (j:=1) ?_) ?_
     focus omega
     clear F a;intro a F;refine Xa F rfl ?_;clear F a;intro a F;refine J4 ?_
     exact ⟨_,⟨n+1,rfl,by omega,Ex (fun hh=>hh (.inr ⟨by have:=hmy j;omega,h49⟩)),H.sel [0,1] rfl rfl⟩,F.tt⟩
    replace h49:=J2 h49;refine wp_skip ?_
    exact ⟨_,⟨n,rfl,by omega,Nn hz (fun hh=>hh.elim (fun hh=>by have:=hmy j;omega) (fun hh=>h49 hh.2)),H.sel [0,1] rfl rfl⟩,F.tt⟩
   replace h45:=of_decide_eq_false h45;refine XB F (XC (Xy rfl rfl (Xy rfl rfl (qNK hK14 ?_))));clear hK14;clear F a;intro a F;refine LB F rfl ?_;refine wp_skip ?_
   exact ⟨_,⟨n,rfl,by omega,Nn hz (fun hh=>by have:=hmy j;rcases hh with hh | hh <;> omega),H.sel [0,1] rfl rfl⟩,F.tt⟩
  clear F H
  intro ups a w hI F
  obtain ⟨n1,rfl,hn1,hz1,H⟩:=hI
  refine cSR fun K15 hK15=>Xa F rfl (qNK hK15 ?_);clear hK15;clear F a;intro a F;refine wp_block ?_
  refine JN [1,3,5,8,9] (fun m ups w=>∃ (k n2:Nat),m=12 - k∧ups=[(7,.int .i64 ((n2:Nat):Int)),(10,.int .i64 ((k:Nat):Int))]∧k≤12∧n2≤n1+4 * k∧(n2=0 ↔ ((∀ i,i < j→Nd p mc s i=true)∧¬ Xco mc s j)∧∀ i,i < k→¬ DQ s j i∧¬ DX p s j i∧¬ DP mc s j i)∧Own w0 none w [.blk b5 (bs 142 s) 60,.blk b3 ([.string p.name,.slice LA p.locs.length LC,.slice IA p.init.length IC,.slice TA p.threads.length TC,YtcpehikcegoojaaGreatDoor.b8 p.ask]++[c1,c2,c3,c4,c5]) 29]) F (12) [(7,.int .i64 ((n1:Nat):Int)),(10,.int .i64 ((0:Nat):Int))] ?_ ?_
  · exact ⟨0,n1,rfl,rfl,by omega,by omega,⟨fun e=>⟨hz1.1 e,fun i hi=>absurd hi (by omega)⟩,fun e=>hz1.2 e.1⟩,H.sel [0,1] rfl rfl⟩
  clear F
  clear H
  intro m ups a w hI F
  obtain ⟨k,n2,rfl,rfl,hk2,hn2,hz2,H⟩:=hI
  refine JD (fun K16 hK16=>?_);refine cSR fun K17 hK17=>Xf F rfl (Xe rfl rfl QF (qNK hK17 ?_));clear hK17;clear F a;intro a F
  refine cIf F rfl (fun h53=>?_) (fun h53=>?_)
  ·
   replace h53:=of_decide_eq_true h53
   have hk12:k < 12:=by omega
   have t1:=(cut s (42+j * 24+k * 2) 0).toNat_lt
   have t2:=(cut s (42+j * 24+k * 2) 1).toNat_lt
   refine wp_skip (hK16 _ _ ?_);clear hK16;refine JD (fun K18 hK18=>?_);refine wp_block ?_;refine cSR fun K19 hK19=>Xf F rfl (Xh rfl (Xr (f:=2) (k:=42) XG rfl Yb rfl rfl rfl ?_));clear F a;intro a F
   refine sIa XZ Yi F rfl rfl rfl rfl ?_ ?_
   focus (omega)
   clear F a;intro a F
   refine sIa X2 XS F rfl rfl rfl rfl ?_ ?_
   focus (omega)
   clear F a;intro a F;refine Xs XQ rfl XS F rfl (H.ra' 0 _ 2 rfl) ?_;clear F a;intro a F;refine Mo H Xeg F rfl rfl ?_;clear F a H;intro b11 a w F H;refine Xt H 0 XS F rfl rfl rfl ?_;clear H;intro w H;rw [JE] at H;refine nK hK19 ?_;clear hK19
   refine Mx [1,3,5,8,9,10,11] (fun ups w=>∃ n3:Nat,ups=[(7,.int .i64 ((n3:Nat):Int))]∧n3≤n2+1∧(n3=0 ↔ (((∀ i,i < j→Nd p mc s i=true)∧¬ Xco mc s j)∧∀ i,i < k→¬ DQ s j i∧¬ DX p s j i∧¬ DP mc s j i)∧¬ DQ s j k)∧Own w0 none w [.blk b11 (bs 2 (cut s (42+j * 24+k * 2))) 55,.blk b5 (bs 142 s) 60,.blk b3 ([.string p.name,.slice LA p.locs.length LC,.slice IA p.init.length IC,.slice TA p.threads.length TC,YtcpehikcegoojaaGreatDoor.b8 p.ask]++[c1,c2,c3,c4,c5]) 29]) F ?_ ?_
   ·
    refine cSR fun K20 hK20=>Xf F rfl (Xh rfl (Xe rfl rfl Cb (Xh rfl ?_)));clear F a;intro a F
    refine F.split 65 rfl ?_ ?_ <;> (clear F;intro h65 F)
    ·
     replace h65:=of_decide_eq_true h65;refine Xb (f:=0) (k:=0) XQ rfl XH rfl rfl F rfl (Xc XJ rfl (H.ce' 0 rfl) (qCv XO XT rfl rfl rfl (QG _) (Xr (f:=1) (k:=1) XQ rfl XH rfl rfl rfl (Xc XJ rfl (H.ce' 0 rfl) (qCv XO XT rfl rfl rfl (QG _) ?_)))));clear F a;intro a F
     refine Xg F rfl rfl (JJ ?_) ?_
     focus omega
     clear F a;intro a F;refine Xg F rfl rfl L3 (Xy rfl rfl (qNK hK20 ?_));clear hK20;clear F a;intro a F
     refine cIf F rfl (fun h74=>?_) (fun h74=>?_)
     ·
      replace h74:=of_decide_eq_true h74;refine JY (Xf F rfl ?_);clear F a;intro a F
      refine Xg F rfl rfl (JJ (j:=1) ?_) ?_
      focus omega
      clear F a;intro a F;refine Xa F rfl ?_;clear F a;intro a F;refine J4 ?_
      have hA:DQ s j k ↔ (s (138+j)).toNat≤k∧0 < (s (42+j * 24+k * 2)).toNat+(s (42+j * 24+k * 2+1)).toNat:=Iff.rfl
      exact ⟨_,⟨n2+1,rfl,by omega,Ex (fun hh=>hh (hA.2 ⟨by omega,by simp only [cut,Nat.add_zero] at h74;omega⟩)),H.sel [0,1,2] rfl rfl⟩,F.tt⟩
     replace h74:=of_decide_eq_false h74;refine wp_skip ?_
     have hA:DQ s j k ↔ (s (138+j)).toNat≤k∧0 < (s (42+j * 24+k * 2)).toNat+(s (42+j * 24+k * 2+1)).toNat:=Iff.rfl
     exact ⟨_,⟨n2,rfl,by omega,Nn hz2 (fun hh=>by have:=hA.1 hh;simp only [cut,Nat.add_zero] at h74;omega),H.sel [0,1,2] rfl rfl⟩,F.tt⟩
    replace h65:=of_decide_eq_false h65;refine XB F (XC (XC (XC (XC (XC (XC (XC (Xy rfl rfl (qNK hK20 ?_)))))))));clear hK20;clear F a;intro a F;refine LB F rfl ?_;refine wp_skip ?_
    have hA:DQ s j k ↔ (s (138+j)).toNat≤k∧0 < (s (42+j * 24+k * 2)).toNat+(s (42+j * 24+k * 2+1)).toNat:=Iff.rfl
    exact ⟨_,⟨n2,rfl,by omega,Nn hz2 (fun hh=>by have:=hA.1 hh;omega),H.sel [0,1,2] rfl rfl⟩,F.tt⟩
   clear F H
   intro ups a w hI F
   obtain ⟨n3,rfl,hn3,hz3,H⟩:=hI
   refine Mx [1,3,5,8,9,10,11] (fun ups w=>∃ n4:Nat,ups=[(7,.int .i64 ((n4:Nat):Int))]∧n4≤n3+1∧(n4=0 ↔ ((((∀ i,i < j→Nd p mc s i=true)∧¬ Xco mc s j)∧∀ i,i < k→¬ DQ s j i∧¬ DX p s j i∧¬ DP mc s j i)∧¬ DQ s j k)∧¬ DX p s j k)∧Own w0 none w [.blk b11 (bs 2 (cut s (42+j * 24+k * 2))) 55,.blk b5 (bs 142 s) 60,.blk b3 ([.string p.name,.slice LA p.locs.length LC,.slice IA p.init.length IC,.slice TA p.threads.length TC,YtcpehikcegoojaaGreatDoor.b8 p.ask]++[c1,c2,c3,c4,c5]) 29]) F ?_ ?_
   ·
    refine cSR fun K21 hK21=>Xf F rfl (Xh rfl (Xe rfl rfl QF (Xh rfl ?_)));clear F a;intro a F
    refine F.split 80 rfl ?_ ?_ <;> (clear F;intro h80 F)
    ·
     replace h80:=of_decide_eq_true h80;refine Xb (f:=0) (k:=0) XQ rfl XH rfl rfl F rfl (Xc XJ rfl (H.ce' 0 rfl) (qCv XO XT rfl rfl rfl (QG _) (Xr (f:=1) (k:=1) XM rfl Yw rfl rfl rfl (Xc Yy rfl (H.cell 2 rfl rfl) (Xx Yk rfl (Xe rfl rfl Cb (Xy rfl rfl (qNK hK21 ?_))))))));clear hK21;clear F a;intro a F
     refine cIf F rfl (fun h88=>?_) (fun h88=>?_)
     ·
      replace h88:=of_decide_eq_true h88;refine JY (Xf F rfl ?_);clear F a;intro a F
      refine Xg F rfl rfl (JJ (j:=1) ?_) ?_
      focus omega
      clear F a;intro a F;refine Xa F rfl ?_;clear F a;intro a F;refine J4 ?_
      have hB:DX p s j k ↔ k < (s (138+j)).toNat∧p.locs.length≤(s (42+j * 24+k * 2)).toNat:=Iff.rfl
      exact ⟨_,⟨n3+1,rfl,by omega,Ex (fun hh=>hh (hB.2 ⟨by omega,by simp only [cut,Nat.add_zero] at h88;omega⟩)),H.sel [0,1,2] rfl rfl⟩,F.tt⟩
     replace h88:=of_decide_eq_false h88;refine wp_skip ?_
     have hB:DX p s j k ↔ k < (s (138+j)).toNat∧p.locs.length≤(s (42+j * 24+k * 2)).toNat:=Iff.rfl
     exact ⟨_,⟨n3,rfl,by omega,Nn hz3 (fun hh=>by have:=hB.1 hh;simp only [cut,Nat.add_zero] at h88;omega),H.sel [0,1,2] rfl rfl⟩,F.tt⟩
    replace h80:=of_decide_eq_false h80;refine XB F (XC (XC (XC (XC (XC (XC (Xy rfl rfl (qNK hK21 ?_))))))));clear hK21;clear F a;intro a F;refine LB F rfl ?_;refine wp_skip ?_
    have hB:DX p s j k ↔ k < (s (138+j)).toNat∧p.locs.length≤(s (42+j * 24+k * 2)).toNat:=Iff.rfl
    exact ⟨_,⟨n3,rfl,by omega,Nn hz3 (fun hh=>by have:=hB.1 hh;omega),H.sel [0,1,2] rfl rfl⟩,F.tt⟩
   clear F H
   intro ups a w hI F
   obtain ⟨n4,rfl,hn4,hz4,H⟩:=hI
   refine JD (fun K22 hK22=>?_);refine Xi H ?_;replace H:=H.drew;refine Xj 0 rfl F rfl (fun w=>rMv F rfl) H qq0 (Xm 1 rfl rfl (fun a F w=>Q0 F rfl rfl (JL (y:=3))) H qq0 (Xm 2 rfl rfl (fun a F w=>rMv F rfl) H qq0 ?_));clear F a;intro a F
   refine F.split 93 rfl ?_ ?_ <;> (clear F;intro h93 F)
   ·
    replace h93:=J1 h93;refine Xj 3 rfl F rfl (fun w=>rMv F rfl) H qq0 (Xm 4 rfl rfl (fun a F w=>Q0 F rfl rfl L3) H qq0 (Xm 5 rfl rfl (fun a F w=>rPk F rfl rfl) H qq0 (Xm 6 rfl rfl (fun a F w=>rMv F rfl) H qq0 ?_)));clear F a;intro a F
    refine F.split 97 rfl ?_ ?_ <;> (clear F;intro h97 F)
    ·
     replace h97:=of_decide_eq_true h97;refine Xj 7 rfl F rfl (fun w=>rMv F rfl) H qq0 (Xm 8 rfl rfl (fun a F w=>rMv F rfl) H qq0 (Xm 9 rfl rfl (fun a F w=>Q0 F rfl rfl QF) H qq0 (Xm 10 rfl rfl (fun a F w=>rPk F rfl rfl) H qq0 (Xm 11 rfl rfl (fun a F w=>rMv F rfl) H qq0 ?_))));clear F a;intro a F
     refine F.split 102 rfl ?_ ?_ <;> (clear F;intro h102 F)
     ·
      replace h102:=of_decide_eq_true h102;refine Xj 12 rfl F rfl (fun w=>rMv F rfl) H qq0 (Xm 13 rfl rfl (fun a F w=>rMv F rfl) H qq0 ?_);clear F a;intro a F
      refine Xq (k:=14) (i:=14) rfl F rfl (fun w=>Q0 F rfl rfl (Es (j:=1) ?_ ?_)) H (fun _ _ _ h=>h) ?_
      focus omega
      focus omega
      clear F a;intro a F;refine Xj 15 rfl F rfl (fun w=>rFa (f:=2) (k:=42) XG rfl Yb rfl rfl F rfl) H qq0 ?_;clear F a;intro a F
      refine Xq (k:=16) (i:=16) rfl F rfl (fun w=>rIa XZ Yi F rfl rfl ?_) H (fun _ _ _ h=>h) ?_
      focus (omega)
      clear F a;intro a F
      refine Xq (k:=17) (i:=17) rfl F rfl (fun w=>rIa X2 XS F rfl rfl ?_) H (fun _ _ _ h=>h) ?_
      focus (omega)
      clear F a;intro a F;refine Xj 18 rfl F rfl (fun w=>Xct (f:=0) XQ rfl XH rfl rfl F rfl) H qq0 (Xl 19 rfl rfl rfl (fun a F w H=>rLd XJ F rfl (H.ce' 1 rfl)) H qq0 (Xm 20 rfl rfl (fun a F w=>rFa (f:=0) (k:=0) XQ rfl XH rfl rfl F rfl) H qq0 (Xl 21 rfl rfl rfl (fun a F w H=>rLd XJ F rfl (H.ce' 0 rfl)) H qq0 (Xm 22 rfl rfl (fun a F w=>Q0 F rfl rfl DY) H qq0 (Xm 23 rfl rfl (fun a F w=>rPk F rfl rfl) H qq0 ?_)))));clear F a;intro a F;refine Xp (k:=24) ?_;refine hK22 _ _ ?_;clear hK22
      refine cIf F rfl (fun h114=>?_) (fun h114=>?_)
      ·
       replace h114:=of_decide_eq_true h114;refine JY (Xf F rfl ?_);clear F a;intro a F
       refine Xg F rfl rfl (JJ (j:=1) ?_) ?_
       focus omega
       clear F a;intro a F;refine Xa F rfl (qNK hK18 (Ef (Xh rfl ?_)));clear hK18;clear F a;intro a F
       refine Xg F rfl rfl (JJ (j:=1) ?_) ?_
       focus omega
       clear F a;intro a F;refine Xa F rfl ?_;clear F a;intro a F;refine J4 ?_
       have hC:DP mc s j k ↔ mc=3∧0 < k∧k < (s (138+j)).toNat∧JU s j k < JU s j (k - 1):=Iff.rfl
       have hfin:∀ n5:Nat,(n5=0 ↔ (((((∀ i,i < j→Nd p mc s i=true)∧¬ Xco mc s j)∧∀ i,i < k→¬ DQ s j i∧¬ DX p s j i∧¬ DP mc s j i)∧¬ DQ s j k)∧¬ DX p s j k)∧¬ DP mc s j k)→(n5=0 ↔ ((∀ i,i < j→Nd p mc s i=true)∧¬ Xco mc s j)∧∀ i,i < k+1→¬ DQ s j i∧¬ DX p s j i∧¬ DP mc s j i):=fun n5 h5=>by
        rw [h5]
        constructor
        · rintro ⟨⟨⟨⟨q1,q2⟩,q3⟩,q4⟩,q5⟩
          refine ⟨q1,fun i hi=>?_⟩
          rcases Nat.lt_or_ge i k with h | h
          · exact q2 i h
          · obtain rfl:i=k:=by omega
            exact ⟨q3,q4,q5⟩
        · rintro ⟨q1,q2⟩
          have q3:=q2 k (by omega)
          exact ⟨⟨⟨⟨q1,fun i hi=>q2 i (by omega)⟩,q3.1⟩,q3.2.1⟩,q3.2.2⟩
       exact ⟨_,by omega,_,⟨k+1,n4+1,rfl,rfl,hk12,by omega,hfin _ (Ex (fun hh=>hh (hC.2 ⟨h93,by omega,by omega,h114⟩))),H.sel [1,2] rfl rfl⟩,F.tt⟩
      replace h114:=of_decide_eq_false h114;refine wp_skip (hK18 _ _ (JY (Xf F rfl ?_)));clear hK18;clear F a;intro a F
      refine Xg F rfl rfl (JJ (j:=1) ?_) ?_
      focus omega
      clear F a;intro a F;refine Xa F rfl ?_;clear F a;intro a F;refine J4 ?_
      have hC:DP mc s j k ↔ mc=3∧0 < k∧k < (s (138+j)).toNat∧JU s j k < JU s j (k - 1):=Iff.rfl
      have hfin:∀ n5:Nat,(n5=0 ↔ (((((∀ i,i < j→Nd p mc s i=true)∧¬ Xco mc s j)∧∀ i,i < k→¬ DQ s j i∧¬ DX p s j i∧¬ DP mc s j i)∧¬ DQ s j k)∧¬ DX p s j k)∧¬ DP mc s j k)→(n5=0 ↔ ((∀ i,i < j→Nd p mc s i=true)∧¬ Xco mc s j)∧∀ i,i < k+1→¬ DQ s j i∧¬ DX p s j i∧¬ DP mc s j i):=fun n5 h5=>by
       rw [h5]
       constructor
       · rintro ⟨⟨⟨⟨q1,q2⟩,q3⟩,q4⟩,q5⟩
         refine ⟨q1,fun i hi=>?_⟩
         rcases Nat.lt_or_ge i k with h | h
         · exact q2 i h
         · obtain rfl:i=k:=by omega
           exact ⟨q3,q4,q5⟩
       · rintro ⟨q1,q2⟩
         have q3:=q2 k (by omega)
         exact ⟨⟨⟨⟨q1,fun i hi=>q2 i (by omega)⟩,q3.1⟩,q3.2.1⟩,q3.2.2⟩
      exact ⟨_,by omega,_,⟨k+1,n4,rfl,rfl,hk12,by omega,hfin _ (Nn hz4 (fun hh=>h114 (hC.1 hh).2.2.2)),H.sel [1,2] rfl rfl⟩,F.tt⟩
     replace h102:=of_decide_eq_false h102;refine Xz 12 rfl F rfl H qq0 (XA 13 rfl rfl H qq0 (XA 14 rfl rfl H qq0 (XA 15 rfl rfl H qq0 (XA 16 rfl rfl H qq0 (XA 17 rfl rfl H qq0 (XA 18 rfl rfl H qq0 (XA 19 rfl rfl H qq0 (XA 20 rfl rfl H qq0 (XA 21 rfl rfl H qq0 (XA 22 rfl rfl H qq0 (Xm 23 rfl rfl (fun a F w=>rPk F rfl rfl) H qq0 ?_)))))))))));clear F a;intro a F;refine Xp (k:=24) ?_;refine hK22 _ _ ?_;clear hK22;refine LB F rfl ?_;refine wp_skip (hK18 _ _ (JY (Xf F rfl ?_)));clear hK18;clear F a;intro a F
     refine Xg F rfl rfl (JJ (j:=1) ?_) ?_
     focus omega
     clear F a;intro a F;refine Xa F rfl ?_;clear F a;intro a F;refine J4 ?_
     have hC:DP mc s j k ↔ mc=3∧0 < k∧k < (s (138+j)).toNat∧JU s j k < JU s j (k - 1):=Iff.rfl
     have hfin:∀ n5:Nat,(n5=0 ↔ (((((∀ i,i < j→Nd p mc s i=true)∧¬ Xco mc s j)∧∀ i,i < k→¬ DQ s j i∧¬ DX p s j i∧¬ DP mc s j i)∧¬ DQ s j k)∧¬ DX p s j k)∧¬ DP mc s j k)→(n5=0 ↔ ((∀ i,i < j→Nd p mc s i=true)∧¬ Xco mc s j)∧∀ i,i < k+1→¬ DQ s j i∧¬ DX p s j i∧¬ DP mc s j i):=fun n5 h5=>by
      rw [h5]
      constructor
      · rintro ⟨⟨⟨⟨q1,q2⟩,q3⟩,q4⟩,q5⟩
        refine ⟨q1,fun i hi=>?_⟩
        rcases Nat.lt_or_ge i k with h | h
        · exact q2 i h
        · obtain rfl:i=k:=by omega
          exact ⟨q3,q4,q5⟩
      · rintro ⟨q1,q2⟩
        have q3:=q2 k (by omega)
        exact ⟨⟨⟨⟨q1,fun i hi=>q2 i (by omega)⟩,q3.1⟩,q3.2.1⟩,q3.2.2⟩
     exact ⟨_,by omega,_,⟨k+1,n4,rfl,rfl,hk12,by omega,hfin _ (Nn hz4 (fun hh=>by have:=hC.1 hh;omega)),H.sel [1,2] rfl rfl⟩,F.tt⟩
    replace h97:=of_decide_eq_false h97;refine Xz 7 rfl F rfl H qq0 (XA 8 rfl rfl H qq0 (XA 9 rfl rfl H qq0 (Xm 10 rfl rfl (fun a F w=>rPk F rfl rfl) H qq0 (Xm 11 rfl rfl (fun a F w=>rMv F rfl) H qq0 (XA 12 rfl rfl H qq0 (XA 13 rfl rfl H qq0 (XA 14 rfl rfl H qq0 (XA 15 rfl rfl H qq0 (XA 16 rfl rfl H qq0 (XA 17 rfl rfl H qq0 (XA 18 rfl rfl H qq0 (XA 19 rfl rfl H qq0 (XA 20 rfl rfl H qq0 (XA 21 rfl rfl H qq0 (XA 22 rfl rfl H qq0 (Xm 23 rfl rfl (fun a F w=>rPk F rfl rfl) H qq0 ?_))))))))))))))));clear F a;intro a F;refine Xp (k:=24) ?_;refine hK22 _ _ ?_;clear hK22;refine LB F rfl ?_;refine wp_skip (hK18 _ _ (JY (Xf F rfl ?_)));clear hK18;clear F a;intro a F
    refine Xg F rfl rfl (JJ (j:=1) ?_) ?_
    focus omega
    clear F a;intro a F;refine Xa F rfl ?_;clear F a;intro a F;refine J4 ?_
    have hC:DP mc s j k ↔ mc=3∧0 < k∧k < (s (138+j)).toNat∧JU s j k < JU s j (k - 1):=Iff.rfl
    have hfin:∀ n5:Nat,(n5=0 ↔ (((((∀ i,i < j→Nd p mc s i=true)∧¬ Xco mc s j)∧∀ i,i < k→¬ DQ s j i∧¬ DX p s j i∧¬ DP mc s j i)∧¬ DQ s j k)∧¬ DX p s j k)∧¬ DP mc s j k)→(n5=0 ↔ ((∀ i,i < j→Nd p mc s i=true)∧¬ Xco mc s j)∧∀ i,i < k+1→¬ DQ s j i∧¬ DX p s j i∧¬ DP mc s j i):=fun n5 h5=>by
     rw [h5]
     constructor
     · rintro ⟨⟨⟨⟨q1,q2⟩,q3⟩,q4⟩,q5⟩
       refine ⟨q1,fun i hi=>?_⟩
       rcases Nat.lt_or_ge i k with h | h
       · exact q2 i h
       · obtain rfl:i=k:=by omega
         exact ⟨q3,q4,q5⟩
     · rintro ⟨q1,q2⟩
       have q3:=q2 k (by omega)
       exact ⟨⟨⟨⟨q1,fun i hi=>q2 i (by omega)⟩,q3.1⟩,q3.2.1⟩,q3.2.2⟩
    exact ⟨_,by omega,_,⟨k+1,n4,rfl,rfl,hk12,by omega,hfin _ (Nn hz4 (fun hh=>by have:=hC.1 hh;omega)),H.sel [1,2] rfl rfl⟩,F.tt⟩
   replace h93:=J2 h93;refine Xz 3 rfl F rfl H qq0 (XA 4 rfl rfl H qq0 (Xm 5 rfl rfl (fun a F w=>rPk F rfl rfl) H qq0 (Xm 6 rfl rfl (fun a F w=>rMv F rfl) H qq0 (XA 7 rfl rfl H qq0 (XA 8 rfl rfl H qq0 (XA 9 rfl rfl H qq0 (Xm 10 rfl rfl (fun a F w=>rPk F rfl rfl) H qq0 (Xm 11 rfl rfl (fun a F w=>rMv F rfl) H qq0 (XA 12 rfl rfl H qq0 (XA 13 rfl rfl H qq0 (XA 14 rfl rfl H qq0 (XA 15 rfl rfl H qq0 (XA 16 rfl rfl H qq0 (XA 17 rfl rfl H qq0 (XA 18 rfl rfl H qq0 (XA 19 rfl rfl H qq0 (XA 20 rfl rfl H qq0 (XA 21 rfl rfl H qq0 (XA 22 rfl rfl H qq0 (Xm 23 rfl rfl (fun a F w=>rPk F rfl rfl) H qq0 ?_))))))))))))))))))));clear F a;intro a F;refine Xp (k:=24) ?_;refine hK22 _ _ ?_;clear hK22;refine LB F rfl ?_;refine wp_skip (hK18 _ _ (JY (Xf F rfl ?_)));clear hK18;clear F a;intro a F
   refine Xg F rfl rfl (JJ (j:=1) ?_) ?_
   focus omega
   clear F a;intro a F;refine Xa F rfl ?_;clear F a;intro a F;refine J4 ?_
   have hC:DP mc s j k ↔ mc=3∧0 < k∧k < (s (138+j)).toNat∧JU s j k < JU s j (k - 1):=Iff.rfl
   have hfin:∀ n5:Nat,(n5=0 ↔ (((((∀ i,i < j→Nd p mc s i=true)∧¬ Xco mc s j)∧∀ i,i < k→¬ DQ s j i∧¬ DX p s j i∧¬ DP mc s j i)∧¬ DQ s j k)∧¬ DX p s j k)∧¬ DP mc s j k)→(n5=0 ↔ ((∀ i,i < j→Nd p mc s i=true)∧¬ Xco mc s j)∧∀ i,i < k+1→¬ DQ s j i∧¬ DX p s j i∧¬ DP mc s j i):=fun n5 h5=>by
    rw [h5]
    constructor
    · rintro ⟨⟨⟨⟨q1,q2⟩,q3⟩,q4⟩,q5⟩
      refine ⟨q1,fun i hi=>?_⟩
      rcases Nat.lt_or_ge i k with h | h
      · exact q2 i h
      · obtain rfl:i=k:=by omega
        exact ⟨q3,q4,q5⟩
    · rintro ⟨q1,q2⟩
      have q3:=q2 k (by omega)
      exact ⟨⟨⟨⟨q1,fun i hi=>q2 i (by omega)⟩,q3.1⟩,q3.2.1⟩,q3.2.2⟩
   exact ⟨_,by omega,_,⟨k+1,n4,rfl,rfl,hk12,by omega,hfin _ (Nn hz4 (fun hh=>h93 (hC.1 hh).1)),H.sel [1,2] rfl rfl⟩,F.tt⟩
  replace h53:=of_decide_eq_false h53
  obtain rfl:k=12:=by omega
  refine wp_exit ?_;refine hK12 _ _ (JY (Xf F rfl ?_));clear hK12;clear F a;intro a F
  refine Xg F rfl rfl (JJ (j:=1) ?_) ?_
  focus omega
  clear F a;intro a F;refine Xa F rfl ?_;clear F a;intro a F;refine J4 ?_
  refine ⟨_,by omega,_,⟨j+1,n2,rfl,rfl,hj4,by omega,?_,H.sel [0,1] rfl rfl⟩,F.tt⟩
  rw [hz2]
  constructor
  · rintro ⟨⟨q1,q2⟩,q3⟩ i hi
    rcases Nat.lt_or_ge i j with h | h
    · exact q1 i h
    · obtain rfl:i=j:=by omega
      exact (Xb1 hr hj4).2 ⟨q2,q3⟩
  · intro q
    have q2:=(Xb1 hr hj4).1 (q j (by omega))
    exact ⟨⟨fun i hi=>q i (by omega),q2.1⟩,q2.2⟩
 replace h26:=of_decide_eq_false h26
 obtain rfl:j=4:=by omega
 refine wp_exit ?_;refine hK8 _ _ (cSR fun K23 hK23=>Xf F rfl (Xe rfl rfl Mp (Xd rfl (qNK hK23 ?_))));clear hK8 hK23;clear F a;intro a F;refine wp_ret ?_;refine JI results33 F rfl ?_
 refine ⟨Np ?_,H.below⟩
 clear F H
 (by_cases h0:n=0
  · subst h0
    exact (Xiw hk hr (hz.1 rfl)).trans (by simp)
  · have e1:N0 p mc s=false:=Bool.eq_false_iff.2 fun hh=>h0 (hz.2 (fun i hi=>(rightM_iff.1 hh).fits i hi))
    rw [e1]
    simp;omega)
end Go.Proofs.YtcpehikcegoojaaGreatDoor
