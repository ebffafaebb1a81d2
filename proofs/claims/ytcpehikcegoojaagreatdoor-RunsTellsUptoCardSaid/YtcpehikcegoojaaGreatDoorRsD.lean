/-
  WALK2. The reference of layer 14: drained, Moves. Conditions: the program lies in memory; its condition's depth is a Ml that an int holds.
-/
import Derived.Test.YtcpehikcegoojaaGreatDoorJn8
set_option linter.unusedSimpArgs false
set_option linter.unusedVariables false
namespace Go.Proofs.YtcpehikcegoojaaGreatDoor
open Go.Proofs.Tryz
open Go.RowKit
set_option maxRecDepth 100000
theorem MK {l:List (UInt8 × UInt8)} {a i:Nat} (h:i≤a):(l.take i).eraseIdx a=l.take i:=List.eraseIdx_of_length_le (by rw [List.length_take];omega)
theorem Xaa {l:List (UInt8 × UInt8)} {a:Nat} (h:a < l.length):(l.take (a+1)).eraseIdx a=l.take a:=by
 rw [List.eraseIdx_eq_take_drop_succ,List.take_take,Nat.min_eq_left (by omega),List.drop_eq_nil_of_le (by rw [List.length_take];omega),List.append_nil]
theorem C9 {l:List (UInt8 × UInt8)} {a i:Nat} {x:UInt8 × UInt8} (h:a < i) (hx:l[i]? = some x):(l.take (i+1)).eraseIdx a=(l.take i).eraseIdx a++[x]:=by
 have hl:=(List.getElem?_eq_some_iff.1 hx).1
 rw [List.take_add_one,hx]
 exact List.eraseIdx_append_of_lt_length (by rw [List.length_take];omega) [x]
set_option maxHeartbeats 2000000 in
theorem Xdm {p:Prg} {mc:UInt8} {s:By} {t g:Nat} (x:Pss) (w0:World) (hD:DrainOf p mc s t g) (hxt:x.t.toNat=t) (hhit:mc=2∨JU s t g=x.l) (hno:∀ i,i < g→¬ mc=2∧¬ JU s t i=x.l) :
   Calls Tryz.prog 36 #[.agg (bs 142 s).toArray,YtcpehikcegoojaaGreatDoor.b8 mc,.agg x.cells.toArray] w0 fun e w'=>e = .returned (.agg (bs 142 (Qy s t g)).toArray)∧Below w0.heap.size w0 w':=by
 have H:=Own.start w0 none
 have ht:=hD.t4
 have h12:=hD.n12
 have hlt:=hD.lt
 have hl6:=hD.loc6
 have hbl:(QU s t).length=JA s t:=NC s t
 have href:=XgG hD
 rw [← List.eraseIdx_eq_take_drop_succ] at href
 obtain ⟨xt,xd,xl⟩:=x
 replace hxt:xt.toNat=t:=hxt
 subst hxt
 replace hhit:mc=2∨JU s xt.toNat g=xl:=hhit
 replace hno:∀ i,i < g→¬ mc=2∧¬ JU s xt.toNat i=xl:=hno
 rw [show (Pss.mk xt xd xl).cells=[YtcpehikcegoojaaGreatDoor.b8 xt,.bool xd,YtcpehikcegoojaaGreatDoor.b8 xl] from rfl]
 refine JF func36 rfl ntmps36 rfl (fun a F=>?_);refine cSR fun K1 hK1=>?_;refine Mg H F rfl rfl rfl ?_;clear F a H;intro b3 a w F H;refine sBx H F rfl rfl rfl ?_;clear F a H;intro b5 a w F H;refine Mo H N3 F rfl rfl ?_;clear F a H;intro b6 a w F H;refine nK hK1 (cSR fun K2 hK2=>Xb (f:=0) (k:=0) X6 rfl XH rfl rfl F rfl (Xc XJ rfl (H.cell 1 rfl rfl) (qCv XO XT rfl rfl rfl (QG _) (Xd rfl (qNK hK2 (qSR fun K3 hK3=>Nu XG rfl XL rfl rfl rfl (H.whole 2 rfl) (Xh rfl ?_)))))));clear hK1 hK2;clear F a;intro a F;refine Xu call34 F rfl (EK s xt.toNat _ ht h12) ?_;rintro e w ⟨A,c,rfl,H2⟩;replace H:=H.join H2;clear H2;refine ⟨_,rfl,?_⟩;clear F a;intro a F;refine Xa F rfl (qNK hK3 (qSR fun K4 hK4=>Xd rfl ?_));clear hK3;clear F a;intro a F
 replace H:=H.nilRws 55 2
 refine nK hK4 (cSR fun K5 hK5=>Xa F rfl (qNK hK5 ?_));clear hK4 hK5;clear F a;intro a F;refine JD (fun K6 hK6=>?_);refine cSR fun K7 hK7=>Xa F rfl (qNK hK7 ?_);clear hK7;clear F a;intro a F;refine wp_block ?_
 refine JN [1,3,5,6,7,8] (fun m ups w=>∃ (i:Nat) (A9:Option Addr) (c9:Nat) (q:List (UInt8 × UInt8)) (b:Bool),m=JA s xt.toNat - i∧ups=[(9,.slice A9 q.length c9),(10,.bool b),(11,.int .i64 ((i:Nat):Int))]∧b=decide (g < i)∧i≤JA s xt.toNat∧q=((QU s xt.toNat).take i).eraseIdx g∧Own w0 none w [.rws 55 2 (.slice A9 q.length c9) (QN q),.rws 55 2 (.slice A (QU s xt.toNat).length c) (QN (QU s xt.toNat)),.blk b6 (bs 142 zb) 60,.blk b5 [YtcpehikcegoojaaGreatDoor.b8 xt,.bool xd,YtcpehikcegoojaaGreatDoor.b8 xl] 73,.blk b3 (bs 142 (if g < i then put s (36+(JU s xt.toNat g).toNat) (Nm s xt.toNat g) else s)) 60]) F (JA s xt.toNat) [(9,.slice none 0 0),(10,.bool false),(11,.int .i64 ((0:Nat):Int))] ?_ ?_
 · exact ⟨0,none,0,[],false,rfl,rfl,(decide_eq_false (by omega)).symm,Nat.zero_le _,by simp,by rw [if_neg (by omega)];exact H.sel [0,1,2,3,4] rfl rfl⟩
 clear F
 clear H
 intro m ups a w hI F
 obtain ⟨i,A9,c9,q,b,rfl,rfl,hbd,hi,hq,H⟩:=hI
 refine JD (fun K8 hK8=>?_);refine cSR fun K9 hK9=>Xf F rfl (Xh rfl (Xx X4 rfl (Xe rfl rfl QF (qNK hK9 ?_))));clear hK9;clear F a;intro a F
 refine cIf F rfl (fun h21=>?_) (fun h21=>?_)
 ·
  replace h21:=of_decide_eq_true h21
  have him:i < JA s xt.toNat:=by omega
  have hb:(QU s xt.toNat)[i]? = some (JU s xt.toNat i,Nm s xt.toNat i):=by rw [Q7,if_pos him]
  obtain ⟨bL,oL,rfl,hR⟩:=H.rowsAt 1 rfl (QA _) (by decide) i _ (QL hb)
  have hR0:=hR 0 (YtcpehikcegoojaaGreatDoor.b8 (JU s xt.toNat i)) rfl
  rw [Nat.add_zero] at hR0
  have hR1:=hR 1 (YtcpehikcegoojaaGreatDoor.b8 (Nm s xt.toNat i)) rfl
  have hloc6:(JU s xt.toNat i).toNat < 6:=by have:=hD.r.loc ht him;have:=(valid hD.r.prog).locs6;omega
  have hqs:q.length≤12:=by
   rw [hq];refine Nat.le_trans (List.length_eraseIdx_le _ _) ?_
   rw [List.length_take];omega
  refine wp_skip (hK8 _ _ ?_);clear hK8;refine JD (fun K10 hK10=>?_);refine wp_block ?_;refine JD (fun K11 hK11=>?_);refine Xi H ?_;replace H:=H.drew;refine Xj 0 rfl F rfl (fun w=>rMv F rfl) H qq0 (Xm 1 rfl rfl (fun a F w=>Xg5 F rfl) H qq0 (Xm 2 rfl rfl (fun a F w=>rMv F rfl) H qq0 ?_));clear F a;intro a F
  refine F.split 26 rfl ?_ ?_ <;> (clear F;intro h26 F)
  ·
   replace h26:=N1 h26;refine Xj 3 rfl F rfl (fun w=>rMv F rfl) H qq0 (Xm 4 rfl rfl (fun a F w=>Q0 F rfl rfl (JL (y:=2))) H qq0 (Xm 5 rfl rfl (fun a F w=>rMv F rfl) H qq0 ?_));clear F a;intro a F
   refine F.split 29 rfl ?_ ?_ <;> (clear F;intro h29 F)
   ·
    replace h29:=J1 h29;refine Xz 6 rfl F rfl H qq0 (XA 7 rfl rfl H qq0 (XA 8 rfl rfl H qq0 (XA 9 rfl rfl H qq0 (XA 10 rfl rfl H qq0 (XA 11 rfl rfl H qq0 (XA 12 rfl rfl H qq0 (XA 13 rfl rfl H qq0 (Xm 14 rfl rfl (fun a F w=>rPk F rfl rfl) H qq0 (Xm 15 rfl rfl (fun a F w=>rPk F rfl rfl) H qq0 ?_)))))))));clear F a;intro a F;refine Xp (k:=16) ?_;refine hK11 _ _ ?_;clear hK11;refine MQ F rfl ?_;refine JD (fun K12 hK12=>?_);refine Xi H ?_;replace H:=H.drew;refine Xj 0 rfl F rfl (fun w=>rMv F rfl) H qq0 (Xm 1 rfl rfl (fun a F w=>rMv F rfl) H qq0 ?_);clear F a;intro a F
    refine Xq (k:=2) (i:=2) rfl F rfl (fun w=>rIx X4 XS F rfl rfl ?_) H (fun _ _ _ h=>h) ?_
    focus omega
    clear F a;intro a F;refine Xj 3 rfl F rfl (fun w=>Xct (f:=0) XQ rfl XH rfl rfl F rfl) H qq0 (Xl 4 rfl rfl rfl (fun a F w H=>rLd XJ F rfl (by obtain ⟨b',o',g1,g2⟩:=H.rowsAt 1 rfl (QA _) (by decide) i _ (QL hb);cases g1;exact g2 0 (YtcpehikcegoojaaGreatDoor.b8 (JU s xt.toNat i)) rfl)) H qq0 (Xm 5 rfl rfl (fun a F w=>rMv F rfl) H qq0 (Xm 6 rfl rfl (fun a F w=>rMv F rfl) H qq0 ?_)));clear F a;intro a F
    refine Xq (k:=7) (i:=7) rfl F rfl (fun w=>rIx X4 XS F rfl rfl ?_) H (fun _ _ _ h=>h) ?_
    focus omega
    clear F a;intro a F;refine Xj 8 rfl F rfl (fun w=>rFa (f:=1) (k:=_+1) XQ rfl XH rfl rfl F rfl) H qq0 (Xl 9 rfl rfl rfl (fun a F w H=>rLd XJ F rfl (by obtain ⟨b',o',g1,g2⟩:=H.rowsAt 1 rfl (QA _) (by decide) i _ (QL hb);cases g1;exact g2 1 (YtcpehikcegoojaaGreatDoor.b8 (Nm s xt.toNat i)) rfl)) H qq0 (Xm 10 rfl rfl (fun a F w=>rFa (f:=1) (k:=36) XG rfl Yg rfl rfl F rfl) H qq0 ?_));clear F a;intro a F
    refine Xq (k:=11) (i:=11) rfl F rfl (fun w=>XiA Yj XH F rfl rfl ?_) H (fun _ _ _ h=>h) ?_
    focus (omega)
    clear F a;intro a F;refine Xn (k:=12) (i:=12) rfl F (XjP H 4 XH F rfl rfl rfl (by omega) ?_);clear H;intro w H;refine Xo H ?_;refine Xp (k:=13) ?_;refine hK12 _ _ (JY (Xa F rfl (qNK hK10 (Ef (Xh rfl ?_)))));clear hK12 hK10;clear F a;intro a F
    refine Xg F rfl rfl (JJ (j:=1) ?_) ?_
    focus omega
    clear F a;intro a F;refine Xa F rfl ?_;clear F a;intro a F;refine J4 ?_
    have hcase:(i < g∧¬ (mc=2∨JU s xt.toNat i=xl))∨i=g∨g < i:=by
     rcases Nat.lt_trichotomy i g with h | h | h
     · exact .inl ⟨h,fun hh=>by have:=hno i h;rcases hh with hh | hh;exact this.1 hh;exact this.2 hh⟩
     · exact .inr (.inl h)
     · exact .inr (.inr h)
    (have hig:i=g:=by
      rcases hcase with h | h | h
      · exact absurd (.inl (by assumption)) h.2
      · exact h
      · have h0:b=false:=by assumption
        rw [h0] at hbd
        exact absurd h (of_decide_eq_false hbd.symm)
     subst hig;rw [if_neg (by omega)] at H
     exact ⟨_,by omega,_,⟨i+1,A9,c9,q,true,rfl,rfl,(decide_eq_true (by omega)).symm,by omega,by rw [hq,Xaa (by omega),MK (Nat.le_refl _)],by rw [if_pos (by omega)];exact H⟩,F.tt⟩)
   replace h29:=J2 h29;refine Xj 6 rfl F rfl (fun w=>rMv F rfl) H qq0 (Xm 7 rfl rfl (fun a F w=>rMv F rfl) H qq0 ?_);clear F a;intro a F
   refine Xq (k:=8) (i:=8) rfl F rfl (fun w=>rIx X4 XS F rfl rfl ?_) H (fun _ _ _ h=>h) ?_
   focus omega
   clear F a;intro a F;refine Xj 9 rfl F rfl (fun w=>Xct (f:=0) XQ rfl XH rfl rfl F rfl) H qq0 (Xl 10 rfl rfl rfl (fun a F w H=>rLd XJ F rfl (by obtain ⟨b',o',g1,g2⟩:=H.rowsAt 1 rfl (QA _) (by decide) i _ (QL hb);cases g1;exact g2 0 (YtcpehikcegoojaaGreatDoor.b8 (JU s xt.toNat i)) rfl)) H qq0 (Xm 11 rfl rfl (fun a F w=>rFa (f:=2) (k:=2) X6 rfl XH rfl rfl F rfl) H qq0 (Xl 12 rfl rfl rfl (fun a F w H=>rLd XJ F rfl (H.cell 3 rfl rfl)) H qq0 (Xm 13 rfl rfl (fun a F w=>Q0 F rfl rfl JL) H qq0 (Xm 14 rfl rfl (fun a F w=>rPk F rfl rfl) H qq0 (Xm 15 rfl rfl (fun a F w=>rPk F rfl rfl) H qq0 ?_))))));clear F a;intro a F;refine Xp (k:=16) ?_;refine hK11 _ _ ?_;clear hK11
   refine cIf F rfl (fun h39=>?_) (fun h39=>?_)
   ·
    replace h39:=J1 h39;refine JD (fun K13 hK13=>?_);refine Xi H ?_;replace H:=H.drew;refine Xj 0 rfl F rfl (fun w=>rMv F rfl) H qq0 (Xm 1 rfl rfl (fun a F w=>rMv F rfl) H qq0 ?_);clear F a;intro a F
    refine Xq (k:=2) (i:=2) rfl F rfl (fun w=>rIx X4 XS F rfl rfl ?_) H (fun _ _ _ h=>h) ?_
    focus omega
    clear F a;intro a F;refine Xj 3 rfl F rfl (fun w=>Xct (f:=0) XQ rfl XH rfl rfl F rfl) H qq0 (Xl 4 rfl rfl rfl (fun a F w H=>rLd XJ F rfl (by obtain ⟨b',o',g1,g2⟩:=H.rowsAt 1 rfl (QA _) (by decide) i _ (QL hb);cases g1;exact g2 0 (YtcpehikcegoojaaGreatDoor.b8 (JU s xt.toNat i)) rfl)) H qq0 (Xm 5 rfl rfl (fun a F w=>rMv F rfl) H qq0 (Xm 6 rfl rfl (fun a F w=>rMv F rfl) H qq0 ?_)));clear F a;intro a F
    refine Xq (k:=7) (i:=7) rfl F rfl (fun w=>rIx X4 XS F rfl rfl ?_) H (fun _ _ _ h=>h) ?_
    focus omega
    clear F a;intro a F;refine Xj 8 rfl F rfl (fun w=>rFa (f:=1) (k:=_+1) XQ rfl XH rfl rfl F rfl) H qq0 (Xl 9 rfl rfl rfl (fun a F w H=>rLd XJ F rfl (by obtain ⟨b',o',g1,g2⟩:=H.rowsAt 1 rfl (QA _) (by decide) i _ (QL hb);cases g1;exact g2 1 (YtcpehikcegoojaaGreatDoor.b8 (Nm s xt.toNat i)) rfl)) H qq0 (Xm 10 rfl rfl (fun a F w=>rFa (f:=1) (k:=36) XG rfl Yg rfl rfl F rfl) H qq0 ?_));clear F a;intro a F
    refine Xq (k:=11) (i:=11) rfl F rfl (fun w=>XiA Yj XH F rfl rfl ?_) H (fun _ _ _ h=>h) ?_
    focus (omega)
    clear F a;intro a F;refine Xn (k:=12) (i:=12) rfl F (XjP H 4 XH F rfl rfl rfl (by omega) ?_);clear H;intro w H;refine Xo H ?_;refine Xp (k:=13) ?_;refine hK13 _ _ (JY (Xa F rfl (qNK hK10 (Ef (Xh rfl ?_)))));clear hK13 hK10;clear F a;intro a F
    refine Xg F rfl rfl (JJ (j:=1) ?_) ?_
    focus omega
    clear F a;intro a F;refine Xa F rfl ?_;clear F a;intro a F;refine J4 ?_
    have hcase:(i < g∧¬ (mc=2∨JU s xt.toNat i=xl))∨i=g∨g < i:=by
     rcases Nat.lt_trichotomy i g with h | h | h
     · exact .inl ⟨h,fun hh=>by have:=hno i h;rcases hh with hh | hh;exact this.1 hh;exact this.2 hh⟩
     · exact .inr (.inl h)
     · exact .inr (.inr h)
    (have hig:i=g:=by
      rcases hcase with h | h | h
      · exact absurd (.inr (by assumption)) h.2
      · exact h
      · have h0:b=false:=by assumption
        rw [h0] at hbd
        exact absurd h (of_decide_eq_false hbd.symm)
     subst hig;rw [if_neg (by omega)] at H
     exact ⟨_,by omega,_,⟨i+1,A9,c9,q,true,rfl,rfl,(decide_eq_true (by omega)).symm,by omega,by rw [hq,Xaa (by omega),MK (Nat.le_refl _)],by rw [if_pos (by omega)];exact H⟩,F.tt⟩)
   replace h39:=J2 h39;refine JY (Xf F rfl (Xh rfl (Xh rfl ?_)));clear F a;intro a F
   refine sIx X4 XS F rfl rfl rfl rfl ?_ ?_
   focus omega
   clear F a;intro a F;refine Xs XQ rfl XS F rfl (by obtain ⟨b',o',g1,g2⟩:=H.rowsAt 1 rfl (QA _) (by decide) i _ (QL hb);cases g1;exact g2) ?_;clear F a;intro a F;refine Cf H X4 XS Y0 rfl F rfl rfl rfl rfl rfl ?_;clear F a H;intro b57 a w F H
   refine Mq (bytes:=2) H 1 X4 Zh rfl rfl rfl rfl rfl rfl F rfl rfl rfl rfl rfl (H.whole 0 rfl) rfl ?s1 ?s2 ?_
   case s1=>rfl
   case s2=>(rw [Nc];omega)
   clear F a H;intro A58 c58 a w F H;refine Xa F rfl (qNK hK10 (Ef (Xh rfl ?_)));clear hK10;clear F a;intro a F
   refine Xg F rfl rfl (JJ (j:=1) ?_) ?_
   focus omega
   clear F a;intro a F;refine Xa F rfl ?_;clear F a;intro a F;refine J4 ?_
   have hcase:(i < g∧¬ (mc=2∨JU s xt.toNat i=xl))∨i=g∨g < i:=by
    rcases Nat.lt_trichotomy i g with h | h | h
    · exact .inl ⟨h,fun hh=>by have:=hno i h;rcases hh with hh | hh;exact this.1 hh;exact this.2 hh⟩
    · exact .inr (.inl h)
    · exact .inr (.inr h)
   (have hig:i ≠ g:=by
     intro e
     subst e
     have h0:b=false:=hbd.trans (decide_eq_false (by omega))
     rcases hhit with h | h
     · exact absurd h (by assumption)
     · exact absurd h (by assumption)
    have hstep:((QU s xt.toNat).take (i+1)).eraseIdx g=((QU s xt.toNat).take i).eraseIdx g++[(JU s xt.toNat i,Nm s xt.toNat i)]:=by
     rcases Nat.lt_or_ge i g with h | h
     · rw [MK (by omega),MK (by omega),List.take_add_one,hb];rfl
     · exact C9 (by omega) hb
    rw [Lu q (JU s xt.toNat i,Nm s xt.toNat i),Nc] at H F
    have hH:(if g < i+1 then put s (36+(JU s xt.toNat g).toNat) (Nm s xt.toNat g) else s)=if g < i then put s (36+(JU s xt.toNat g).toNat) (Nm s xt.toNat g) else s:=by
     by_cases hh:g < i
     · rw [if_pos hh,if_pos (by omega)]
     · rw [if_neg hh,if_neg (by omega)]
    exact ⟨_,by omega,_,⟨i+1,A58,c58,q++[(JU s xt.toNat i,Nm s xt.toNat i)],b,rfl,rfl,hbd.trans (decide_eq_decide.2 (by omega)),by omega,by rw [hstep,hq],by rw [hH];exact H.tail⟩,F.tt⟩)
  replace h26:=N2 h26;refine Xz 3 rfl F rfl H qq0 (XA 4 rfl rfl H qq0 (XA 5 rfl rfl H qq0 (XA 6 rfl rfl H qq0 (XA 7 rfl rfl H qq0 (XA 8 rfl rfl H qq0 (XA 9 rfl rfl H qq0 (XA 10 rfl rfl H qq0 (XA 11 rfl rfl H qq0 (XA 12 rfl rfl H qq0 (XA 13 rfl rfl H qq0 (XA 14 rfl rfl H qq0 (Xm 15 rfl rfl (fun a F w=>rPk F rfl rfl) H qq0 ?_))))))))))));clear F a;intro a F;refine Xp (k:=16) ?_;refine hK11 _ _ ?_;clear hK11;refine LB F rfl ?_;refine JY (Xf F rfl (Xh rfl (Xh rfl ?_)));clear F a;intro a F
  refine sIx X4 XS F rfl rfl rfl rfl ?_ ?_
  focus omega
  clear F a;intro a F;refine Xs XQ rfl XS F rfl (by obtain ⟨b',o',g1,g2⟩:=H.rowsAt 1 rfl (QA _) (by decide) i _ (QL hb);cases g1;exact g2) ?_;clear F a;intro a F;refine Cf H X4 XS Y0 rfl F rfl rfl rfl rfl rfl ?_;clear F a H;intro b57 a w F H
  refine Mq (bytes:=2) H 1 X4 Zh rfl rfl rfl rfl rfl rfl F rfl rfl rfl rfl rfl (H.whole 0 rfl) rfl ?s1 ?s2 ?_
  case s1=>rfl
  case s2=>(rw [Nc];omega)
  clear F a H;intro A58 c58 a w F H;refine Xa F rfl (qNK hK10 (Ef (Xh rfl ?_)));clear hK10;clear F a;intro a F
  refine Xg F rfl rfl (JJ (j:=1) ?_) ?_
  focus omega
  clear F a;intro a F;refine Xa F rfl ?_;clear F a;intro a F;refine J4 ?_
  have hcase:(i < g∧¬ (mc=2∨JU s xt.toNat i=xl))∨i=g∨g < i:=by
   rcases Nat.lt_trichotomy i g with h | h | h
   · exact .inl ⟨h,fun hh=>by have:=hno i h;rcases hh with hh | hh;exact this.1 hh;exact this.2 hh⟩
   · exact .inr (.inl h)
   · exact .inr (.inr h)
  (have hig:i ≠ g:=by
    intro e
    subst e
    have h0:b=false:=hbd.trans (decide_eq_false (by omega))
    rcases hhit with h | h
    · (have h5:b=true:=by assumption
       rw [h0] at h5;cases h5)
    · (have h5:b=true:=by assumption
       rw [h0] at h5;cases h5)
   have hstep:((QU s xt.toNat).take (i+1)).eraseIdx g=((QU s xt.toNat).take i).eraseIdx g++[(JU s xt.toNat i,Nm s xt.toNat i)]:=by
    rcases Nat.lt_or_ge i g with h | h
    · rw [MK (by omega),MK (by omega),List.take_add_one,hb];rfl
    · exact C9 (by omega) hb
   rw [Lu q (JU s xt.toNat i,Nm s xt.toNat i),Nc] at H F
   have hH:(if g < i+1 then put s (36+(JU s xt.toNat g).toNat) (Nm s xt.toNat g) else s)=if g < i then put s (36+(JU s xt.toNat g).toNat) (Nm s xt.toNat g) else s:=by
    by_cases hh:g < i
    · rw [if_pos hh,if_pos (by omega)]
    · rw [if_neg hh,if_neg (by omega)]
   exact ⟨_,by omega,_,⟨i+1,A58,c58,q++[(JU s xt.toNat i,Nm s xt.toNat i)],b,rfl,rfl,hbd.trans (decide_eq_decide.2 (by omega)),by omega,by rw [hstep,hq],by rw [hH];exact H.tail⟩,F.tt⟩)
 replace h21:=of_decide_eq_false h21
 obtain rfl:i=JA s xt.toNat:=by omega
 rw [← hbl,List.take_length] at hq;rw [if_pos hlt] at H;subst hq;refine wp_exit ?_;refine hK6 _ _ (cSR fun K14 hK14=>Xs XG rfl XL F rfl (H.whole 4 rfl) (Xh rfl (Xh rfl ?_)));clear hK6;clear F a;intro a F
 refine Xu call39 F rfl (Be (put s (36+(JU s xt.toNat g).toNat) (Nm s xt.toNat g)) xt.toNat A9 c9 ((QU s xt.toNat).eraseIdx g) _ ht (by refine Nat.le_trans (List.length_eraseIdx_le _ _) ?_;omega) (H.rowsAt 0 rfl (QA _) (by decide))) ?_
 rintro e w ⟨rfl,hb⟩;replace H:=H.grow hb;clear hb;refine ⟨_,rfl,?_⟩;clear F a;intro a F;refine Xt H 2 XL F rfl rfl rfl ?_;clear H;intro w H;rw [JE] at H;refine nK hK14 ?_;clear hK14;refine wp_ret ?_;refine NE results36 F rfl XG rfl XL H 2 rfl ?_
 exact ⟨by rw [href],H.below⟩
theorem six_of {v:UInt8}:v < 6 ↔ v.toNat < 6:=UInt8.lt_iff_toNat_lt
theorem D5 (l:List Pss) (x:Pss):l.map Pss.cells++[x.cells]=(l++[x]).map Pss.cells:=by rw [List.map_append];rfl
set_option maxHeartbeats 4000000 in
theorem Lw (cs:List Value) (p:Prg) (w0:World) (hP:ProgAt w0 cs p) (hd:Nw p.cond≤9223372036854775807) (mc:UInt8) (s:By) :
   Calls Tryz.prog 21 #[.agg cs.toArray,YtcpehikcegoojaaGreatDoor.b8 mc,.agg (bs 142 s).toArray] w0 fun e w'=>∃ A c,e = .returned (.slice A (Qj p mc s).length c)∧Own w0 none w' [.rws 73 3 (.slice A (Qj p mc s).length c) ((Qj p mc s).map Pss.cells)]:=by
 have H:=Own.start w0 none
 have hP0:=hP
 obtain ⟨LA,LC,IA,IC,TA,TC,h,ccs,hp⟩:=hP
 obtain ⟨c1,c2,c3,c4,c5,rfl⟩:=DM (JT hp.cond)
 have hcs:=hp.cs
 subst hcs;refine JF func21 rfl ntmps21 rfl (fun a F=>?_);refine cSR fun K1 hK1=>?_;refine sBx H F rfl rfl rfl ?_;clear F a H;intro b3 a w F H;refine Mg H F rfl rfl rfl ?_;clear F a H;intro b5 a w F H;refine Xa F rfl (qNK hK1 (qSR fun K2 hK2=>Xd rfl ?_));clear hK1;clear F a;intro a F
 replace H:=H.nilRws 73 3
 refine nK hK2 ?_;clear hK2;refine JD (fun K3 hK3=>?_);refine cSR fun K4 hK4=>?_
 refine Xw XM rfl ?si F rfl (H.whole 2 rfl) ?_
 case si=>exact Jz Ya
 clear F a;intro a F;refine Xf F rfl (Nu XG rfl XL rfl rfl rfl (H.whole 1 rfl) ?_);clear F a;intro a F;refine Xu call33 F rfl (XbB _ p _ (hP0.own H) hd mc s) (gG H ?_);clear F a H;intro a w F H;refine Xav F rfl rfl rfl (qNK hK4 ?_);clear hK4;clear F a;intro a F
 refine cIf F rfl (fun h18=>?_) (fun h18=>?_)
 ·
  replace h18:=N1 h18;refine cSR fun K5 hK5=>Xa F rfl (qNK hK5 ?_);clear hK5;clear F a;intro a F;refine wp_ret ?_;simp only [Exit.then];refine JI results21 F rfl ?_
  (have e:Qj p mc s=[]:=by rw [Qj,h18];rfl
   rw [e]
   exact ⟨none,0,rfl,(H.nilRws _ _).pick 0 rfl⟩)
 replace h18:=N2 h18
 have hr:RightM p mc s:=rightM_iff.1 h18
 have hV4:=(valid hr.prog).thr4
 refine wp_skip (hK3 _ _ ?_);clear hK3;refine JD (fun K6 hK6=>?_);refine cSR fun K7 hK7=>Xa F rfl (qNK hK7 ?_);clear hK7;clear F a;intro a F;refine wp_block ?_
 refine JN [1,3,5] (fun m ups w=>∃ (j:Nat) (A:Option Addr) (c:Nat) (l:List Pss),m=p.threads.length - j∧ups=[(7,.slice A l.length c),(8,.int .i64 ((j:Nat):Int))]∧j≤p.threads.length∧l=QZ p mc s j∧l.length≤100 * j∧Own w0 none w [.rws 73 3 (.slice A l.length c) (l.map Pss.cells),.blk b5 (bs 142 s) 60,.blk b3 ([.string p.name,.slice LA p.locs.length LC,.slice IA p.init.length IC,.slice TA p.threads.length TC,YtcpehikcegoojaaGreatDoor.b8 p.ask]++[c1,c2,c3,c4,c5]) 29]) F (p.threads.length) [(7,.slice none 0 0),(8,.int .i64 ((0:Nat):Int))] ?_ ?_
 · exact ⟨0,none,0,[],rfl,rfl,Nat.zero_le _,rfl,Nat.zero_le _,H.sel [0,1,2] rfl rfl⟩
 clear F
 clear H
 intro m ups a w hI F
 obtain ⟨j,A,c,l,rfl,rfl,hj,hl,hln,H⟩:=hI
 refine JD (fun K8 hK8=>?_);refine cSR fun K9 hK9=>Xf F rfl (Xr (f:=3) (k:=3) XM rfl Yo rfl rfl rfl (Xc Yp rfl (H.cell 2 rfl rfl) (Xx X7 rfl (Xe rfl rfl QF (qNK hK9 ?_)))));clear hK9;clear F a;intro a F
 refine cIf F rfl (fun h23=>?_) (fun h23=>?_)
 ·
  replace h23:=of_decide_eq_true h23
  have hjl:j < p.threads.length:=by omega
  have hj4:j < 4:=by omega
  obtain ⟨tl,htl⟩:∃ l,p.threads[j]? = some l:=⟨_,List.getElem?_eq_getElem hjl⟩
  obtain ⟨bT,oT,BT,CT,rfl,hT1,hT2,hT3⟩:=hp.threads j tl htl
  have hm12:=(hr.many hj4).1
  have hbl:(QU s j).length=JA s j:=NC s j
  have hmy:JA s j=(s (138+j)).toNat:=rfl
  have hen:JP p mc s j=(match tl[(s (j * 9)).toNat]? with | some x=>QQ x mc s j | none=>false):=by
   unfold JP EQ
   rw [htl]
   rfl
  refine wp_skip (hK8 _ _ ?_);clear hK8;refine JD (fun K10 hK10=>?_);refine wp_block ?_;refine cSR fun K11 hK11=>Xs XG rfl XL F rfl (H.whole 1 rfl) (Xh rfl ?_);clear F a;intro a F;refine Xu call34 F rfl (EK s j _ hj4 hm12) ?_;rintro e w ⟨AR,cR,rfl,H2⟩;replace H:=H.join H2;clear H2;refine ⟨_,rfl,?_⟩;clear F a;intro a F;refine Xa F rfl (qNK hK11 (qSR fun K12 hK12=>Xh rfl (Xr (f:=0) (k:=0) XG rfl Yc rfl rfl rfl ?_)));clear hK11;clear F a;intro a F
  refine Ed XW XN F rfl rfl rfl rfl ?_ ?_
  focus (omega)
  clear F a;intro a F;refine Xe2 (f:=0) XK rfl XH rfl rfl F rfl rfl rfl (Xc XJ rfl (H.ce' 2 rfl) (qCv XO XT rfl rfl rfl (QG _) (Xd rfl (qNK hK12 ?_))));clear hK12;clear F a;intro a F
  refine Mx [1,3,5,8,9] (fun ups w=>∃ (A2:Option Addr) (d2:Nat) (l2:List Pss),ups=[(7,.slice A2 l2.length d2)]∧l2=l++(if JP p mc s j=true then [⟨UInt8.ofNat j,false,0⟩] else [])∧l2.length≤100 * j+1∧Own w0 none w [.rws 73 3 (.slice A2 l2.length d2) (l2.map Pss.cells),.rws 55 2 (.slice AR (QU s j).length cR) (QN (QU s j)),.blk b5 (bs 142 s) 60,.blk b3 ([.string p.name,.slice LA p.locs.length LC,.slice IA p.init.length IC,.slice (some ⟨bT,oT,none⟩) p.threads.length TC,YtcpehikcegoojaaGreatDoor.b8 p.ask]++[c1,c2,c3,c4,c5]) 29]) F ?_ ?_
  ·
   refine cSR fun K13 hK13=>Xf F rfl (Xr (f:=3) (k:=3) XM rfl Yo rfl rfl rfl (Xc Yp rfl (H.cell 3 rfl rfl) (Xh rfl ?_)));clear F a;intro a F
   refine sIx X7 YB F rfl rfl rfl rfl ?_ ?_
   focus exact hjl
   clear F a;intro a F;refine sLd YI F rfl rfl rfl (H.arg hT1) (Xx Yl rfl (Xe rfl rfl QF (Xh rfl ?_)));clear F a;intro a F
   refine F.split 43 rfl ?_ ?_ <;> (clear F;intro h43 F)
   ·
    replace h43:=of_decide_eq_true h43
    have hpc:(s (j * 9)).toNat < tl.length:=by omega
    obtain ⟨ix,hix⟩:∃ x,tl[(s (j * 9)).toNat]? = some x:=⟨_,List.getElem?_eq_getElem hpc⟩
    obtain ⟨bI,oI,rfl,hI⟩:=hT2 (s (j * 9)).toNat ix.cells (by rw [List.getElem?_map,hix];rfl)
    rw [hix] at hen
    replace hen:JP p mc s j=(s (138+j) == 0 || !Me ix mc):=hen.trans (XfE (Xja hr.prog htl hix))
    refine Xf F rfl (Xx X4 rfl (Xe rfl rfl Mp (Xh rfl ?_)));clear F a;intro a F
    refine F.split 47 rfl ?_ ?_ <;> (clear F;intro h47 F)
    ·
     replace h47:=J1 h47;refine XB F (XC (XC (XC (XC (XC (XC (XC (XC (XC (XC (Xy rfl rfl (Xy rfl rfl (qNK hK13 ?_)))))))))))));clear hK13;clear F a;intro a F;refine MQ F rfl ?_;refine JY (Xf F rfl (Xh rfl (qCv XT XO rfl rfl rfl (Xe7 _) (qBd (cs:=(Pss.mk (UInt8.ofNat j) false 0).cells) (places:=[(0,1),(1,1),(2,1)]) Ym X6 (by kernel_rfl) rfl rfl rfl rfl ?_))));clear F a;intro a F;refine Cf H XX Yd Ym rfl F rfl rfl rfl rfl rfl ?_;clear F a H;intro b65 a w F H
     refine Mq (bytes:=3) H 2 XX YJ rfl rfl rfl rfl rfl rfl F rfl rfl rfl rfl rfl (H.whole 0 rfl) rfl ?s1 ?s2 ?_
     case s1=>rfl
     case s2=>(rw [List.length_map];omega)
     clear F a H;intro A66 c66 a w F H;refine Xa F rfl ?_;clear F a;intro a F;refine J4 ?_
     (have he:JP p mc s j=true:=by
       have h0:s (138+j)=0:=UInt8.toNat_inj.1 (by show _=0;omega)
       rw [hen,h0,beq_self_eq_true,Bool.true_or]
      rw [D5 l ⟨UInt8.ofNat j,false,0⟩,List.length_map] at H F
      exact ⟨_,⟨A66,c66,l++[⟨UInt8.ofNat j,false,0⟩],rfl,by rw [if_pos he],by rw [List.length_append,List.length_singleton];omega,H.sel [2,1,3,4] rfl rfl⟩,F.tt⟩)
    replace h47:=J2 h47;refine Xb (f:=3) (k:=3) XM rfl Yo rfl rfl F rfl (Xc Yp rfl (H.cell 3 rfl rfl) (Xh rfl ?_));clear F a;intro a F
    refine sIx X7 YB F rfl rfl rfl rfl ?_ ?_
    focus exact hjl
    clear F a;intro a F;refine sLd YI F rfl rfl rfl (H.arg hT1) (Xh rfl ?_);clear F a;intro a F
    refine sIx Yl XP F rfl rfl rfl rfl ?_ ?_
    focus exact hpc
    clear F a;intro a F
    refine Xw XI rfl ?si F rfl (H.argR hI) ?_
    case si=>exact Jz XP
    clear F a;intro a F;refine Xf F rfl ?_;clear F a;intro a F;refine Xu call35 F rfl (Xfb ix mc _) (gG H ?_);clear F a H;intro a w F H;refine Xav F rfl rfl rfl (Xy rfl rfl (Xy rfl rfl (qNK hK13 ?_)));clear hK13;clear F a;intro a F
    refine cIf F rfl (fun h60=>?_) (fun h60=>?_)
    ·
     replace h60:=N1 h60;refine JY (Xf F rfl (Xh rfl (qCv XT XO rfl rfl rfl (Xe7 _) (qBd (cs:=(Pss.mk (UInt8.ofNat j) false 0).cells) (places:=[(0,1),(1,1),(2,1)]) Ym X6 (by kernel_rfl) rfl rfl rfl rfl ?_))));clear F a;intro a F;refine Cf H XX Yd Ym rfl F rfl rfl rfl rfl rfl ?_;clear F a H;intro b65 a w F H
     refine Mq (bytes:=3) H 2 XX YJ rfl rfl rfl rfl rfl rfl F rfl rfl rfl rfl rfl (H.whole 0 rfl) rfl ?s1 ?s2 ?_
     case s1=>rfl
     case s2=>(rw [List.length_map];omega)
     clear F a H;intro A66 c66 a w F H;refine Xa F rfl ?_;clear F a;intro a F;refine J4 ?_
     (have he:JP p mc s j=true:=by rw [hen,show Me ix mc=false by simpa using h60,Bool.not_false,Bool.or_true]
      rw [D5 l ⟨UInt8.ofNat j,false,0⟩,List.length_map] at H F
      exact ⟨_,⟨A66,c66,l++[⟨UInt8.ofNat j,false,0⟩],rfl,by rw [if_pos he],by rw [List.length_append,List.length_singleton];omega,H.sel [2,1,3,4] rfl rfl⟩,F.tt⟩)
    replace h60:=N2 h60;refine wp_skip ?_
    (have he:¬ JP p mc s j=true:=by
      have h0:(s (138+j) == 0)=false:=Bool.eq_false_iff.2 fun hh=>h47 (by have:=congrArg UInt8.toNat (eq_of_beq hh);have e0:(0:UInt8).toNat=0:=rfl;omega)
      rw [hen,h0,show Me ix mc=true by simpa using h60];decide
     exact ⟨_,⟨A,c,l,rfl,by rw [if_neg he,List.append_nil],by omega,H.sel [1,0,2,3] rfl rfl⟩,F.tt⟩)
   replace h43:=of_decide_eq_false h43
   have hpc:tl.length≤(s (j * 9)).toNat:=by omega
   rw [List.getElem?_eq_none hpc] at hen
   replace hen:JP p mc s j=false:=hen
   refine XB F (XC (XC (XC (XC (XC (XC (XC (XC (XC (XC (XC (XC (XC (XC (XC (Xy rfl rfl (qNK hK13 ?_)))))))))))))))));clear hK13;clear F a;intro a F;refine LB F rfl ?_;refine wp_skip ?_
   (have he:¬ JP p mc s j=true:=by rw [hen];decide
    exact ⟨_,⟨A,c,l,rfl,by rw [if_neg he,List.append_nil],by omega,H.sel [1,0,2,3] rfl rfl⟩,F.tt⟩)
  clear F H
  intro ups a w hI F
  obtain ⟨A2,c2',l2,rfl,hl2,hl2n,H⟩:=hI
  refine Mx [1,3,5,8,9] (fun ups w=>∃ (A3:Option Addr) (d3:Nat) (l3:List Pss),ups=[(7,.slice A3 l3.length d3)]∧l3=l2++(if mc=2∧JA s j ≠ 0 then [⟨UInt8.ofNat j,true,0⟩] else [])∧l3.length≤100 * j+2∧Own w0 none w [.rws 73 3 (.slice A3 l3.length d3) (l3.map Pss.cells),.rws 55 2 (.slice AR (QU s j).length cR) (QN (QU s j)),.blk b5 (bs 142 s) 60,.blk b3 ([.string p.name,.slice LA p.locs.length LC,.slice IA p.init.length IC,.slice (some ⟨bT,oT,none⟩) p.threads.length TC,YtcpehikcegoojaaGreatDoor.b8 p.ask]++[c1,c2,c3,c4,c5]) 29]) F ?_ ?_
  ·
   refine cSR fun K14 hK14=>Xf F rfl (Xe rfl rfl (JL (y:=2)) (Xh rfl ?_));clear F a;intro a F
   refine F.split 69 rfl ?_ ?_ <;> (clear F;intro h69 F)
   ·
    replace h69:=J1 h69;refine Xf F rfl (Xx X4 rfl (Xe rfl rfl L3 (Xy rfl rfl (qNK hK14 ?_))));clear hK14;clear F a;intro a F
    refine cIf F rfl (fun h73=>?_) (fun h73=>?_)
    ·
     replace h73:=of_decide_eq_true h73;refine JY (Xf F rfl (Xh rfl (qCv XT XO rfl rfl rfl (Xe7 _) (qBd (cs:=(Pss.mk (UInt8.ofNat j) true 0).cells) (places:=[(0,1),(1,1),(2,1)]) Ym X6 (by kernel_rfl) rfl rfl rfl rfl ?_))));clear F a;intro a F;refine Cf H XX Yd Ym rfl F rfl rfl rfl rfl rfl ?_;clear F a H;intro b78 a w F H
     refine Mq (bytes:=3) H 1 XX YJ rfl rfl rfl rfl rfl rfl F rfl rfl rfl rfl rfl (H.whole 0 rfl) rfl ?s1 ?s2 ?_
     case s1=>rfl
     case s2=>(rw [List.length_map];omega)
     clear F a H;intro A79 c79 a w F H;refine Xa F rfl ?_;clear F a;intro a F;refine J4 ?_
     (have he:mc=2∧JA s j ≠ 0:=⟨h69,by omega⟩
      rw [D5 l2 ⟨UInt8.ofNat j,true,0⟩,List.length_map] at H F
      exact ⟨_,⟨A79,c79,l2++[⟨UInt8.ofNat j,true,0⟩],rfl,by rw [if_pos he],by rw [List.length_append,List.length_singleton];omega,H.sel [1,2,3,4] rfl rfl⟩,F.tt⟩)
    replace h73:=of_decide_eq_false h73;refine wp_skip ?_
    (have he:¬ (mc=2∧JA s j ≠ 0):=fun hh=>by have:=hh.2;omega
     exact ⟨_,⟨A2,c2',l2,rfl,by rw [if_neg he,List.append_nil],by omega,H.sel [0,1,2,3] rfl rfl⟩,F.tt⟩)
   replace h69:=J2 h69;refine XB F (XC (XC (Xy rfl rfl (qNK hK14 ?_))));clear hK14;clear F a;intro a F;refine LB F rfl ?_;refine wp_skip ?_
   (have he:¬ (mc=2∧JA s j ≠ 0):=fun hh=>h69 hh.1
    exact ⟨_,⟨A2,c2',l2,rfl,by rw [if_neg he,List.append_nil],by omega,H.sel [0,1,2,3] rfl rfl⟩,F.tt⟩)
  clear F H
  intro ups a w hI F
  obtain ⟨A3,c3',l3,rfl,hl3,hl3n,H⟩:=hI
  refine cSR fun K15 hK15=>Xa F rfl (qNK hK15 ?_);clear hK15;clear F a;intro a F;refine wp_block ?_
  refine JN [1,3,5,8,9] (fun m ups w=>∃ (v:UInt8) (A4:Option Addr) (c4':Nat) (l4:List Pss),m=6 - v.toNat∧ups=[(7,.slice A4 l4.length c4'),(11,YtcpehikcegoojaaGreatDoor.b8 v)]∧v.toNat≤6∧l4=l3++(if mc=3 then Xe3 s j v.toNat else [])∧l4.length≤100 * j+2+v.toNat∧Own w0 none w [.rws 73 3 (.slice A4 l4.length c4') (l4.map Pss.cells),.rws 55 2 (.slice AR (QU s j).length cR) (QN (QU s j)),.blk b5 (bs 142 s) 60,.blk b3 ([.string p.name,.slice LA p.locs.length LC,.slice IA p.init.length IC,.slice (some ⟨bT,oT,none⟩) p.threads.length TC,YtcpehikcegoojaaGreatDoor.b8 p.ask]++[c1,c2,c3,c4,c5]) 29]) F (6) [(7,.slice A3 l3.length c3'),(11,YtcpehikcegoojaaGreatDoor.b8 0)] ?_ ?_
  · exact ⟨0,A3,c3',l3,rfl,rfl,by decide,by rw [show Xe3 s j (0:UInt8).toNat=[] from rfl,ite_self,List.append_nil],by omega,H.sel [0,1,2,3] rfl rfl⟩
  clear F
  clear H
  intro m ups a w hI F
  obtain ⟨v,A4,c4',l4,rfl,rfl,hv6,hl4,hl4n,H⟩:=hI
  refine JD (fun K16 hK16=>?_);refine cSR fun K17 hK17=>Xf F rfl (Xe rfl rfl (Eu (y:=6)) (Xh rfl ?_));clear F a;intro a F
  refine F.split 82 rfl ?_ ?_ <;> (clear F;intro h82 F)
  ·
   replace h82:=of_decide_eq_true h82;refine Xf F rfl (Xe rfl rfl (JL (y:=3)) (Xy rfl rfl (qNK hK17 ?_)));clear hK17;clear F a;intro a F
   refine cIf F rfl (fun h85=>?_) (fun h85=>?_)
   ·
    replace h85:=J1 h85
    have hv:v.toNat < 6:=six_of.1 h82
    have hm3:mc=3:=h85
    refine wp_skip (hK16 _ _ ?_);clear hK16;refine JD (fun K18 hK18=>?_);refine wp_block ?_;refine cSR fun K19 hK19=>Xa F rfl (qNK hK19 ?_);clear hK19;clear F a;intro a F;refine JD (fun K20 hK20=>?_);refine cSR fun K21 hK21=>Xa F rfl (qNK hK21 ?_);clear hK21;clear F a;intro a F;refine wp_block ?_
    refine JN [1,3,5,7,8,9,11] (fun m ups w=>∃ (k:Nat) (b:Bool),m=JA s j - k∧ups=[(12,.bool b),(13,.int .i64 ((k:Nat):Int))]∧k≤JA s j∧b=((QU s j).take k).any (fun x=>x.1.toNat == v.toNat)∧Own w0 none w [.rws 73 3 (.slice A4 l4.length c4') (l4.map Pss.cells),.rws 55 2 (.slice AR (QU s j).length cR) (QN (QU s j)),.blk b5 (bs 142 s) 60,.blk b3 ([.string p.name,.slice LA p.locs.length LC,.slice IA p.init.length IC,.slice (some ⟨bT,oT,none⟩) p.threads.length TC,YtcpehikcegoojaaGreatDoor.b8 p.ask]++[c1,c2,c3,c4,c5]) 29]) F (JA s j) [(12,.bool false),(13,.int .i64 ((0:Nat):Int))] ?_ ?_
    · exact ⟨0,false,rfl,rfl,Nat.zero_le _,rfl,H.sel [0,1,2,3] rfl rfl⟩
    clear F
    clear H
    intro m ups a w hI F
    obtain ⟨k,b,rfl,rfl,hk,hbv,H⟩:=hI
    refine JD (fun K22 hK22=>?_);refine cSR fun K23 hK23=>Xf F rfl (Xh rfl (Xx X4 rfl (Xe rfl rfl QF (qNK hK23 ?_))));clear hK23;clear F a;intro a F
    refine cIf F rfl (fun h91=>?_) (fun h91=>?_)
    ·
     replace h91:=of_decide_eq_true h91
     have hkm:k < JA s j:=by omega
     have hb:(QU s j)[k]? = some (JU s j k,Nm s j k):=by rw [Q7,if_pos hkm]
     obtain ⟨bL,oL,rfl,hR⟩:=H.rowsAt 1 rfl (QA _) (by decide) k _ (QL hb)
     have hst:((QU s j).take (k+1)).any (fun x=>x.1.toNat == v.toNat)=(b || (JU s j k).toNat == v.toNat):=by rw [List.take_add_one,hb,List.any_append,← hbv];simp
     refine wp_skip (hK22 _ _ ?_);clear hK22;refine JD (fun K24 hK24=>?_);refine wp_block ?_;refine cSR fun K25 hK25=>Xf F rfl (Xh rfl ?_);clear F a;intro a F
     refine sIx X4 XS F rfl rfl rfl rfl ?_ ?_
     focus omega
     clear F a;intro a F;refine Xe2 (f:=0) XQ rfl XH rfl rfl F rfl rfl rfl (Xc XJ rfl (by obtain ⟨b',o',g1,g2⟩:=H.rowsAt 1 rfl (QA _) (by decide) k _ (QL hb);cases g1;exact g2 0 (YtcpehikcegoojaaGreatDoor.b8 (JU s j k)) rfl) (Xh rfl (Xe rfl rfl JL (qNK hK25 ?_))));clear hK25;clear F a;intro a F
     refine cIf F rfl (fun h100=>?_) (fun h100=>?_)
     ·
      replace h100:=J1 h100;refine JY (Xa F rfl (qNK hK24 (Ef (Xh rfl ?_))));clear hK24;clear F a;intro a F
      refine Xg F rfl rfl (JJ (j:=1) ?_) ?_
      focus omega
      clear F a;intro a F;refine Xa F rfl ?_;clear F a;intro a F;refine J4 ?_
      (have e1:((JU s j k).toNat == v.toNat)=true:=beq_iff_eq.2 (congrArg UInt8.toNat (show JU s j k=v from h100))
       exact ⟨_,by omega,_,⟨k+1,true,rfl,rfl,hkm,by rw [hst,e1,Bool.or_true],H.sel [0,1,2,3] rfl rfl⟩,F.tt⟩)
     replace h100:=J2 h100;refine wp_skip (hK24 _ _ (JY (Xf F rfl ?_)));clear hK24;clear F a;intro a F
     refine Xg F rfl rfl (JJ (j:=1) ?_) ?_
     focus omega
     clear F a;intro a F;refine Xa F rfl ?_;clear F a;intro a F;refine J4 ?_
     (have e1:((JU s j k).toNat == v.toNat)=false:=Bool.eq_false_iff.2 fun hh=>h100 (UInt8.toNat_inj.1 (eq_of_beq hh))
      exact ⟨_,by omega,_,⟨k+1,b,rfl,rfl,hkm,by rw [hst,e1,Bool.or_false],H.sel [0,1,2,3] rfl rfl⟩,F.tt⟩)
    replace h91:=of_decide_eq_false h91
    obtain rfl:k=JA s j:=by omega
    rw [← hbl,List.take_length] at hbv
    replace hbv:b=XiG s j v.toNat:=hbv
    have hvs:(v+1).toNat=v.toNat+1:=by rw [UInt8.toNat_add];have e1:(1:UInt8).toNat=1:=rfl;omega
    have hq:=Xf6 s j v.toNat
    rw [UInt8.ofNat_toNat] at hq;refine wp_exit ?_;refine hK20 _ _ (cSR fun K26 hK26=>Xf F rfl (qNK hK26 ?_));clear hK20 hK26;clear F a;intro a F
    refine cIf F rfl (fun h101=>?_) (fun h101=>?_)
    ·
     refine JY (Xf F rfl (Xh rfl (qCv XT XO rfl rfl rfl (Xe7 _) (Xh rfl (qBd (cs:=(Pss.mk (UInt8.ofNat j) true v).cells) (places:=[(0,1),(1,1),(2,1)]) Ym X6 (by kernel_rfl) rfl rfl rfl rfl ?_)))));clear F a;intro a F;refine Cf H XX Yd Ym rfl F rfl rfl rfl rfl rfl ?_;clear F a H;intro b107 a w F H
     refine Mq (bytes:=3) H 1 XX YJ rfl rfl rfl rfl rfl rfl F rfl rfl rfl rfl rfl (H.whole 0 rfl) rfl ?s1 ?s2 ?_
     case s1=>rfl
     case s2=>(rw [List.length_map];omega)
     clear F a H;intro A108 c108 a w F H;refine Xa F rfl (qNK hK18 (Ef (Xh rfl (Xe rfl rfl (ND (y:=1)) (Xd rfl ?_)))));clear hK18;clear F a;intro a F;refine J4 ?_
     (have hh:XiG s j v.toNat=true:=by rw [← hbv];exact h101
      rw [D5 l4 ⟨UInt8.ofNat j,true,v⟩,List.length_map] at H F
      exact ⟨_,by omega,_,⟨v+1,A108,c108,l4++[⟨UInt8.ofNat j,true,v⟩],rfl,rfl,by omega,by rw [hvs,hq,if_pos hh,hl4,if_pos hm3,if_pos hm3,List.append_assoc],by rw [List.length_append,List.length_singleton];omega,H.sel [1,2,3,4] rfl rfl⟩,F.tt⟩)
    refine wp_skip (hK18 _ _ (JY (Xf F rfl (Xe rfl rfl (ND (y:=1)) (Xd rfl ?_)))));clear hK18;clear F a;intro a F;refine J4 ?_
    (have hh:¬ XiG s j v.toNat=true:=by rw [← hbv];simpa using h101
     exact ⟨_,by omega,_,⟨v+1,A4,c4',l4,rfl,rfl,by omega,by rw [hvs,hq,if_neg hh,List.append_nil,hl4],by omega,H.sel [0,1,2,3] rfl rfl⟩,F.tt⟩)
   replace h85:=J2 h85;refine wp_exit ?_;refine hK10 _ _ (JY (Xf F rfl ?_));clear hK10;clear F a;intro a F
   refine Xg F rfl rfl (JJ (j:=1) ?_) ?_
   focus omega
   clear F a;intro a F;refine Xa F rfl ?_;clear F a;intro a F;refine J4 ?_
   have hv3:(if mc=3 then Xe3 s j v.toNat else [])=if mc=3 then Xe3 s j 6 else []:=by
    by_cases h3:mc=3
    · exact absurd h3 h85
    · rw [if_neg h3,if_neg h3]
   have hfin:l4=QZ p mc s (j+1):=by
    rw [QZ,← XbN hr hj4,XdX,hl4,hv3,hl3,hl2,hl]
    simp only [List.append_assoc]
   exact ⟨_,by omega,_,⟨j+1,A4,c4',l4,rfl,rfl,hjl,hfin,by omega,H.sel [0,2,3] rfl rfl⟩,F.tt⟩
  replace h82:=of_decide_eq_false h82;refine XB F (XC (Xy rfl rfl (qNK hK17 ?_)));clear hK17;clear F a;intro a F;refine LB F rfl ?_;refine wp_exit ?_;refine hK10 _ _ (JY (Xf F rfl ?_));clear hK10;clear F a;intro a F
  refine Xg F rfl rfl (JJ (j:=1) ?_) ?_
  focus omega
  clear F a;intro a F;refine Xa F rfl ?_;clear F a;intro a F;refine J4 ?_
  have hv3:(if mc=3 then Xe3 s j v.toNat else [])=if mc=3 then Xe3 s j 6 else []:=by
   by_cases h3:mc=3
   · (have h6:v.toNat=6:=by
       have:=mt six_of.2 h82
       omega
      rw [h6])
   · rw [if_neg h3,if_neg h3]
  have hfin:l4=QZ p mc s (j+1):=by
   rw [QZ,← XbN hr hj4,XdX,hl4,hv3,hl3,hl2,hl]
   simp only [List.append_assoc]
  exact ⟨_,by omega,_,⟨j+1,A4,c4',l4,rfl,rfl,hjl,hfin,by omega,H.sel [0,2,3] rfl rfl⟩,F.tt⟩
 replace h23:=of_decide_eq_false h23
 obtain rfl:j=p.threads.length:=by omega
 replace hl:l=Qj p mc s:=by rw [hl,Qj,h18];rfl
 subst hl;refine wp_exit ?_;refine hK6 _ _ (cSR fun K27 hK27=>Xf F rfl (Xd rfl (qNK hK27 ?_)));clear hK6 hK27;clear F a;intro a F;refine wp_ret ?_;refine JI results21 F rfl ?_
 exact ⟨A,c,rfl,H.pick 0 rfl⟩
end Go.Proofs.YtcpehikcegoojaaGreatDoor
