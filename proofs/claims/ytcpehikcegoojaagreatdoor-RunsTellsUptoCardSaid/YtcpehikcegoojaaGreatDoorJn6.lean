/-
  WALK2. The reference's Right. Conditions: the program lies in memory, and its condition's depth is a Ml that an int holds.
-/
import Derived.Test.YtcpehikcegoojaaGreatDoorRfB
import Derived.Test.YtcpehikcegoojaaGreatDoorRefK
import Derived.Test.YtcpehikcegoojaaGreatDoorCkL
import Derived.Test.YtcpehikcegoojaaGreatDoorAtK
set_option linter.unusedSimpArgs false
set_option linter.unusedVariables false
namespace Go.Proofs.YtcpehikcegoojaaGreatDoor
-- RfC
open Go.Proofs.Tryz
open Go.RowKit
set_option maxRecDepth 100000
abbrev B8:=b8
section
variable {p:Prg}
theorem re70 (h:QC p.name=false):JH p=70:=by simp [JH,QH,Q6,Mw,h]
theorem Xj6 (h0:QC p.name=true) (h:QR p=false):JH p=71:=by simp [JH,QH,Q6,Mw,h,h0]
theorem re72 (h0:QC p.name=true) (h1:QR p=true) (h:JS p=false):JH p=72:=by simp [JH,QH,Q6,Mw,h,h0,h1]
theorem re73 (h0:QC p.name=true) (h1:QR p=true) (h2:JS p=true) (h:Q8 p=false):JH p=73:=by simp [JH,QH,Q6,Mw,h,h0,h1,h2]
theorem re75 (h0:QC p.name=true) (h1:QR p=true) (h2:JS p=true) (h3:Q8 p=true) (h:LX p=false):JH p=75:=by simp [JH,QH,Q6,Mw,h,h0,h1,h2,h3]
theorem re74 (h0:QC p.name=true) (h1:QR p=true) (h2:JS p=true) (h3:Q8 p=true) (h4:LX p=true) (h:Qs p.threads.length p.locs.length 20 p.cond=false):JH p=74:=by simp [JH,QH,Q6,Mw,h,h0,h1,h2,h3,h4]
theorem re0 (h0:QC p.name=true) (h1:QR p=true) (h2:JS p=true) (h3:Q8 p=true) (h4:LX p=true) (h:Qs p.threads.length p.locs.length 20 p.cond=true):JH p=0:=by simp [JH,QH,Q6,h,h0,h1,h2,h3,h4]
end
theorem XjH (m:UInt8):(m == 1 || m == 2 || m == 3)=(decide (1≤m) && decide (m≤3)):=(fn13 m).symm
theorem Xaz {s:ByteArray} {w w':World} {e:Ending} (h:Li s w e w'):∃ (sv:Value) (p:Nat) (f:Int),e = .returned (.tuple #[sv,.int .i64 (p:Int),.int .i64 f])∧Below w.heap.size w w' ∧
   ((f=0∧QI s=none∧w'.ownsRow w.heap.size 98 3 sv (MS s).length (Nk (MS s)))∨(f ≠ 0∧QI s ≠ none∧sv = .slice none 0 0)):=by
 obtain ⟨h1,⟨p,f,h2,h3⟩ | ⟨h2,sv,h3,h4,_⟩⟩:=h
 · refine ⟨_,p,f,h3,h1,.inr ⟨?_,by rw [h2];simp,rfl⟩⟩
   unfold QI at h2
   split at h2
   · cases h2;decide
   · obtain ⟨t,ht,he⟩:=Option.map_eq_some_iff.1 h2
     cases he
     have:∀ l t,Qt l=some t→JV t ≠ 0:=by
       intro l
       induction l with
       | nil=>intro t h;cases h
       | cons a r ih=>
         intro t h
         unfold Qt at h
         split at h
         · exact ih t h
         · cases h;assumption
     exact this _ _ ht
 · exact ⟨sv,0,0,h3,h1,.inl ⟨rfl,h2,h4⟩⟩
theorem XfM {w w':World} {e:TypeId} {sz n:Nat} {sv:Value} {xs:List Value} (hb:Below w.heap.size w w') (h:w'.ownsRow w.heap.size e sz sv n xs):Own w none w' [.arr e sz sv n xs]:=by
 refine (Own.start w none).add _ hb ?_ ?_
 · refine ⟨h.1,?_⟩
   rcases h.2 with h1 | ⟨g,cap,cur,h1,h2,h3⟩
   · exact .inl h1
   · exact .inr ⟨g,cap,cur,h1,Nat.zero_le _,h3⟩
 · intro b hbk
   rcases h.2 with h1 | ⟨g,cap,cur,h1,h2,h3,_⟩
   · rw [show sv=_ from h1.1] at hbk
     simp [Res.arr,Value.ownBlock] at hbk
   · subst h1
     have:b=g:=by simpa [Res.arr,Value.ownBlock] using hbk.symm
     subst this
     exact ⟨h2,(Array.getElem?_eq_some_iff.1 h3).1⟩
theorem XfL {w0 w:World} {row:Option Nat} {rs:List Res} (H:Own w0 row w rs) (i:Nat) {e:TypeId} {sz n C g:Nat} {xs:List Value} (hi:rs[i]? = some (.arr e sz (.slice (some ⟨g,0,none⟩) n C) n xs)) {j:Nat} {v:Value} (hj:xs[j]? = some v):w.cell? ⟨g,j,none⟩=some v:=by
 obtain ⟨A,C',h1,h2⟩:=BD (H.arr i hi)
 cases h1
 obtain ⟨g',h3,h4⟩:=h2 j v hj
 cases h3
 exact h4
theorem Xhr {s:ByteArray} {w w':World} {e:Ending} (h:Li s w e w'):∃ (A:Option Addr) (n C:Nat) (xs:List Value) (p:Nat) (f:Int),e = .returned (.tuple #[.slice A n C,.int .i64 (p:Int),.int .i64 f]) ∧
   ((f=0∧QI s=none∧n=(MS s).length∧xs=Nk (MS s)∧(0 < n→∃ g,A=some ⟨g,0,none⟩))∨(f ≠ 0∧QI s ≠ none))∧Own w none w' [.arr 98 3 (.slice A n C) n xs]:=by
 obtain ⟨sv,p,f,rfl,hb,⟨h1,h2,h3⟩ | ⟨h1,h2,rfl⟩⟩:=Xaz h
 · obtain ⟨A,C,rfl,h5⟩:=BD h3
   refine ⟨A,_,C,_,p,f,rfl,.inl ⟨h1,h2,rfl,rfl,fun hpos=>?_⟩,XfM hb h3⟩
   rcases h3.2 with h6 | ⟨g,cap,cur,h6,_⟩
   · omega
   · cases h6;exact ⟨g,rfl⟩
 · exact ⟨none,0,0,[],p,f,rfl,.inr ⟨h1,h2⟩,XfM hb (World.ownsRow_nil _ _ _ _)⟩
theorem XcY {s:ByteArray} (h:(MS s).length ≠ 2):QC s=false:=by
 unfold QC
 rw [Bool.and_eq_false_iff];right
 split
 · rename_i t u hq;rw [hq] at h;simp at h
 · rfl
theorem XcX {s:ByteArray} {t u:Tok} (h0:QI s=none) (h:MS s=[t,u]):QC s=(t.kind == 1 && t.text.toList == s.toList):=by
 unfold QC;rw [h0,h];rfl
set_option maxHeartbeats 4000000 in
theorem Dj (cs:List Value) (p:Prg) (w0:World) (hP:ProgAt w0 cs p) (hd:Nw p.cond≤9223372036854775807) :
   Calls Tryz.prog 19 #[.agg cs.toArray] w0 fun e w'=>e = .returned (.int .i64 (JH p))∧Below w0.heap.size w0 w':=by
 have H:=Own.start w0 none
 obtain ⟨LA,LC,IA,IC,TA,TC,hh,ccs,hp⟩:=hP
 obtain ⟨c1,c2,c3,c4,c5,rfl⟩:=DM (JT hp.cond)
 have hcs:=hp.cs
 subst hcs
 have hn:=hp.locsN
 have hi:=hp.initN
 have htn:=hp.threadsN
 refine JF func19 rfl ntmps19 rfl (fun a F=>?_);refine cSR fun K1 hK1=>?_;refine sBx H F rfl rfl rfl ?_;clear F a H;intro b1 a w F H;refine Xa F rfl (qNK hK1 (qSR fun K2 hK2=>Xr (f:=0) (k:=0) XM rfl YL rfl rfl rfl (Xc YY rfl (H.cell 0 rfl rfl) ?_)));clear hK1;clear F a;intro a F;refine Xu call29 F rfl (Xhs p.name _ hp.name) ?_;rintro e w hx2
 obtain ⟨A,n,C,xs,q,f,rfl,hq,H2⟩:=Xhr hx2;replace H:=H.join H2;clear H2 hx2
 refine ⟨_,rfl,?_⟩;clear F a;intro a F;refine Xf F rfl (NU rfl rfl rfl rfl (NU rfl rfl rfl rfl (NU rfl rfl rfl rfl (Xd rfl (Xd rfl (Xd rfl (qNK hK2 ?_)))))));clear hK2;clear F a;intro a F;refine JD (fun K3 hK3=>?_);refine JD (fun K4 hK4=>?_);refine Xi H ?_;replace H:=H.drew;refine Xj 0 rfl F rfl (fun w=>rMv F rfl) H qq0 (Xm 1 rfl rfl (fun a F w=>Q0 F rfl rfl DR) H qq0 (Xm 2 rfl rfl (fun a F w=>rMv F rfl) H qq0 ?_));clear F a;intro a F
 refine F.split 19 rfl ?_ ?_ <;> (clear F;intro h19 F)
 ·
  replace h19:=Ep h19
  have hw0:QC p.name=false:=by
    rcases hq with ⟨h2,_⟩ | ⟨_,h2⟩
    · exact absurd h2 h19
    · unfold QC
      cases hl:QI p.name with
      | none=>exact absurd hl h2
      | some _=>rfl
  refine Xz 3 rfl F rfl H qq0 (XA 4 rfl rfl H qq0 (XA 5 rfl rfl H qq0 (Xm 6 rfl rfl (fun a F w=>rPk F rfl rfl) H qq0 (Xm 7 rfl rfl (fun a F w=>rMv F rfl) H qq0 (XA 8 rfl rfl H qq0 (XA 9 rfl rfl H qq0 (XA 10 rfl rfl H qq0 (XA 11 rfl rfl H qq0 (XA 12 rfl rfl H qq0 (Xm 13 rfl rfl (fun a F w=>rPk F rfl rfl) H qq0 (Xm 14 rfl rfl (fun a F w=>rMv F rfl) H qq0 (XA 15 rfl rfl H qq0 (XA 16 rfl rfl H qq0 (XA 17 rfl rfl H qq0 (XA 18 rfl rfl H qq0 (XA 19 rfl rfl H qq0 (XA 20 rfl rfl H qq0 (XA 21 rfl rfl H qq0 (Xm 22 rfl rfl (fun a F w=>rPk F rfl rfl) H qq0 ?_)))))))))))))))))));clear F a;intro a F;refine Xp (k:=23) ?_;refine hK4 _ _ ?_;clear hK4;refine MQ F rfl ?_;refine cSR fun K5 hK5=>Xa F rfl (qNK hK5 ?_);clear hK5;clear F a;intro a F;refine wp_ret ?_;simp only [Exit.then];refine JI Yz F rfl ?_
  exact ⟨by rw [re70 hw0],H.below⟩
 replace h19:=Er h19
 obtain ⟨hb0,hnl,hxs,hA⟩:QI p.name=none∧n=(MS p.name).length∧xs=Nk (MS p.name)∧(0 < n→∃ g,A=some ⟨g,0,none⟩):=by
   rcases hq with ⟨_,h2⟩ | ⟨h2,_⟩
   · exact h2
   · exact absurd h19 h2
 refine Xj 3 rfl F rfl (fun w=>rMv F rfl) H qq0 (Xl 4 rfl rfl rfl (fun a F w H=>Bw underlying94 F rfl) H qq0 (Xm 5 rfl rfl (fun a F w=>Q0 F rfl rfl DR) H qq0 (Xm 6 rfl rfl (fun a F w=>rPk F rfl rfl) H qq0 (Xm 7 rfl rfl (fun a F w=>rMv F rfl) H qq0 ?_))));clear F a;intro a F
 refine F.split 24 rfl ?_ ?_ <;> (clear F;intro h24 F)
 ·
  replace h24:=Ep h24
  have hw0:QC p.name=false:=XcY (by omega)
  refine Xz 8 rfl F rfl H qq0 (XA 9 rfl rfl H qq0 (XA 10 rfl rfl H qq0 (XA 11 rfl rfl H qq0 (XA 12 rfl rfl H qq0 (Xm 13 rfl rfl (fun a F w=>rPk F rfl rfl) H qq0 (Xm 14 rfl rfl (fun a F w=>rMv F rfl) H qq0 (XA 15 rfl rfl H qq0 (XA 16 rfl rfl H qq0 (XA 17 rfl rfl H qq0 (XA 18 rfl rfl H qq0 (XA 19 rfl rfl H qq0 (XA 20 rfl rfl H qq0 (XA 21 rfl rfl H qq0 (Xm 22 rfl rfl (fun a F w=>rPk F rfl rfl) H qq0 ?_))))))))))))));clear F a;intro a F;refine Xp (k:=23) ?_;refine hK4 _ _ ?_;clear hK4;refine MQ F rfl ?_;refine cSR fun K6 hK6=>Xa F rfl (qNK hK6 ?_);clear hK6;clear F a;intro a F;refine wp_ret ?_;simp only [Exit.then];refine JI Yz F rfl ?_
  exact ⟨by rw [re70 hw0],H.below⟩
 replace h24:=Er h24
 have h2:(MS p.name).length=2:=by omega
 obtain ⟨t,u,htk⟩:∃ t u,MS p.name=[t,u]:=by match MS p.name,h2 with | [t,u],_=>exact ⟨t,u,rfl⟩
 rw [htk] at hxs
 obtain ⟨q1,rfl⟩:=hA (by omega)
 subst hxs
 have how:=XcX hb0 htk
 refine Xj 8 rfl F rfl (fun w=>rMv F rfl) H qq0 ?_;clear F a;intro a F
 refine Xq (k:=9) (i:=9) rfl F rfl (fun w=>rIx (j:=0) underlying94 sizeOf98 F rfl rfl ?_) H (fun _ _ _ h=>h) ?_
 focus (omega)
 clear F a;intro a F;refine Xj 10 rfl F rfl (fun w=>rFa (f:=0) underlying98 rfl YW rfl rfl F rfl) H qq0 (Xl 11 rfl rfl rfl (fun a F w H=>rLd isAgg3 F rfl (XfL H 0 rfl (j:=0) rfl)) H qq0 (Xm 12 rfl rfl (fun a F w=>Q0 F rfl rfl DR) H qq0 (Xm 13 rfl rfl (fun a F w=>rPk F rfl rfl) H qq0 (Xm 14 rfl rfl (fun a F w=>rMv F rfl) H qq0 ?_))));clear F a;intro a F
 refine F.split 31 rfl ?_ ?_ <;> (clear F;intro h31 F)
 ·
  replace h31:=Ep h31
  have hw0:QC p.name=false:=(by rw [how,Bool.and_eq_false_iff];left;exact beq_false_of_ne (fun e=>h31 (by simp [e])))
  refine Xz 15 rfl F rfl H qq0 (XA 16 rfl rfl H qq0 (XA 17 rfl rfl H qq0 (XA 18 rfl rfl H qq0 (XA 19 rfl rfl H qq0 (XA 20 rfl rfl H qq0 (XA 21 rfl rfl H qq0 (Xm 22 rfl rfl (fun a F w=>rPk F rfl rfl) H qq0 ?_)))))));clear F a;intro a F;refine Xp (k:=23) ?_;refine hK4 _ _ ?_;clear hK4;refine MQ F rfl ?_;refine cSR fun K7 hK7=>Xa F rfl (qNK hK7 ?_);clear hK7;clear F a;intro a F;refine wp_ret ?_;simp only [Exit.then];refine JI Yz F rfl ?_
  exact ⟨by rw [re70 hw0],H.below⟩
 replace h31:=Er h31
 have hk1:(t.kind == 1)=true:=by simp;omega
 refine Xj 15 rfl F rfl (fun w=>rMv F rfl) H qq0 ?_;clear F a;intro a F
 refine Xq (k:=16) (i:=16) rfl F rfl (fun w=>rIx (j:=0) underlying94 sizeOf98 F rfl rfl ?_) H (fun _ _ _ h=>h) ?_
 focus (omega)
 clear F a;intro a F;refine Xj 17 rfl F rfl (fun w=>rFa (f:=1) underlying98 rfl YL rfl rfl F rfl) H qq0 (Xl 18 rfl rfl rfl (fun a F w H=>rLd YY F rfl (XfL H 0 rfl (j:=1) rfl)) H qq0 (Xm 19 rfl rfl (fun a F w=>rFa (f:=0) (k:=0) XM rfl YL rfl rfl F rfl) H qq0 (Xl 20 rfl rfl rfl (fun a F w H=>rLd YY F rfl (H.cell 1 rfl rfl)) H qq0 (Xm 21 rfl rfl (fun a F w=>Q0 F rfl rfl XkJ) H qq0 (Xm 22 rfl rfl (fun a F w=>rPk F rfl rfl) H qq0 ?_)))));clear F a;intro a F;refine Xp (k:=23) ?_;refine hK4 _ _ ?_;clear hK4
 refine cIf F rfl (fun h39=>?_) (fun h39=>?_)
 ·
  replace h39:=Xkh h39
  have hw0:QC p.name=false:=(by rw [how,Bool.and_eq_false_iff];right;simpa using h39)
  refine cSR fun K8 hK8=>Xa F rfl (qNK hK8 ?_);clear hK8;clear F a;intro a F;refine wp_ret ?_;simp only [Exit.then];refine JI Yz F rfl ?_
  exact ⟨by rw [re70 hw0],H.below⟩
 replace h39:=Xki h39
 have hw1:QC p.name=true:=(by rw [how,hk1,Bool.true_and];simpa using h39)
 refine wp_skip (hK3 _ _ ?_);clear hK3;refine JD (fun K9 hK9=>?_);refine cSR fun K10 hK10=>Xb (f:=1) (k:=1) XM rfl Yw rfl rfl F rfl (Xc Yy rfl (H.cell 1 rfl rfl) (Xx Yk rfl (Xe rfl rfl QF (Xh rfl ?_))));clear F a;intro a F
 refine F.split 44 rfl ?_ ?_ <;> (clear F;intro h44 F)
 ·
  replace h44:=of_decide_eq_true h44
  have hl0:QR p=false:=(by unfold QR;rw [decide_eq_false (show ¬ 1≤p.locs.length by omega)];rfl)
  refine XB F (XC (XC (XC (Xy rfl rfl (Xh rfl (XC (XC (XC (XC (XC (XC (XC (Xy rfl rfl (qNK hK10 ?_))))))))))))));clear hK10;clear F a;intro a F;refine MQ F rfl ?_;refine cSR fun K11 hK11=>Xa F rfl (qNK hK11 ?_);clear hK11;clear F a;intro a F;refine wp_ret ?_;simp only [Exit.then];refine JI Yz F rfl ?_
  exact ⟨by rw [Xj6 hw1 hl0],H.below⟩
 replace h44:=of_decide_eq_false h44;refine Xb (f:=1) (k:=1) XM rfl Yw rfl rfl F rfl (Xc Yy rfl (H.cell 1 rfl rfl) (Xx Yk rfl (Xe rfl rfl L3 (Xy rfl rfl (Xh rfl ?_)))));clear F a;intro a F
 refine F.split 50 rfl ?_ ?_ <;> (clear F;intro h50 F)
 ·
  replace h50:=of_decide_eq_true h50
  have hl0:QR p=false:=(by unfold QR;rw [decide_eq_false (show ¬ p.locs.length≤6 by omega)];simp)
  refine XB F (XC (XC (XC (XC (XC (XC (Xy rfl rfl (qNK hK10 ?_))))))));clear hK10;clear F a;intro a F;refine MQ F rfl ?_;refine cSR fun K12 hK12=>Xa F rfl (qNK hK12 ?_);clear hK12;clear F a;intro a F;refine wp_ret ?_;simp only [Exit.then];refine JI Yz F rfl ?_
  exact ⟨by rw [Xj6 hw1 hl0],H.below⟩
 replace h50:=of_decide_eq_false h50;refine Xb (f:=2) (k:=2) XM rfl sizeOf23 rfl rfl F rfl (Xc isAgg23 rfl (H.cell 1 rfl rfl) (Xx Yt rfl (Xr (f:=1) (k:=1) XM rfl Yw rfl rfl rfl (Xc Yy rfl (H.cell 1 rfl rfl) (Xx Yk rfl (Xe rfl rfl DR (Xy rfl rfl (qNK hK10 ?_))))))));clear hK10;clear F a;intro a F
 refine cIf F rfl (fun h58=>?_) (fun h58=>?_)
 ·
  replace h58:=Ep h58
  have hl0:QR p=false:=(by unfold QR;rw [show (p.init.length == p.locs.length)=false from beq_false_of_ne (fun e=>h58 (by rw [e]))];simp)
  refine cSR fun K13 hK13=>Xa F rfl (qNK hK13 ?_);clear hK13;clear F a;intro a F;refine wp_ret ?_;simp only [Exit.then];refine JI Yz F rfl ?_
  exact ⟨by rw [Xj6 hw1 hl0],H.below⟩
 replace h58:=Er h58
 have hsz:(decide (1≤p.locs.length) && decide (p.locs.length≤6) && p.init.length == p.locs.length)=true:=by
   rw [decide_eq_true (show 1≤p.locs.length by omega),decide_eq_true (show p.locs.length≤6 by omega),show p.init.length=p.locs.length by omega];simp
 have hlo:QR p=M2 p.locs 0 p.locs:=by unfold QR;rw [hsz,Bool.true_and]
 refine wp_skip (hK9 _ _ ?_);clear hK9;refine JD (fun K14 hK14=>?_);refine cSR fun K15 hK15=>Xa F rfl (qNK hK15 ?_);clear hK15;clear F a;intro a F;refine wp_block ?_
 refine JN [1] (fun m ups w=>∃ j:Nat,m=p.locs.length - j∧ups=[(6,.int .i64 ((j:Nat):Int))]∧j≤p.locs.length∧M2 p.locs 0 p.locs=M2 p.locs j (p.locs.drop j)∧Own w0 none w [.blk b1 ([.string p.name,.slice LA p.locs.length LC,.slice IA p.init.length IC,.slice TA p.threads.length TC,B8 p.ask]++[c1,c2,c3,c4,c5]) 29]) F (p.locs.length) [(6,.int .i64 ((0:Nat):Int))] ?_ ?_
 · exact ⟨0,rfl,rfl,by omega,rfl,H.sel [1] rfl rfl⟩
 clear F
 clear H
 intro m ups a w hI F
 obtain ⟨j,rfl,rfl,hj,ht,H⟩:=hI
 refine JD (fun K16 hK16=>?_);refine cSR fun K17 hK17=>Xf F rfl (Xr (f:=1) (k:=1) XM rfl Yw rfl rfl rfl (Xc Yy rfl (H.cell 0 rfl rfl) (Xx Yk rfl (Xe rfl rfl QF (qNK hK17 ?_)))));clear hK17;clear F a;intro a F
 refine cIf F rfl (fun h63=>?_) (fun h63=>?_)
 ·
  replace h63:=of_decide_eq_true h63
  have hjl:j < p.locs.length:=by omega
  obtain ⟨x,hx⟩:∃ x,p.locs[j]? = some x:=⟨_,List.getElem?_eq_getElem hjl⟩
  obtain ⟨bx,ox,rfl,hcx⟩:=hp.locs.get hx
  have hno:=LO (l:=p.locs) (m:=p.locs) hx
  refine wp_skip (hK16 _ _ ?_);clear hK16;refine JD (fun K18 hK18=>?_);refine wp_block ?_;refine JD (fun K19 hK19=>?_);refine cSR fun K20 hK20=>Xb (f:=1) (k:=1) XM rfl Yw rfl rfl F rfl (Xc Yy rfl (H.cell 0 rfl rfl) (Xh rfl ?_));clear F a;intro a F
  refine sIx Yk YL F rfl rfl rfl rfl ?_ ?_
  focus (omega)
  clear F a;intro a F;refine sLd YY F rfl rfl rfl (H.arg hcx) ?_;clear F a;intro a F;refine Xu call30 F rfl (Xfv x _ (hp.locsS x (List.mem_of_getElem? hx)) _ rfl) (gG H ?_);clear F a H;intro a w F H;refine Xav F rfl rfl rfl (qNK hK20 ?_);clear hK20;clear F a;intro a F
  refine cIf F rfl (fun h72=>?_) (fun h72=>?_)
  ·
   replace h72:=N1 h72
   have hl0:QR p=false:=(by rw [hlo,ht,hno,h72];rfl)
   refine cSR fun K21 hK21=>Xa F rfl (qNK hK21 ?_);clear hK21;clear F a;intro a F;refine wp_ret ?_;refine xI ?_;refine JI Yz F rfl ?_
   exact ⟨by rw [Xj6 hw1 hl0],H.below⟩
  replace h72:=N2 h72;refine wp_skip (hK19 _ _ (cSR fun K22 hK22=>Xa F rfl (qNK hK22 ?_)));clear hK19 hK22;clear F a;intro a F;refine wp_block ?_
  refine JN [1,6] (fun m ups w=>∃ k:Nat,m=j - k∧ups=[(7,.int .i64 ((k:Nat):Int))]∧k≤j∧DW x (p.locs.take j) 0=DW x ((p.locs.take j).drop k) k∧Own w0 none w [.blk b1 ([.string p.name,.slice (some ⟨bx,ox,none⟩) p.locs.length LC,.slice IA p.init.length IC,.slice TA p.threads.length TC,B8 p.ask]++[c1,c2,c3,c4,c5]) 29]) F (j) [(7,.int .i64 ((0:Nat):Int))] ?_ ?_
  · exact ⟨0,rfl,rfl,by omega,rfl,H⟩
  clear F
  clear H
  intro m ups a w hI F
  obtain ⟨k,rfl,rfl,hk,hix,H⟩:=hI
  refine JD (fun K23 hK23=>?_);refine cSR fun K24 hK24=>Xf F rfl (Xh rfl (Xe rfl rfl QF (qNK hK24 ?_)));clear hK24;clear F a;intro a F
  refine cIf F rfl (fun h75=>?_) (fun h75=>?_)
  ·
   replace h75:=of_decide_eq_true h75
   have hkj:k < j:=by omega
   obtain ⟨y,hy⟩:∃ y,p.locs[k]? = some y:=⟨_,List.getElem?_eq_getElem (by omega)⟩
   have hyt:(p.locs.take j)[k]? = some y:=by rw [List.getElem?_take,if_pos hkj,hy]
   obtain ⟨by',oy,hya,hcy⟩:=hp.locs.get hy
   cases hya
   have hia:=XaQ (s:=x) hyt
   refine wp_skip (hK23 _ _ ?_);clear hK23;refine JD (fun K25 hK25=>?_);refine wp_block ?_;refine JD (fun K26 hK26=>?_);refine Xi H ?_;replace H:=H.drew;refine Xj 0 rfl F rfl (fun w=>rFa (f:=1) (k:=1) XM rfl Yw rfl rfl F rfl) H qq0 (Xl 1 rfl rfl rfl (fun a F w H=>rLd Yy F rfl (H.cell 0 rfl rfl)) H qq0 (Xm 2 rfl rfl (fun a F w=>rMv F rfl) H qq0 ?_));clear F a;intro a F
   refine Xq (k:=3) (i:=3) rfl F rfl (fun w=>rIx Yk YL F rfl rfl ?_) H (fun _ _ _ h=>h) ?_
   focus (omega)
   clear F a;intro a F;refine Xv 4 rfl F rfl rfl (fun w H=>rLd YY F rfl (H.arg hcy)) H qq0 (Xm 5 rfl rfl (fun a F w=>rFa (f:=1) (k:=1) XM rfl Yw rfl rfl F rfl) H qq0 (Xl 6 rfl rfl rfl (fun a F w H=>rLd Yy F rfl (H.cell 0 rfl rfl)) H qq0 (Xm 7 rfl rfl (fun a F w=>rMv F rfl) H qq0 ?_)));clear F a;intro a F
   refine Xq (k:=8) (i:=8) rfl F rfl (fun w=>rIx Yk YL F rfl rfl ?_) H (fun _ _ _ h=>h) ?_
   focus (omega)
   clear F a;intro a F;refine Xv 9 rfl F rfl rfl (fun w H=>rLd YY F rfl (H.arg hcx)) H qq0 (Xm 10 rfl rfl (fun a F w=>Q0 F rfl rfl Xg1) H qq0 ?_);clear F a;intro a F;refine Xp (k:=11) ?_;refine hK26 _ _ ?_;clear hK26
   refine cIf F rfl (fun h88=>?_) (fun h88=>?_)
   ·
    replace h88:=J1 h88
    have hl0:QR p=false:=(by rw [hlo,ht,hno,hix,hia,if_pos (by simpa using (by simpa using h88:y.toList=x.toList).symm)];simp)
    refine cSR fun K27 hK27=>Xa F rfl (qNK hK27 ?_);clear hK27;clear F a;intro a F;refine wp_ret ?_;refine xI ?_;refine JI Yz F rfl ?_
    exact ⟨by rw [Xj6 hw1 hl0],H.below⟩
   replace h88:=J2 h88;refine wp_skip (hK25 _ _ (JY (Xf F rfl ?_)));clear hK25;clear F a;intro a F
   refine Xg F rfl rfl (JJ (j:=1) ?_) ?_
   focus omega
   clear F a;intro a F;refine Xa F rfl ?_;clear F a;intro a F;refine J4 ?_
   exact ⟨_,by omega,_,⟨k+1,rfl,rfl,by omega,by rw [hix,hia,if_neg (fun e=>h88 (by simpa using (by simpa using e:x.toList=y.toList).symm))],H⟩,F.tt⟩
  replace h75:=of_decide_eq_false h75
  rw [List.drop_eq_nil_of_le (by rw [List.length_take];omega)] at hix
  refine wp_exit ?_;refine hK18 _ _ (JY (Xf F rfl ?_));clear hK18;clear F a;intro a F
  refine Xg F rfl rfl (JJ (j:=1) ?_) ?_
  focus omega
  clear F a;intro a F;refine Xa F rfl ?_;clear F a;intro a F;refine J4 ?_
  exact ⟨_,by omega,_,⟨j+1,rfl,rfl,by omega,by rw [ht,hno,h72,hix];rfl,H⟩,F.tt⟩
 replace h63:=of_decide_eq_false h63
 have hl1:QR p=true:=(by rw [hlo,ht,List.drop_eq_nil_of_le (by omega)];rfl)
 refine wp_exit ?_;refine hK14 _ _ ?_;clear hK14;refine JD (fun K28 hK28=>?_);refine cSR fun K29 hK29=>Xb (f:=3) (k:=3) XM rfl Yo rfl rfl F rfl (Xc Yp rfl (H.cell 0 rfl rfl) (Xx X7 rfl (Xe rfl rfl QF (Xh rfl ?_))));clear F a;intro a F
 refine F.split 93 rfl ?_ ?_ <;> (clear F;intro h93 F)
 ·
  replace h93:=of_decide_eq_true h93
  have hs0:JS p=false:=(by unfold JS;rw [decide_eq_false (show ¬ 1≤p.threads.length by omega)];rfl)
  refine XB F (XC (XC (XC (Xy rfl rfl (qNK hK29 ?_)))));clear hK29;clear F a;intro a F;refine MQ F rfl ?_;refine cSR fun K30 hK30=>Xa F rfl (qNK hK30 ?_);clear hK30;clear F a;intro a F;refine wp_ret ?_;simp only [Exit.then];refine JI Yz F rfl ?_
  exact ⟨by rw [re72 hw1 hl1 hs0],H.below⟩
 replace h93:=of_decide_eq_false h93;refine Xb (f:=3) (k:=3) XM rfl Yo rfl rfl F rfl (Xc Yp rfl (H.cell 0 rfl rfl) (Xx X7 rfl (Xe rfl rfl L3 (Xy rfl rfl (qNK hK29 ?_)))));clear hK29;clear F a;intro a F
 refine cIf F rfl (fun h98=>?_) (fun h98=>?_)
 ·
  replace h98:=of_decide_eq_true h98
  have hs0:JS p=false:=(by unfold JS;rw [decide_eq_false (show ¬ p.threads.length≤4 by omega)];simp)
  refine cSR fun K31 hK31=>Xa F rfl (qNK hK31 ?_);clear hK31;clear F a;intro a F;refine wp_ret ?_;simp only [Exit.then];refine JI Yz F rfl ?_
  exact ⟨by rw [re72 hw1 hl1 hs0],H.below⟩
 replace h98:=of_decide_eq_false h98
 have hsh:JS p=p.threads.all (fun l=>decide (l.length≤12)):=(by unfold JS;rw [decide_eq_true (show 1≤p.threads.length by omega),decide_eq_true (show p.threads.length≤4 by omega)];rfl)
 refine wp_skip (hK28 _ _ ?_);clear hK28;refine JD (fun K32 hK32=>?_);refine cSR fun K33 hK33=>Xa F rfl (qNK hK33 ?_);clear hK33;clear F a;intro a F;refine wp_block ?_
 refine JN [1] (fun m ups w=>∃ j:Nat,m=p.threads.length - j∧ups=[(8,.int .i64 ((j:Nat):Int))]∧j≤p.threads.length∧p.threads.all (fun l=>decide (l.length≤12))=(p.threads.drop j).all (fun l=>decide (l.length≤12))∧Own w0 none w [.blk b1 ([.string p.name,.slice LA p.locs.length LC,.slice IA p.init.length IC,.slice TA p.threads.length TC,B8 p.ask]++[c1,c2,c3,c4,c5]) 29]) F (p.threads.length) [(8,.int .i64 ((0:Nat):Int))] ?_ ?_
 · exact ⟨0,rfl,rfl,by omega,rfl,H⟩
 clear F
 clear H
 intro m ups a w hI F
 obtain ⟨j,rfl,rfl,hj,ht,H⟩:=hI
 refine JD (fun K34 hK34=>?_);refine cSR fun K35 hK35=>Xf F rfl (Xr (f:=3) (k:=3) XM rfl Yo rfl rfl rfl (Xc Yp rfl (H.cell 0 rfl rfl) (Xx X7 rfl (Xe rfl rfl QF (qNK hK35 ?_)))));clear hK35;clear F a;intro a F
 refine cIf F rfl (fun h103=>?_) (fun h103=>?_)
 ·
  replace h103:=of_decide_eq_true h103
  obtain ⟨l,hl⟩:∃ l,p.threads[j]? = some l:=⟨_,List.getElem?_eq_getElem (by omega)⟩
  obtain ⟨bT,oT,BT,CT,rfl,hT1,hT2,hT3⟩:=hp.threads j l hl
  have had:=Lg (fun l:List Ins=>decide (l.length≤12)) hl
  refine wp_skip (hK34 _ _ ?_);clear hK34;refine JD (fun K36 hK36=>?_);refine wp_block ?_;refine cSR fun K37 hK37=>Xb (f:=3) (k:=3) XM rfl Yo rfl rfl F rfl (Xc Yp rfl (H.cell 0 rfl rfl) (Xh rfl ?_));clear F a;intro a F
  refine sIx X7 YB F rfl rfl rfl rfl ?_ ?_
  focus (omega)
  clear F a;intro a F;refine sLd YI F rfl rfl rfl (H.arg hT1) (Xx Yl rfl (Xe rfl rfl L3 (qNK hK37 ?_)));clear hK37;clear F a;intro a F
  refine cIf F rfl (fun h112=>?_) (fun h112=>?_)
  ·
   replace h112:=of_decide_eq_true h112
   have hs0:JS p=false:=(by rw [hsh,ht,had,decide_eq_false (show ¬ l.length≤12 by omega)];rfl)
   refine cSR fun K38 hK38=>Xa F rfl (qNK hK38 ?_);clear hK38;clear F a;intro a F;refine wp_ret ?_;refine xI ?_;refine JI Yz F rfl ?_
   exact ⟨by rw [re72 hw1 hl1 hs0],H.below⟩
  replace h112:=of_decide_eq_false h112;refine wp_skip (hK36 _ _ (JY (Xf F rfl ?_)));clear hK36;clear F a;intro a F
  refine Xg F rfl rfl (JJ (j:=1) ?_) ?_
  focus omega
  clear F a;intro a F;refine Xa F rfl ?_;clear F a;intro a F;refine J4 ?_
  exact ⟨_,by omega,_,⟨j+1,rfl,rfl,by omega,by rw [ht,had,decide_eq_true (show l.length≤12 by omega),Bool.true_and],H⟩,F.tt⟩
 replace h103:=of_decide_eq_false h103
 have hs1:JS p=true:=(by rw [hsh,ht,List.drop_eq_nil_of_le (by omega)];rfl)
 refine wp_exit ?_;refine hK32 _ _ ?_;clear hK32;refine JD (fun K39 hK39=>?_);refine cSR fun K40 hK40=>Xa F rfl (qNK hK40 ?_);clear hK40;clear F a;intro a F;refine wp_block ?_
 refine JN [1] (fun m ups w=>∃ j:Nat,m=p.threads.length - j∧ups=[(9,.int .i64 ((j:Nat):Int))]∧j≤p.threads.length∧p.threads.all (Nj p.locs.length)=(p.threads.drop j).all (Nj p.locs.length)∧Own w0 none w [.blk b1 ([.string p.name,.slice LA p.locs.length LC,.slice IA p.init.length IC,.slice TA p.threads.length TC,B8 p.ask]++[c1,c2,c3,c4,c5]) 29]) F (p.threads.length) [(9,.int .i64 ((0:Nat):Int))] ?_ ?_
 · exact ⟨0,rfl,rfl,by omega,rfl,H⟩
 clear F
 clear H
 intro m ups a w hI F
 obtain ⟨j,rfl,rfl,hj,ht,H⟩:=hI
 refine JD (fun K41 hK41=>?_);refine cSR fun K42 hK42=>Xf F rfl (Xr (f:=3) (k:=3) XM rfl Yo rfl rfl rfl (Xc Yp rfl (H.cell 0 rfl rfl) (Xx X7 rfl (Xe rfl rfl QF (qNK hK42 ?_)))));clear hK42;clear F a;intro a F
 refine cIf F rfl (fun h117=>?_) (fun h117=>?_)
 ·
  replace h117:=of_decide_eq_true h117
  obtain ⟨l,hl⟩:∃ l,p.threads[j]? = some l:=⟨_,List.getElem?_eq_getElem (by omega)⟩
  obtain ⟨bT,oT,BT,CT,rfl,hT1,hT2,hT3⟩:=hp.threads j l hl
  have had:=Lg (Nj p.locs.length) hl
  refine wp_skip (hK41 _ _ ?_);clear hK41;refine JD (fun K43 hK43=>?_);refine wp_block ?_;refine JD (fun K44 hK44=>?_);refine Xi H ?_;replace H:=H.drew;refine Xj 0 rfl F rfl (fun w=>rFa (f:=3) (k:=3) XM rfl Yo rfl rfl F rfl) H qq0 (Xl 1 rfl rfl rfl (fun a F w H=>rLd Yp F rfl (H.cell 0 rfl rfl)) H qq0 (Xm 2 rfl rfl (fun a F w=>rMv F rfl) H qq0 ?_));clear F a;intro a F
  refine Xq (k:=3) (i:=3) rfl F rfl (fun w=>rIx X7 YB F rfl rfl ?_) H (fun _ _ _ h=>h) ?_
  focus (omega)
  clear F a;intro a F;refine Xv 4 rfl F rfl rfl (fun w H=>rLd YI F rfl (H.arg hT1)) H qq0 (Xm 5 rfl rfl (fun a F w=>rFa (f:=1) (k:=1) XM rfl Yw rfl rfl F rfl) H qq0 (Xl 6 rfl rfl rfl (fun a F w H=>rLd Yy F rfl (H.cell 0 rfl rfl)) H qq0 (Xl 7 rfl rfl rfl (fun a F w H=>Bw Yk F rfl) H qq0 ?_)));clear F a;intro a F;refine Xn (k:=8) (i:=8) rfl F (J3 call31 F rfl rfl (XcN BT CT l p.locs.length _ (RowsAt.own hT2 H) hT3) (gG H ?_));clear F a H;intro a w F H;refine Xo H ?_;refine Xj 9 rfl F rfl (fun w=>Xg5 F rfl) H qq0 ?_;clear F a;intro a F;refine Xp (k:=10) ?_;refine hK44 _ _ ?_;clear hK44
  refine cIf F rfl (fun h129=>?_) (fun h129=>?_)
  ·
   replace h129:=N1 h129
   have ho0:Q8 p=false:=(by unfold Q8;rw [ht,had,h129];rfl)
   refine cSR fun K45 hK45=>Xa F rfl (qNK hK45 ?_);clear hK45;clear F a;intro a F;refine wp_ret ?_;refine xI ?_;refine JI Yz F rfl ?_
   exact ⟨by rw [re73 hw1 hl1 hs1 ho0],H.below⟩
  replace h129:=N2 h129;refine wp_skip (hK43 _ _ (JY (Xf F rfl ?_)));clear hK43;clear F a;intro a F
  refine Xg F rfl rfl (JJ (j:=1) ?_) ?_
  focus omega
  clear F a;intro a F;refine Xa F rfl ?_;clear F a;intro a F;refine J4 ?_
  exact ⟨_,by omega,_,⟨j+1,rfl,rfl,by omega,by rw [ht,had,h129,Bool.true_and],H⟩,F.tt⟩
 replace h117:=of_decide_eq_false h117
 have ho1:Q8 p=true:=(by unfold Q8;rw [ht,List.drop_eq_nil_of_le (by omega)];rfl)
 refine wp_exit ?_;refine hK39 _ _ ?_;clear hK39;refine JD (fun K46 hK46=>?_);refine cSR fun K47 hK47=>Xb (f:=4) (k:=4) XM rfl XH rfl rfl F rfl (Xc XJ rfl (H.cell 0 rfl rfl) (Xe rfl rfl (Eu (y:=1)) (Xh rfl ?_)));clear F a;intro a F
 refine F.split 133 rfl ?_ ?_ <;> (clear F;intro h133 F)
 ·
  replace h133:=of_decide_eq_true h133
  have ha0:LX p=false:=(by unfold LX;rw [XjH,decide_eq_false (UInt8.not_le.2 h133)];rfl)
  refine XB F (XC (XC (Xy rfl rfl (qNK hK47 ?_))));clear hK47;clear F a;intro a F;refine MQ F rfl ?_;refine cSR fun K48 hK48=>Xa F rfl (qNK hK48 ?_);clear hK48;clear F a;intro a F;refine wp_ret ?_;simp only [Exit.then];refine JI Yz F rfl ?_
  exact ⟨by rw [re75 hw1 hl1 hs1 ho1 ha0],H.below⟩
 replace h133:=of_decide_eq_false h133;refine Xb (f:=4) (k:=4) XM rfl XH rfl rfl F rfl (Xc XJ rfl (H.cell 0 rfl rfl) (Xe rfl rfl (DY (y:=3)) (Xy rfl rfl (qNK hK47 ?_))));clear hK47;clear F a;intro a F
 refine cIf F rfl (fun h137=>?_) (fun h137=>?_)
 ·
  replace h137:=of_decide_eq_true h137
  have ha0:LX p=false:=(by unfold LX;rw [XjH,decide_eq_false (UInt8.not_le.2 h137)];simp)
  refine cSR fun K49 hK49=>Xa F rfl (qNK hK49 ?_);clear hK49;clear F a;intro a F;refine wp_ret ?_;simp only [Exit.then];refine JI Yz F rfl ?_
  exact ⟨by rw [re75 hw1 hl1 hs1 ho1 ha0],H.below⟩
 replace h137:=of_decide_eq_false h137
 have ha1:LX p=true:=(by unfold LX;rw [XjH,decide_eq_true (UInt8.not_lt.1 h133),decide_eq_true (UInt8.not_lt.1 h137)];rfl)
 refine wp_skip (hK46 _ _ ?_);clear hK46;refine JD (fun K50 hK50=>?_);refine cSR fun K51 hK51=>Xb (f:=5) (k:=5) XM rfl YP rfl rfl F rfl ?_;clear F a;intro a F
 refine Xw X3 rfl ?si F rfl (H.range 0 rfl _ 5) ?_
 case si=>exact Jz YP
 clear F a;intro a F;refine Xb (f:=3) (k:=3) XM rfl Yo rfl rfl F rfl (Xc Yp rfl (H.cell 0 rfl rfl) (Xx X7 rfl (Xr (f:=1) (k:=1) XM rfl Yw rfl rfl rfl (Xc Yy rfl (H.cell 0 rfl rfl) (Xx Yk rfl ?_)))));clear F a;intro a F;refine Xu call32 F rfl (XfI _ _ hh _ p.cond _ (CondAt.grown H.grown rfl _ _ _ hp.cond) hd) (gG H ?_);clear F a H;intro a w F H;refine Xav F rfl rfl rfl (qNK hK51 ?_);clear hK51;clear F a;intro a F
 refine cIf F rfl (fun h147=>?_) (fun h147=>?_)
 ·
  replace h147:=N1 h147;refine cSR fun K52 hK52=>Xa F rfl (qNK hK52 ?_);clear hK52;clear F a;intro a F;refine wp_ret ?_;simp only [Exit.then];refine JI Yz F rfl ?_
  exact ⟨by rw [re74 hw1 hl1 hs1 ho1 ha1 h147],H.below⟩
 replace h147:=N2 h147;refine wp_skip (hK50 _ _ (cSR fun K53 hK53=>Xa F rfl (qNK hK53 ?_)));clear hK50 hK53;clear F a;intro a F;refine wp_ret ?_;refine JI Yz F rfl ?_
 exact ⟨by rw [re0 hw1 hl1 hs1 ho1 ha1 h147],H.below⟩
-- RfD
open Go.Proofs.Tryz
open Go.RowKit
set_option maxRecDepth 100000
theorem MD (r:Bool) (n:UInt8) (s:By) (w0:World):Calls Tryz.prog 37 #[.agg #[.bool r,b8 n],.agg (bs 8 s).toArray] w0 fun e w'=>e = .returned (b8 (NQ r n s))∧Below w0.heap.size w0 w':=by
 have H:=Own.start w0 none
 refine JF func37 rfl ntmps37 rfl (fun a F=>?_);refine cSR fun K1 hK1=>?_;refine sBx H F rfl rfl rfl ?_;clear F a H;intro b2 a w F H;refine Mg H F rfl rfl rfl ?_;clear F a H;intro b3 a w F H;refine Xa F rfl (qNK hK1 ?_);clear hK1;clear F a;intro a F;refine JD (fun K2 hK2=>?_);refine cSR fun K3 hK3=>Xb (f:=0) (k:=0) XV rfl YQ rfl rfl F rfl (Xc Y6 rfl (H.cell 1 rfl rfl) (Cc rfl rfl rfl (qNK hK3 ?_)));clear hK3;clear F a;intro a F
 refine cIf F rfl (fun h7=>?_) (fun h7=>?_)
 ·
  replace h7:=N1 h7;refine cSR fun K4 hK4=>Xb (f:=1) (k:=1) XV rfl XH rfl rfl F rfl (Xc XJ rfl (H.cell 1 rfl rfl) (Xd rfl (qNK hK4 ?_)));clear hK4;clear F a;intro a F;refine wp_ret ?_;simp only [Exit.then];refine JI results37 F rfl ?_
  exact ⟨DG (by rw [NQ,h7];rfl),H.below⟩
 replace h7:=N2 h7;refine wp_skip (hK2 _ _ ?_);clear hK2;refine JD (fun K5 hK5=>?_);refine cSR fun K6 hK6=>Xb (f:=1) (k:=1) XV rfl XH rfl rfl F rfl (Xc XJ rfl (H.cell 1 rfl rfl) (Xe rfl rfl (DY (y:=7)) (qNK hK6 ?_)));clear hK6;clear F a;intro a F
 refine cIf F rfl (fun h12=>?_) (fun h12=>?_)
 ·
  replace h12:=of_decide_eq_true h12
  have hn8:¬ n.toNat < 8:=(by have:=UInt8.lt_iff_toNat_lt.1 h12;have e:(7:UInt8).toNat=7:=rfl;omega)
  refine cSR fun K7 hK7=>Xa F rfl (qNK hK7 ?_);clear hK7;clear F a;intro a F;refine wp_ret ?_;simp only [Exit.then];refine JI results37 F rfl ?_
  exact ⟨DG (a:=0) (by rw [NQ,h7,if_pos rfl,if_neg hn8]),H.below⟩
 replace h12:=of_decide_eq_false h12
 have hn8:n.toNat < 8:=(by have:=UInt8.not_lt.1 h12;rw [UInt8.le_iff_toNat_le] at this;have e:(7:UInt8).toNat=7:=rfl;omega)
 refine wp_skip (hK5 _ _ (cSR fun K8 hK8=>Xb (f:=1) (k:=1) XV rfl XH rfl rfl F rfl (Xc XJ rfl (H.cell 1 rfl rfl) ?_)));clear hK5;clear F a;intro a F
 refine Xi3 X9 XH F rfl rfl rfl rfl ?_ ?_
 focus (omega)
 clear F a;intro a F;refine sLd XJ F rfl rfl rfl (H.ce' 0 rfl) (Xd rfl (qNK hK8 ?_));clear hK8;clear F a;intro a F;refine wp_ret ?_;refine JI results37 F rfl ?_
 exact ⟨DG (by rw [NQ,h7,if_pos rfl,if_pos hn8]),H.below⟩
theorem Xer (fn a b:UInt8) (w0:World):Calls Tryz.prog 80 #[b8 fn,b8 a,b8 b] w0 fun e w'=>e = .returned (b8 (Lk fn a b))∧Below w0.heap.size w0 w':=by
 have H:=Own.start w0 none
 refine JF func80 rfl ntmps80 rfl (fun a F=>?_);refine cSR fun K1 hK1=>Xa F rfl (qNK hK1 ?_);clear hK1;clear F a;intro a F;refine JD (fun K2 hK2=>?_);refine cSR fun K3 hK3=>Xf F rfl (Xe rfl rfl (JL (y:=1)) (qNK hK3 ?_));clear hK3;clear F a;intro a F
 refine cIf F rfl (fun h8=>?_) (fun h8=>?_)
 ·
  replace h8:=J1 h8;refine cSR fun K4 hK4=>Xf F rfl (Xh rfl (Xe rfl rfl (ND) (Xd rfl (qNK hK4 ?_))));clear hK4;clear F a;intro a F;refine wp_ret ?_;simp only [Exit.then];refine JI results80 F rfl ?_
  exact ⟨by exact DG (by simp_all [Lk]),H.below⟩
 replace h8:=J2 h8;refine wp_skip (hK2 _ _ ?_);clear hK2;refine JD (fun K5 hK5=>?_);refine cSR fun K6 hK6=>Xf F rfl (Xe rfl rfl (JL (y:=2)) (qNK hK6 ?_));clear hK6;clear F a;intro a F
 refine cIf F rfl (fun h13=>?_) (fun h13=>?_)
 ·
  replace h13:=J1 h13;refine cSR fun K7 hK7=>Xf F rfl (Xh rfl (Xe rfl rfl (Xik) (Xd rfl (qNK hK7 ?_))));clear hK7;clear F a;intro a F;refine wp_ret ?_;simp only [Exit.then];refine JI results80 F rfl ?_
  exact ⟨by exact DG (by simp_all [Lk]),H.below⟩
 replace h13:=J2 h13;refine wp_skip (hK5 _ _ ?_);clear hK5;refine JD (fun K8 hK8=>?_);refine cSR fun K9 hK9=>Xf F rfl (Xe rfl rfl (JL (y:=3)) (qNK hK9 ?_));clear hK9;clear F a;intro a F
 refine cIf F rfl (fun h18=>?_) (fun h18=>?_)
 ·
  replace h18:=J1 h18;refine cSR fun K10 hK10=>Xf F rfl (Xh rfl (Xe rfl rfl (XkI) (Xd rfl (qNK hK10 ?_))));clear hK10;clear F a;intro a F;refine wp_ret ?_;simp only [Exit.then];refine JI results80 F rfl ?_
  exact ⟨by exact DG (by simp_all [Lk]),H.below⟩
 replace h18:=J2 h18;refine wp_skip (hK8 _ _ (cSR fun K11 hK11=>Xa F rfl (qNK hK11 ?_)));clear hK8 hK11;clear F a;intro a F;refine wp_ret ?_;refine JI results80 F rfl ?_
 exact ⟨by exact DG (a:=0) (by simp_all [Lk]),H.below⟩
theorem XfA (fn a b:UInt8) (w0:World):Calls Tryz.prog 81 #[b8 fn,b8 a,b8 b] w0 fun e w'=>e = .returned (.bool (MC fn a b))∧Below w0.heap.size w0 w':=by
 have H:=Own.start w0 none
 refine JF func81 rfl ntmps81 rfl (fun a F=>?_);refine cSR fun K1 hK1=>Xa F rfl (qNK hK1 ?_);clear hK1;clear F a;intro a F;refine JD (fun K2 hK2=>?_);refine cSR fun K3 hK3=>Xf F rfl (Xe rfl rfl (JL (y:=4)) (qNK hK3 ?_));clear hK3;clear F a;intro a F
 refine cIf F rfl (fun h8=>?_) (fun h8=>?_)
 ·
  replace h8:=J1 h8;refine cSR fun K4 hK4=>Xf F rfl (Xh rfl (Xe rfl rfl JL (Xd rfl (qNK hK4 ?_))));clear hK4;clear F a;intro a F;refine wp_ret ?_;simp only [Exit.then];refine JI results81 F rfl ?_
  exact ⟨JZ (by simp_all [MC]),H.below⟩
 replace h8:=J2 h8;refine wp_skip (hK2 _ _ ?_);clear hK2;refine JD (fun K5 hK5=>?_);refine cSR fun K6 hK6=>Xf F rfl (Xe rfl rfl (JL (y:=5)) (qNK hK6 ?_));clear hK6;clear F a;intro a F
 refine cIf F rfl (fun h13=>?_) (fun h13=>?_)
 ·
  replace h13:=J1 h13;refine cSR fun K7 hK7=>Xf F rfl (Xh rfl (Xe rfl rfl Xba (Xd rfl (qNK hK7 ?_))));clear hK7;clear F a;intro a F;refine wp_ret ?_;simp only [Exit.then];refine JI results81 F rfl ?_
  exact ⟨JZ (by simp_all [MC]),H.below⟩
 replace h13:=J2 h13;refine wp_skip (hK5 _ _ (cSR fun K8 hK8=>Xf F rfl (Xe rfl rfl (JL (y:=6)) (Xh rfl ?_))));clear hK5;clear F a;intro a F
 refine F.split 19 rfl ?_ ?_ <;> (clear F;intro h19 F)
 ·
  replace h19:=J1 h19;refine Xf F rfl (Xh rfl (Xe rfl rfl Eu (Xy rfl rfl (Xd rfl (qNK hK8 ?_)))));clear hK8;clear F a;intro a F;refine wp_ret ?_;refine JI results81 F rfl ?_
  exact ⟨JZ (by simp_all [MC]),H.below⟩
 replace h19:=J2 h19;refine XB F (XC (XC (Xy rfl rfl (Xd rfl (qNK hK8 ?_)))));clear hK8;clear F a;intro a F;refine wp_ret ?_;refine JI results81 F rfl ?_
 exact ⟨JZ (by simp_all [MC]),H.below⟩
def Xew (t:By) (dst v:UInt8):By:=if dst.toNat < 8 then put t dst.toNat v else t
theorem EH (t:By) (dst v:UInt8) (w0:World):Calls Tryz.prog 40 #[.agg (bs 8 t).toArray,b8 dst,b8 v] w0 fun e w'=>e = .returned (.agg (bs 8 (Xew t dst v)).toArray)∧Below w0.heap.size w0 w':=by
 have H:=Own.start w0 none
 refine JF func40 rfl ntmps40 rfl (fun a F=>?_);refine cSR fun K1 hK1=>?_;refine Mg H F rfl rfl rfl ?_;clear F a H;intro b3 a w F H;refine Mo H zB30 F rfl rfl ?_;clear F a H;intro b6 a w F H;refine nK hK1 ?_;clear hK1;refine JD (fun K2 hK2=>?_);refine cSR fun K3 hK3=>Xf F rfl (Xe rfl rfl (Xdz (y:=7)) (qNK hK3 ?_));clear hK3;clear F a;intro a F
 refine cIf F rfl (fun h8=>?_) (fun h8=>?_)
 ·
  replace h8:=of_decide_eq_true h8
  have hd8:dst.toNat < 8:=(by have:=UInt8.le_iff_toNat_le.1 h8;have e:(7:UInt8).toNat=7:=rfl;omega)
  refine JY (Xf F rfl (Xh rfl ?_));clear F a;intro a F
  refine Xi3 X9 XH F rfl rfl rfl rfl ?_ ?_
  focus (omega)
  clear F a;intro a F;refine LJ H 1 XH F rfl rfl rfl rfl (by omega) ?_;clear H;intro w H;refine nK hK2 (cSR fun K4 hK4=>Xs X9 rfl X1 F rfl (H.whole 1 rfl) ?_);clear hK2;clear F a;intro a F;refine Xt H 0 X1 F rfl rfl rfl ?_;clear H;intro w H;rw [JE] at H;refine nK hK4 ?_;clear hK4;refine wp_ret ?_;refine NE results40 F rfl X9 rfl X1 H 0 rfl ?_
  refine ⟨?_,H.below⟩
  clear F H
  (rw [Xew,if_pos hd8];done)
 replace h8:=of_decide_eq_false h8
 have hd8:¬ dst.toNat < 8:=(by intro hq;apply h8;rw [UInt8.le_iff_toNat_le];have e:(7:UInt8).toNat=7:=rfl;omega)
 refine wp_skip (hK2 _ _ (cSR fun K5 hK5=>Xs X9 rfl X1 F rfl (H.whole 1 rfl) ?_));clear hK2;clear F a;intro a F;refine Xt H 0 X1 F rfl rfl rfl ?_;clear H;intro w H;rw [JE] at H;refine nK hK5 ?_;clear hK5;refine wp_ret ?_;refine NE results40 F rfl X9 rfl X1 H 0 rfl ?_
 refine ⟨?_,H.below⟩
 clear F H
 (rw [Xew,if_neg hd8])
theorem XaP {t:By} {dst v:UInt8}:∀ i,i < 9→lay t 1 8 (Xew (cut t 1) dst v) i=MR t dst v i:=fun i hi=>by
 unfold lay Xew MR
 by_cases hd:dst.toNat < 8
 · rw [if_pos hd,if_pos hd]
   by_cases h1:1≤i∧i < 1+8
   · rw [if_pos h1]
     unfold put cut
     by_cases h2:i - 1=dst.toNat
     · rw [if_pos h2,if_pos (by omega)]
     · rw [if_neg h2,if_neg (by omega)];congr 1;omega
   · rw [if_neg h1];unfold put;rw [if_neg (by omega)]
 · rw [if_neg hd,if_neg hd]
   split
   · unfold cut;congr 1;omega
   · rfl
theorem CL (x:Ins) (t:By) (w0:World) :
   Calls Tryz.prog 67 #[.agg x.cells.toArray,.agg (bs 9 t).toArray] w0 fun e w'=>e = .returned (.tuple #[.agg (bs 9 (Ni x t)).toArray,.bool (JB x)])∧Below w0.heap.size w0 w':=by
 have H:=Own.start w0 none
 refine JF func67 rfl ntmps67 rfl (fun a F=>?_);refine cSR fun K1 hK1=>?_;refine sBx H F rfl rfl rfl ?_;clear F a H;intro b2 a w F H;refine Mg H F rfl rfl rfl ?_;clear F a H;intro b3 a w F H;refine Mo H Xe1 F rfl rfl ?_;clear F a H;intro b4 a w F H;refine Xa F rfl (qNK hK1 (qSR fun K2 hK2=>Xr (f:=3) (k:=3) XI rfl XR rfl rfl rfl ?_));clear hK1;clear F a;intro a F
 refine Xw XV rfl ?si F rfl (H.range 2 rfl _ 2) ?_
 case si=>exact Jz XR
 clear F a;intro a F;refine Xb (f:=1) (k:=1) XK rfl X1 rfl rfl F rfl (Nu X9 rfl X1 rfl rfl rfl (H.ra' 1 _ 8 rfl) ?_);clear F a;intro a F;refine Xu call37 F rfl (MD x.aR x.aN (cut t 1) _) (gG H ?_);clear F a H;intro a w F H;refine Xa F rfl (qNK hK2 (qSR fun K3 hK3=>Xr (f:=4) (k:=5) XI rfl XR rfl rfl rfl ?_));clear hK2;clear F a;intro a F
 refine Xw XV rfl ?si F rfl (H.range 2 rfl _ 2) ?_
 case si=>exact Jz XR
 clear F a;intro a F;refine Xb (f:=1) (k:=1) XK rfl X1 rfl rfl F rfl (Nu X9 rfl X1 rfl rfl rfl (H.ra' 1 _ 8 rfl) ?_);clear F a;intro a F;refine Xu call37 F rfl (MD x.bR x.bN (cut t 1) _) (gG H ?_);clear F a H;intro a w F H;refine Xa F rfl (qNK hK3 ?_);clear hK3;clear F a;intro a F;refine JD (fun K4 hK4=>?_);refine cSR fun K5 hK5=>Xb (f:=0) (k:=0) XI rfl XH rfl rfl F rfl (Xc XJ rfl (H.cell 2 rfl rfl) (Xe rfl rfl (JL (y:=3)) (qNK hK5 ?_)));clear hK5;clear F a;intro a F
 refine cIf F rfl (fun h20=>?_) (fun h20=>?_)
 ·
  replace h20:=J1 h20;refine JD (fun K6 hK6=>?_);refine Xi H ?_;replace H:=H.drew;refine Xj 0 rfl F rfl (fun w=>rFa (f:=1) (k:=1) XK rfl X1 rfl rfl F rfl) H qq0 (Xl 1 rfl rfl rfl (fun a F w H=>Nt X9 rfl X1 F rfl (H.ra' 1 _ 8 rfl)) H qq0 (Xm 2 rfl rfl (fun a F w=>rFa (f:=1) (k:=1) XI rfl XH rfl rfl F rfl) H qq0 (Xl 3 rfl rfl rfl (fun a F w H=>rLd XJ F rfl (H.cell 2 rfl rfl)) H qq0 (Xm 4 rfl rfl (fun a F w=>rFa (f:=5) (k:=7) XI rfl XH rfl rfl F rfl) H qq0 (Xl 5 rfl rfl rfl (fun a F w H=>rLd XJ F rfl (H.cell 2 rfl rfl)) H qq0 (Xm 6 rfl rfl (fun a F w=>rMv F rfl) H qq0 (Xm 7 rfl rfl (fun a F w=>rMv F rfl) H qq0 ?_)))))));clear F a;intro a F;refine Xn (k:=8) (i:=8) rfl F (J3 call80 F rfl rfl (Xer x.fn _ _ _) (gG H ?_));clear F a H;intro a w F H;refine JR H ?_;refine Xn (k:=9) (i:=9) rfl F (J3 call40 F rfl rfl (EH (cut t 1) x.dst _ _) (gG H ?_));clear F a H;intro a w F H;refine Xo H ?_;refine Xj 10 rfl F rfl (fun w=>rFa (f:=1) (k:=1) XK rfl X1 rfl rfl F rfl) H qq0 ?_;clear F a;intro a F
  refine Xn (k:=11) (i:=11) rfl F (DV H 1 X1 F rfl rfl rfl (by omega) ?_);clear H;intro w H;refine Xo H ?_;refine Xp (k:=12) ?_;refine hK6 _ _ (cSR fun K7 hK7=>Xb (f:=0) (k:=0) XK rfl XH rfl rfl F rfl (Xc XJ rfl (H.ce' 1 rfl) (Xe rfl rfl (ND (y:=1)) (Xr (f:=0) (k:=0) XK rfl XH rfl rfl rfl ?_))));clear hK6;clear F a;intro a F;refine LJ H 1 XH F rfl rfl rfl rfl (by omega) ?_;clear H;intro w H;refine nK hK7 (cSR fun K8 hK8=>Xs XK rfl XN F rfl (H.whole 1 rfl) ?_);clear hK7;clear F a;intro a F;refine Xt H 0 XN F rfl rfl rfl ?_;clear H;intro w H;rw [JE] at H;refine Xa F rfl (qNK hK8 ?_);clear hK8;clear F a;intro a F;refine wp_ret ?_;simp only [Exit.then];refine QJ Zl F rfl rfl XK rfl XN H 0 rfl ?_
  refine ⟨?_,H.below⟩
  clear F H
  (have e1:JB x=true:=by simp [JB, *]
   rw [e1];refine Lo fun i hi=>?_
   have hl:=XaP (t:=t) (dst:=x.dst) (v:=Lk x.fn (Ns x t) (E9 x t))
   rw [Ni,if_pos h20]
   by_cases h0:i=0
   · subst h0
     simp [put,lay]
   · simp only [put,if_neg h0]
     exact hl i hi)
 replace h20:=J2 h20;refine wp_skip (hK4 _ _ ?_);clear hK4;refine JD (fun K9 hK9=>?_);refine cSR fun K10 hK10=>Xb (f:=0) (k:=0) XI rfl XH rfl rfl F rfl (Xc XJ rfl (H.cell 2 rfl rfl) (Xe rfl rfl (JL (y:=8)) (qNK hK10 ?_)));clear hK10;clear F a;intro a F
 refine cIf F rfl (fun h39=>?_) (fun h39=>?_)
 ·
  replace h39:=J1 h39;refine JD (fun K11 hK11=>?_);refine cSR fun K12 hK12=>Xb (f:=5) (k:=7) XI rfl XH rfl rfl F rfl (Xc XJ rfl (H.cell 2 rfl rfl) (Xh rfl (Xh rfl ?_)));clear F a;intro a F;refine Xu call81 F rfl (XfA x.fn _ _ _) (gG H ?_);clear F a H;intro a w F H;refine nK hK12 ?_;clear hK12
  refine cIf F rfl (fun h44=>?_) (fun h44=>?_)
  ·
   refine JY (Xb (f:=0) (k:=0) XK rfl XH rfl rfl F rfl (Xc XJ rfl (H.ce' 1 rfl) (Xr (f:=7) (k:=9) XI rfl XH rfl rfl rfl (Xc XJ rfl (H.cell 2 rfl rfl) (Xe rfl rfl (ND) (Xr (f:=0) (k:=0) XK rfl XH rfl rfl rfl ?_))))));clear F a;intro a F;refine LJ H 1 XH F rfl rfl rfl rfl (by omega) ?_;clear H;intro w H;refine nK hK11 (cSR fun K13 hK13=>Xb (f:=0) (k:=0) XK rfl XH rfl rfl F rfl (Xc XJ rfl (H.ce' 1 rfl) (Xe rfl rfl (ND (y:=1)) (Xr (f:=0) (k:=0) XK rfl XH rfl rfl rfl ?_))));clear hK11;clear F a;intro a F;refine LJ H 1 XH F rfl rfl rfl rfl (by omega) ?_;clear H;intro w H;refine nK hK13 (cSR fun K14 hK14=>Xs XK rfl XN F rfl (H.whole 1 rfl) ?_);clear hK13;clear F a;intro a F;refine Xt H 0 XN F rfl rfl rfl ?_;clear H;intro w H;rw [JE] at H;refine Xa F rfl (qNK hK14 ?_);clear hK14;clear F a;intro a F;refine wp_ret ?_;simp only [Exit.then];refine QJ Zl F rfl rfl XK rfl XN H 0 rfl ?_
   refine ⟨?_,H.below⟩
   clear F H
   (have e1:JB x=true:=by simp [JB, *]
    rw [e1];refine Lo fun i _=>?_;by_cases hi:i=0 <;> simp [Ni,MR,Ns,E9,put,hi, *])
  refine wp_skip (hK11 _ _ (cSR fun K15 hK15=>Xb (f:=0) (k:=0) XK rfl XH rfl rfl F rfl (Xc XJ rfl (H.ce' 1 rfl) (Xe rfl rfl (ND (y:=1)) (Xr (f:=0) (k:=0) XK rfl XH rfl rfl rfl ?_)))));clear hK11;clear F a;intro a F;refine LJ H 1 XH F rfl rfl rfl rfl (by omega) ?_;clear H;intro w H;refine nK hK15 (cSR fun K16 hK16=>Xs XK rfl XN F rfl (H.whole 1 rfl) ?_);clear hK15;clear F a;intro a F;refine Xt H 0 XN F rfl rfl rfl ?_;clear H;intro w H;rw [JE] at H;refine Xa F rfl (qNK hK16 ?_);clear hK16;clear F a;intro a F;refine wp_ret ?_;simp only [Exit.then];refine QJ Zl F rfl rfl XK rfl XN H 0 rfl ?_
  refine ⟨?_,H.below⟩
  clear F H
  (have e1:JB x=true:=by simp [JB, *]
   rw [e1];refine Lo fun i _=>?_;by_cases hi:i=0 <;> simp [Ni,MR,Ns,E9,put,hi, *])
 replace h39:=J2 h39;refine wp_skip (hK9 _ _ ?_);clear hK9;refine JD (fun K17 hK17=>?_);refine cSR fun K18 hK18=>Xb (f:=0) (k:=0) XI rfl XH rfl rfl F rfl (Xc XJ rfl (H.cell 2 rfl rfl) (Xe rfl rfl (JL (y:=7)) (qNK hK18 ?_)));clear hK18;clear F a;intro a F
 refine cIf F rfl (fun h58=>?_) (fun h58=>?_)
 ·
  replace h58:=J1 h58;refine cSR fun K19 hK19=>Xb (f:=0) (k:=0) XK rfl XH rfl rfl F rfl (Xc XJ rfl (H.ce' 1 rfl) (Xe rfl rfl (ND (y:=1)) (Xr (f:=0) (k:=0) XK rfl XH rfl rfl rfl ?_)));clear F a;intro a F;refine LJ H 1 XH F rfl rfl rfl rfl (by omega) ?_;clear H;intro w H;refine nK hK19 (cSR fun K20 hK20=>Xs XK rfl XN F rfl (H.whole 1 rfl) ?_);clear hK19;clear F a;intro a F;refine Xt H 0 XN F rfl rfl rfl ?_;clear H;intro w H;rw [JE] at H;refine Xa F rfl (qNK hK20 ?_);clear hK20;clear F a;intro a F;refine wp_ret ?_;simp only [Exit.then];refine QJ Zl F rfl rfl XK rfl XN H 0 rfl ?_
  refine ⟨?_,H.below⟩
  clear F H
  (have e1:JB x=true:=by simp [JB, *]
   rw [e1];refine Lo fun i _=>?_;by_cases hi:i=0 <;> simp [Ni,MR,Ns,E9,put,hi, *])
 replace h58:=J2 h58;refine wp_skip (hK17 _ _ (cSR fun K21 hK21=>Xs XK rfl XN F rfl (H.whole 1 rfl) ?_));clear hK17;clear F a;intro a F;refine Xt H 0 XN F rfl rfl rfl ?_;clear H;intro w H;rw [JE] at H;refine Xa F rfl (qNK hK21 ?_);clear hK21;clear F a;intro a F;refine wp_ret ?_;refine QJ Zl F rfl rfl XK rfl XN H 0 rfl ?_
 refine ⟨?_,H.below⟩
 clear F H
 (have e1:JB x=false:=by simp [JB, *]
  rw [e1];refine Lo fun i _=>?_;by_cases hi:i=0 <;> simp [Ni,MR,Ns,E9,put,hi, *])
theorem Xhu (x:Ins) (t:By) (had:UInt8) (w0:World) :
   Calls Tryz.prog 68 #[.agg x.cells.toArray,.agg (bs 8 (cut t 1)).toArray,b8 had] w0 fun e w'=>e = .returned (b8 (Cd x t had))∧Below w0.heap.size w0 w':=by
 have H:=Own.start w0 none
 refine JF func68 rfl ntmps68 rfl (fun a F=>?_);refine cSR fun K1 hK1=>?_;refine sBx H F rfl rfl rfl ?_;clear F a H;intro b3 a w F H;refine Mg H F rfl rfl rfl ?_;clear F a H;intro b4 a w F H;refine Xa F rfl (qNK hK1 (qSR fun K2 hK2=>Xr (f:=3) (k:=3) XI rfl XR rfl rfl rfl ?_));clear hK1;clear F a;intro a F
 refine Xw XV rfl ?si F rfl (H.range 1 rfl _ 2) ?_
 case si=>exact Jz XR
 clear F a;intro a F;refine Xs X9 rfl X1 F rfl (H.whole 0 rfl) ?_;clear F a;intro a F;refine Xu call37 F rfl (MD x.aR x.aN (cut t 1) _) (gG H ?_);clear F a H;intro a w F H;refine Xa F rfl (qNK hK2 ?_);clear hK2;clear F a;intro a F;refine JD (fun K3 hK3=>?_);refine cSR fun K4 hK4=>Xb (f:=0) (k:=0) XI rfl XH rfl rfl F rfl (Xc XJ rfl (H.cell 1 rfl rfl) (qNK hK4 ?_));clear hK4;clear F a;intro a F;refine wp_block ?_;refine JD (fun K5 hK5=>?_);refine cSR fun K6 hK6=>Xg F rfl rfl (JL (y:=2)) (Xd rfl (qNK hK6 ?_));clear hK6;clear F a;intro a F
 refine F.split 14 rfl ?_ ?_ <;> (clear F;intro h14 F)
 ·
  replace h14:=J1 h14;refine MQ F rfl ?_;refine wp_skip (hK5 _ _ ?_);clear hK5;refine MQ F rfl ?_;refine cSR fun K7 hK7=>Xf F rfl (Xd rfl (qNK hK7 ?_));clear hK7;clear F a;intro a F;refine wp_ret ?_;refine xI ?_;refine JI Zf F rfl ?_
  exact ⟨DG (by clear F H;simp_all [Cd,Ns,E9]),H.below⟩
 replace h14:=J2 h14;refine LB F rfl ?_;refine JY (Xg F rfl rfl (JL (y:=4)) (Xd rfl (qNK hK5 ?_)));clear hK5;clear F a;intro a F
 refine F.split 14 rfl ?_ ?_ <;> (clear F;intro h14 F)
 ·
  replace h14:=J1 h14;refine MQ F rfl ?_;refine cSR fun K8 hK8=>Xf F rfl (Xd rfl (qNK hK8 ?_));clear hK8;clear F a;intro a F;refine wp_ret ?_;refine xI ?_;refine JI Zf F rfl ?_
  exact ⟨DG (by clear F H;simp_all [Cd,Ns,E9]),H.below⟩
 replace h14:=J2 h14;refine LB F rfl ?_;refine cSR fun K9 hK9=>Xg F rfl rfl (JL (y:=5)) (Xd rfl (qNK hK9 ?_));clear hK9;clear F a;intro a F
 refine cIf F rfl (fun h18=>?_) (fun h18=>?_)
 ·
  replace h18:=J1 h18;refine cSR fun K10 hK10=>Xf F rfl (Xh rfl (Xe rfl rfl (ND) (Xd rfl (qNK hK10 ?_))));clear hK10;clear F a;intro a F;refine wp_ret ?_;refine xI ?_;refine JI Zf F rfl ?_
  exact ⟨DG (by clear F H;simp_all [Cd,Ns,E9]),H.below⟩
 replace h18:=J2 h18;refine cSR fun K11 hK11=>Xg F rfl rfl (JL (y:=6)) (Xd rfl (qNK hK11 ?_));clear hK11;clear F a;intro a F
 refine cIf F rfl (fun h23=>?_) (fun h23=>?_)
 ·
  replace h23:=J1 h23;refine cSR fun K12 hK12=>Xf F rfl (Xh rfl (Xe rfl rfl JL (qNK hK12 ?_)));clear hK12;clear F a;intro a F
  refine cIf F rfl (fun h27=>?_) (fun h27=>?_)
  ·
   replace h27:=J1 h27;refine cSR fun K13 hK13=>Xb (f:=4) (k:=5) XI rfl XR rfl rfl F rfl ?_;clear F a;intro a F
   refine Xw XV rfl ?si F rfl (H.range 1 rfl _ 2) ?_
   case si=>exact Jz XR
   clear F a;intro a F;refine Xs X9 rfl X1 F rfl (H.whole 0 rfl) ?_;clear F a;intro a F;refine Xu call37 F rfl (MD x.bR x.bN (cut t 1) _) (gG H ?_);clear F a H;intro a w F H;refine Xa F rfl (qNK hK13 ?_);clear hK13;clear F a;intro a F;refine wp_ret ?_;refine xI ?_;refine JI Zf F rfl ?_
   exact ⟨DG (by clear F H;simp_all [Cd,Ns,E9]),H.below⟩
  replace h27:=J2 h27;refine wp_skip (hK3 _ _ (cSR fun K14 hK14=>Xf F rfl (Xd rfl (qNK hK14 ?_))));clear hK3 hK14;clear F a;intro a F;refine wp_ret ?_;refine JI Zf F rfl ?_
  exact ⟨DG (by clear F H;simp_all [Cd,Ns,E9]),H.below⟩
 replace h23:=J2 h23;refine wp_skip (hK3 _ _ (cSR fun K15 hK15=>Xf F rfl (Xd rfl (qNK hK15 ?_))));clear hK3 hK15;clear F a;intro a F;refine wp_ret ?_;refine JI Zf F rfl ?_
 exact ⟨DG (by clear F H;simp_all [Cd,Ns,E9]),H.below⟩
end Go.Proofs.YtcpehikcegoojaaGreatDoor
