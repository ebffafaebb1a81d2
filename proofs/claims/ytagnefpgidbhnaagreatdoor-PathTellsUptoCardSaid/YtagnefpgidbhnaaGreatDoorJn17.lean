/-
  WALK2. The reference's Right. Conditions: the program lies in memory, and its condition's depth is a Vn that an int holds.
-/
import Derived.Test.YtagnefpgidbhnaaGreatDoorJn16
import Derived.Test.YtagnefpgidbhnaaGreatDoorRefK
import Derived.Test.YtagnefpgidbhnaaGreatDoorJn6
import Derived.Test.YtagnefpgidbhnaaGreatDoorJn11
set_option linter.unusedSimpArgs false
set_option linter.unusedVariables false
namespace Go.Proofs.YtagnefpgidbhnaaGreatDoor
-- RfC
open Go.Proofs.Tryz
open Go.RowKit
set_option maxRecDepth 100000
abbrev B8:=b8
section
variable {p:Prg}
theorem re70 (h:Yu p.name=false):X5 p=70:=by simp [X5,YD,ZE,Z7,h]
theorem Xci (h0:Yu p.name=true) (h:YI p=false):X5 p=71:=by simp [X5,YD,ZE,Z7,h,h0]
theorem re72 (h0:Yu p.name=true) (h1:YI p=true) (h:XO p=false):X5 p=72:=by simp [X5,YD,ZE,Z7,h,h0,h1]
theorem re73 (h0:Yu p.name=true) (h1:YI p=true) (h2:XO p=true) (h:YC p=false):X5 p=73:=by simp [X5,YD,ZE,Z7,h,h0,h1,h2]
theorem re75 (h0:Yu p.name=true) (h1:YI p=true) (h2:XO p=true) (h3:YC p=true) (h:Vh p=false):X5 p=75:=by simp [X5,YD,ZE,Z7,h,h0,h1,h2,h3]
theorem re74 (h0:Yu p.name=true) (h1:YI p=true) (h2:XO p=true) (h3:YC p=true) (h4:Vh p=true) (h:Yk p.threads.length p.locs.length 20 p.cond=false):X5 p=74:=by simp [X5,YD,ZE,Z7,h,h0,h1,h2,h3,h4]
theorem re0 (h0:Yu p.name=true) (h1:YI p=true) (h2:XO p=true) (h3:YC p=true) (h4:Vh p=true) (h:Yk p.threads.length p.locs.length 20 p.cond=true):X5 p=0:=by simp [X5,YD,ZE,h,h0,h1,h2,h3,h4]
end
theorem XbS (m:UInt8):(m == 1 || m == 2 || m == 3)=(decide (1≤m) && decide (m≤3)):=(fn13 m).symm
theorem JP {s:ByteArray} {w w':World} {e:Ending} (h:WI s w e w'):∃ (sv:Value) (p:Nat) (f:Int),e = .returned (.tuple #[sv,.int .i64 (p:Int),.int .i64 f])∧Below w.heap.size w w' ∧
   ((f=0∧Yx s=none∧w'.ownsRow w.heap.size 113 3 sv (Wp s).length (YZ (Wp s)))∨(f ≠ 0∧Yx s ≠ none∧sv = .slice none 0 0)):=by
 obtain ⟨h1,⟨p,f,h2,h3⟩ | ⟨h2,sv,h3,h4,_⟩⟩:=h
 · refine ⟨_,p,f,h3,h1,.inr ⟨?_,by rw [h2];simp,rfl⟩⟩
   unfold Yx at h2
   split at h2
   · cases h2;decide
   · obtain ⟨t,ht,he⟩:=Option.map_eq_some_iff.1 h2
     cases he
     have:∀ l t,Yl l=some t→XT t ≠ 0:=by
       intro l
       induction l with
       | nil=>intro t h;cases h
       | cons a r ih=>
         intro t h
         unfold Yl at h
         split at h
         · exact ih t h
         · cases h;assumption
     exact this _ _ ht
 · exact ⟨sv,0,0,h3,h1,.inl ⟨rfl,h2,h4⟩⟩
theorem Do {w w':World} {e:TypeId} {sz n:Nat} {sv:Value} {xs:List Value} (hb:Below w.heap.size w w') (h:w'.ownsRow w.heap.size e sz sv n xs):Own w none w' [.arr e sz sv n xs]:=by
 refine (Own.start w none).add _ hb ?_ ?_
 · refine ⟨h.1,?_⟩
   rcases h.2 with h1 | ⟨g,cap,cur,h1,h2,h3⟩
   · exact .inl h1
   · exact .inr ⟨g,cap,cur,h1,Nat.zero_le _,h3⟩
 · intro b hbk
   rcases h.2 with h1 | ⟨g,cap,cur,h1,h2,h3,_⟩
   · rw [show sv=_ from h1.1] at hbk
     simp [Res.arr,Value.ownBlock] at hbk
   · subst h1
     have:b=g:=by simpa [Res.arr,Value.ownBlock] using hbk.symm
     subst this
     exact ⟨h2,(Array.getElem?_eq_some_iff.1 h3).1⟩
theorem Dn {w0 w:World} {row:Option Nat} {rs:List Res} (H:Own w0 row w rs) (i:Nat) {e:TypeId} {sz n C g:Nat} {xs:List Value} (hi:rs[i]? = some (.arr e sz (.slice (some ⟨g,0,none⟩) n C) n xs)) {j:Nat} {v:Value} (hj:xs[j]? = some v):w.cell? ⟨g,j,none⟩=some v:=by
 obtain ⟨A,C',h1,h2⟩:=Gy (H.arr i hi)
 cases h1
 obtain ⟨g',h3,h4⟩:=h2 j v hj
 cases h3
 exact h4
theorem Ca {s:ByteArray} {w w':World} {e:Ending} (h:WI s w e w'):∃ (A:Option Addr) (n C:Nat) (xs:List Value) (p:Nat) (f:Int),e = .returned (.tuple #[.slice A n C,.int .i64 (p:Int),.int .i64 f]) ∧
   ((f=0∧Yx s=none∧n=(Wp s).length∧xs=YZ (Wp s)∧(0 < n→∃ g,A=some ⟨g,0,none⟩))∨(f ≠ 0∧Yx s ≠ none))∧Own w none w' [.arr 113 3 (.slice A n C) n xs]:=by
 obtain ⟨sv,p,f,rfl,hb,⟨h1,h2,h3⟩ | ⟨h1,h2,rfl⟩⟩:=JP h
 · obtain ⟨A,C,rfl,h5⟩:=Gy h3
   refine ⟨A,_,C,_,p,f,rfl,.inl ⟨h1,h2,rfl,rfl,fun hpos=>?_⟩,Do hb h3⟩
   rcases h3.2 with h6 | ⟨g,cap,cur,h6,_⟩
   · omega
   · cases h6;exact ⟨g,rfl⟩
 · exact ⟨none,0,0,[],p,f,rfl,.inr ⟨h1,h2⟩,Do hb (World.ownsRow_nil _ _ _ _)⟩
theorem N3 {s:ByteArray} (h:(Wp s).length ≠ 2):Yu s=false:=by
 unfold Yu
 rw [Bool.and_eq_false_iff];right
 split
 · rename_i t u hq;rw [hq] at h;simp at h
 · rfl
theorem N2 {s:ByteArray} {t u:Tok} (h0:Yx s=none) (h:Wp s=[t,u]):Yu s=(t.kind == 1 && t.text.toList == s.toList):=by
 unfold Yu;rw [h0,h];rfl
set_option maxHeartbeats 4000000 in
theorem LB (cs:List Value) (p:Prg) (w0:World) (hP:ProgAt w0 cs p) (hd:Z8 p.cond≤9223372036854775807) :
   Calls Tryz.prog 30 #[.agg cs.toArray] w0 fun e w'=>e = .returned (.int .i64 (X5 p))∧Below w0.heap.size w0 w':=by
 have H:=Own.start w0 none
 obtain ⟨LA,LC,IA,IC,TA,TC,hh,ccs,hp⟩:=hP
 obtain ⟨c1,c2,c3,c4,c5,rfl⟩:=Xat (Zc hp.cond)
 have hcs:=hp.cs
 subst hcs
 have hn:=hp.locsN
 have hi:=hp.initN
 have htn:=hp.threadsN
 refine XE func30 rfl ntmps30 rfl (fun a F=>?_);refine cSR fun K1 hK1=>?_;refine sBx H F rfl rfl rfl ?_;clear F a H;intro b1 a w F H;refine Xa F rfl (qNK hK1 (qSR fun K2 hK2=>Xb (f:=0) (k:=0) underlying30 rfl sizeOf9 rfl rfl rfl (Xc isAgg9 rfl (H.cell 0 rfl rfl) ?_)));clear hK1;clear F a;intro a F;refine Xn call43 F rfl (Cb p.name _ hp.name) ?_;rintro e w hx2
 obtain ⟨A,n,C,xs,q,f,rfl,hq,H2⟩:=Ca hx2;replace H:=H.join H2;clear H2 hx2
 refine ⟨_,rfl,?_⟩;clear F a;intro a F;refine Xl F rfl (XB rfl rfl (XB rfl rfl (XB rfl rfl (Xh rfl (Xh rfl (Xh rfl (qNK hK2 ?_)))))));clear hK2;clear F a;intro a F;refine cSeq (fun K3 hK3=>?_);refine cSeq (fun K4 hK4=>?_);refine cRegRO (by kernel_rfl) H ?_;replace H:=H.drew;refine Xt 0 rfl F rfl (fun w=>rMv F rfl) H qq0 (Xu 1 rfl rfl (fun a F w=>YA F rfl rfl U7) H qq0 (Xu 2 rfl rfl (fun a F w=>rMv F rfl) H qq0 ?_));clear F a;intro a F
 refine F.split 19 rfl ?_ ?_ <;> (clear F;intro h19 F)
 ·
  replace h19:=UL h19
  have hw0:Yu p.name=false:=by
    rcases hq with ⟨h2,_⟩ | ⟨_,h2⟩
    · exact absurd h2 h19
    · unfold Yu
      cases hl:Yx p.name with
      | none=>exact absurd hl h2
      | some _=>rfl
  refine eSF 3 rfl (by kernel_rfl) F rfl rfl rfl H qq0 (Xy 4 rfl rfl H qq0 (Xy 5 rfl rfl H qq0 (Xu 6 rfl rfl (fun a F w=>rPk F rfl rfl) H qq0 (Xu 7 rfl rfl (fun a F w=>rMv F rfl) H qq0 (Xy 8 rfl rfl H qq0 (Xy 9 rfl rfl H qq0 (Xy 10 rfl rfl H qq0 (Xy 11 rfl rfl H qq0 (Xy 12 rfl rfl H qq0 (Xu 13 rfl rfl (fun a F w=>rPk F rfl rfl) H qq0 (Xu 14 rfl rfl (fun a F w=>rMv F rfl) H qq0 (Xy 15 rfl rfl H qq0 (Xy 16 rfl rfl H qq0 (Xy 17 rfl rfl H qq0 (Xy 18 rfl rfl H qq0 (Xy 19 rfl rfl H qq0 (Xy 20 rfl rfl H qq0 (Xy 21 rfl rfl H qq0 (Xu 22 rfl rfl (fun a F w=>rPk F rfl rfl) H qq0 ?_)))))))))))))))))));clear F a;intro a F;refine eNil (k:=23) (by kernel_rfl) ?_;refine hK4 _ _ ?_;clear hK4;refine cIfT F rfl ?_;refine cSR fun K5 hK5=>Xa F rfl (qNK hK5 ?_);clear hK5;clear F a;intro a F;refine wp_ret ?_;simp only [Exit.then];refine bRet results30 F rfl ?_
  exact ⟨by rw [re70 hw0],H.below⟩
 replace h19:=UM h19
 obtain ⟨hb0,hnl,hxs,hA⟩:Yx p.name=none∧n=(Wp p.name).length∧xs=YZ (Wp p.name)∧(0 < n→∃ g,A=some ⟨g,0,none⟩):=by
   rcases hq with ⟨_,h2⟩ | ⟨h2,_⟩
   · exact h2
   · exact absurd h19 h2
 refine Xt 3 rfl F rfl (fun w=>rMv F rfl) H qq0 (Xz 4 rfl rfl rfl (fun a F w H=>Dg underlying109 F rfl) H qq0 (Xu 5 rfl rfl (fun a F w=>YA F rfl rfl U7) H qq0 (Xu 6 rfl rfl (fun a F w=>rPk F rfl rfl) H qq0 (Xu 7 rfl rfl (fun a F w=>rMv F rfl) H qq0 ?_))));clear F a;intro a F
 refine F.split 24 rfl ?_ ?_ <;> (clear F;intro h24 F)
 ·
  replace h24:=UL h24
  have hw0:Yu p.name=false:=N3 (by omega)
  refine eSF 8 rfl (by kernel_rfl) F rfl rfl rfl H qq0 (Xy 9 rfl rfl H qq0 (Xy 10 rfl rfl H qq0 (Xy 11 rfl rfl H qq0 (Xy 12 rfl rfl H qq0 (Xu 13 rfl rfl (fun a F w=>rPk F rfl rfl) H qq0 (Xu 14 rfl rfl (fun a F w=>rMv F rfl) H qq0 (Xy 15 rfl rfl H qq0 (Xy 16 rfl rfl H qq0 (Xy 17 rfl rfl H qq0 (Xy 18 rfl rfl H qq0 (Xy 19 rfl rfl H qq0 (Xy 20 rfl rfl H qq0 (Xy 21 rfl rfl H qq0 (Xu 22 rfl rfl (fun a F w=>rPk F rfl rfl) H qq0 ?_))))))))))))));clear F a;intro a F;refine eNil (k:=23) (by kernel_rfl) ?_;refine hK4 _ _ ?_;clear hK4;refine cIfT F rfl ?_;refine cSR fun K6 hK6=>Xa F rfl (qNK hK6 ?_);clear hK6;clear F a;intro a F;refine wp_ret ?_;simp only [Exit.then];refine bRet results30 F rfl ?_
  exact ⟨by rw [re70 hw0],H.below⟩
 replace h24:=UM h24
 have h2:(Wp p.name).length=2:=by omega
 obtain ⟨t,u,htk⟩:∃ t u,Wp p.name=[t,u]:=by match Wp p.name,h2 with | [t,u],_=>exact ⟨t,u,rfl⟩
 rw [htk] at hxs
 obtain ⟨q1,rfl⟩:=hA (by omega)
 subst hxs
 have how:=N2 hb0 htk
 refine Xt 8 rfl F rfl (fun w=>rMv F rfl) H qq0 ?_;clear F a;intro a F
 refine Xv (k:=9) (i:=9) rfl F rfl (fun w=>rIx (j:=0) underlying109 sizeOf113 F rfl rfl ?_) H (fun _ _ _ h=>h) ?_
 focus (omega)
 clear F a;intro a F;refine Xt 10 rfl F rfl (fun w=>rFa (f:=0) underlying113 rfl sizeOf3 rfl rfl F rfl) H qq0 (Xz 11 rfl rfl rfl (fun a F w H=>rLd isAgg3 F rfl (Dn H 0 rfl (j:=0) rfl)) H qq0 (Xu 12 rfl rfl (fun a F w=>YA F rfl rfl U7) H qq0 (Xu 13 rfl rfl (fun a F w=>rPk F rfl rfl) H qq0 (Xu 14 rfl rfl (fun a F w=>rMv F rfl) H qq0 ?_))));clear F a;intro a F
 refine F.split 31 rfl ?_ ?_ <;> (clear F;intro h31 F)
 ·
  replace h31:=UL h31
  have hw0:Yu p.name=false:=(by rw [how,Bool.and_eq_false_iff];left;exact beq_false_of_ne (fun e=>h31 (by simp [e])))
  refine eSF 15 rfl (by kernel_rfl) F rfl rfl rfl H qq0 (Xy 16 rfl rfl H qq0 (Xy 17 rfl rfl H qq0 (Xy 18 rfl rfl H qq0 (Xy 19 rfl rfl H qq0 (Xy 20 rfl rfl H qq0 (Xy 21 rfl rfl H qq0 (Xu 22 rfl rfl (fun a F w=>rPk F rfl rfl) H qq0 ?_)))))));clear F a;intro a F;refine eNil (k:=23) (by kernel_rfl) ?_;refine hK4 _ _ ?_;clear hK4;refine cIfT F rfl ?_;refine cSR fun K7 hK7=>Xa F rfl (qNK hK7 ?_);clear hK7;clear F a;intro a F;refine wp_ret ?_;simp only [Exit.then];refine bRet results30 F rfl ?_
  exact ⟨by rw [re70 hw0],H.below⟩
 replace h31:=UM h31
 have hk1:(t.kind == 1)=true:=by simp;omega
 refine Xt 15 rfl F rfl (fun w=>rMv F rfl) H qq0 ?_;clear F a;intro a F
 refine Xv (k:=16) (i:=16) rfl F rfl (fun w=>rIx (j:=0) underlying109 sizeOf113 F rfl rfl ?_) H (fun _ _ _ h=>h) ?_
 focus (omega)
 clear F a;intro a F;refine Xt 17 rfl F rfl (fun w=>rFa (f:=1) underlying113 rfl sizeOf9 rfl rfl F rfl) H qq0 (Xz 18 rfl rfl rfl (fun a F w H=>rLd isAgg9 F rfl (Dn H 0 rfl (j:=1) rfl)) H qq0 (Xu 19 rfl rfl (fun a F w=>rFa (f:=0) (k:=0) underlying30 rfl sizeOf9 rfl rfl F rfl) H qq0 (Xz 20 rfl rfl rfl (fun a F w H=>rLd isAgg9 F rfl (H.cell 1 rfl rfl)) H qq0 (Xu 21 rfl rfl (fun a F w=>YA F rfl rfl XcX) H qq0 (Xu 22 rfl rfl (fun a F w=>rPk F rfl rfl) H qq0 ?_)))));clear F a;intro a F;refine eNil (k:=23) (by kernel_rfl) ?_;refine hK4 _ _ ?_;clear hK4
 refine cIf F rfl (fun h39=>?_) (fun h39=>?_)
 ·
  replace h39:=Xcy h39
  have hw0:Yu p.name=false:=(by rw [how,Bool.and_eq_false_iff];right;simpa using h39)
  refine cSR fun K8 hK8=>Xa F rfl (qNK hK8 ?_);clear hK8;clear F a;intro a F;refine wp_ret ?_;simp only [Exit.then];refine bRet results30 F rfl ?_
  exact ⟨by rw [re70 hw0],H.below⟩
 replace h39:=Xcz h39
 have hw1:Yu p.name=true:=(by rw [how,hk1,Bool.true_and];simpa using h39)
 refine wp_skip (hK3 _ _ ?_);clear hK3;refine cSeq (fun K9 hK9=>?_);refine cSR fun K10 hK10=>Xi (f:=1) (k:=1) underlying30 rfl sizeOf24 rfl rfl F rfl (Xc isAgg24 rfl (H.cell 1 rfl rfl) (Xs underlying24 rfl (Xj rfl rfl YW (Xd rfl ?_))));clear F a;intro a F
 refine F.split 44 rfl ?_ ?_ <;> (clear F;intro h44 F)
 ·
  replace h44:=of_decide_eq_true h44
  have hl0:YI p=false:=(by unfold YI;rw [decide_eq_false (show ¬ 1≤p.locs.length by omega)];rfl)
  refine Xe F (Xf (Xf (Xf (Xg rfl rfl (Xd rfl (Xf (Xf (Xf (Xf (Xf (Xf (Xf (Xg rfl rfl (qNK hK10 ?_))))))))))))));clear hK10;clear F a;intro a F;refine cIfT F rfl ?_;refine cSR fun K11 hK11=>Xa F rfl (qNK hK11 ?_);clear hK11;clear F a;intro a F;refine wp_ret ?_;simp only [Exit.then];refine bRet results30 F rfl ?_
  exact ⟨by rw [Xci hw1 hl0],H.below⟩
 replace h44:=of_decide_eq_false h44;refine Xi (f:=1) (k:=1) underlying30 rfl sizeOf24 rfl rfl F rfl (Xc isAgg24 rfl (H.cell 1 rfl rfl) (Xs underlying24 rfl (Xj rfl rfl UO (Xg rfl rfl (Xd rfl ?_)))));clear F a;intro a F
 refine F.split 50 rfl ?_ ?_ <;> (clear F;intro h50 F)
 ·
  replace h50:=of_decide_eq_true h50
  have hl0:YI p=false:=(by unfold YI;rw [decide_eq_false (show ¬ p.locs.length≤6 by omega)];simp)
  refine Xe F (Xf (Xf (Xf (Xf (Xf (Xf (Xg rfl rfl (qNK hK10 ?_))))))));clear hK10;clear F a;intro a F;refine cIfT F rfl ?_;refine cSR fun K12 hK12=>Xa F rfl (qNK hK12 ?_);clear hK12;clear F a;intro a F;refine wp_ret ?_;simp only [Exit.then];refine bRet results30 F rfl ?_
  exact ⟨by rw [Xci hw1 hl0],H.below⟩
 replace h50:=of_decide_eq_false h50;refine Xi (f:=2) (k:=2) underlying30 rfl sizeOf23 rfl rfl F rfl (Xc isAgg23 rfl (H.cell 1 rfl rfl) (Xs underlying23 rfl (Xb (f:=1) (k:=1) underlying30 rfl sizeOf24 rfl rfl rfl (Xc isAgg24 rfl (H.cell 1 rfl rfl) (Xs underlying24 rfl (Xj rfl rfl U7 (Xg rfl rfl (qNK hK10 ?_))))))));clear hK10;clear F a;intro a F
 refine cIf F rfl (fun h58=>?_) (fun h58=>?_)
 ·
  replace h58:=UL h58
  have hl0:YI p=false:=(by unfold YI;rw [show (p.init.length == p.locs.length)=false from beq_false_of_ne (fun e=>h58 (by rw [e]))];simp)
  refine cSR fun K13 hK13=>Xa F rfl (qNK hK13 ?_);clear hK13;clear F a;intro a F;refine wp_ret ?_;simp only [Exit.then];refine bRet results30 F rfl ?_
  exact ⟨by rw [Xci hw1 hl0],H.below⟩
 replace h58:=UM h58
 have hsz:(decide (1≤p.locs.length) && decide (p.locs.length≤6) && p.init.length == p.locs.length)=true:=by
   rw [decide_eq_true (show 1≤p.locs.length by omega),decide_eq_true (show p.locs.length≤6 by omega),show p.init.length=p.locs.length by omega];simp
 have hlo:YI p=Wz p.locs 0 p.locs:=by unfold YI;rw [hsz,Bool.true_and]
 refine wp_skip (hK9 _ _ ?_);clear hK9;refine cSeq (fun K14 hK14=>?_);refine cSR fun K15 hK15=>Xa F rfl (qNK hK15 ?_);clear hK15;clear F a;intro a F;refine wp_block ?_
 refine cLoopS [1] (fun m ups w=>∃ j:Nat,m=p.locs.length - j∧ups=[(6,.int .i64 ((j:Nat):Int))]∧j≤p.locs.length∧Wz p.locs 0 p.locs=Wz p.locs j (p.locs.drop j)∧Own w0 none w [.blk b1 ([.string p.name,.slice LA p.locs.length LC,.slice IA p.init.length IC,.slice TA p.threads.length TC,B8 p.ask]++[c1,c2,c3,c4,c5]) 30]) F (p.locs.length) [(6,.int .i64 ((0:Nat):Int))] ?_ ?_
 · exact ⟨0,rfl,rfl,by omega,rfl,H.sel [1] rfl rfl⟩
 clear F
 clear H
 intro m ups a w hI F
 obtain ⟨j,rfl,rfl,hj,ht,H⟩:=hI
 refine cSeq (fun K16 hK16=>?_);refine cSR fun K17 hK17=>Xl F rfl (Xb (f:=1) (k:=1) underlying30 rfl sizeOf24 rfl rfl rfl (Xc isAgg24 rfl (H.cell 0 rfl rfl) (Xs underlying24 rfl (Xj rfl rfl YW (qNK hK17 ?_)))));clear hK17;clear F a;intro a F
 refine cIf F rfl (fun h63=>?_) (fun h63=>?_)
 ·
  replace h63:=of_decide_eq_true h63
  have hjl:j < p.locs.length:=by omega
  obtain ⟨x,hx⟩:∃ x,p.locs[j]? = some x:=⟨_,List.getElem?_eq_getElem hjl⟩
  obtain ⟨bx,ox,rfl,hcx⟩:=hp.locs.get hx
  have hno:=Va (l:=p.locs) (m:=p.locs) hx
  refine wp_skip (hK16 _ _ ?_);clear hK16;refine cSeq (fun K18 hK18=>?_);refine wp_block ?_;refine cSeq (fun K19 hK19=>?_);refine cSR fun K20 hK20=>Xi (f:=1) (k:=1) underlying30 rfl sizeOf24 rfl rfl F rfl (Xc isAgg24 rfl (H.cell 0 rfl rfl) (Xd rfl ?_));clear F a;intro a F
  refine sIx underlying24 sizeOf9 F rfl rfl rfl rfl ?_ ?_
  focus (omega)
  clear F a;intro a F;refine sLd isAgg9 F rfl rfl rfl (H.arg hcx) ?_;clear F a;intro a F;refine Xn call44 F rfl (E3 x _ (hp.locsS x (List.mem_of_getElem? hx)) _ rfl) (gG H ?_);clear F a H;intro a w F H;refine UV F rfl rfl rfl (qNK hK20 ?_);clear hK20;clear F a;intro a F
  refine cIf F rfl (fun h72=>?_) (fun h72=>?_)
  ·
   replace h72:=ZA h72
   have hl0:YI p=false:=(by rw [hlo,ht,hno,h72];rfl)
   refine cSR fun K21 hK21=>Xa F rfl (qNK hK21 ?_);clear hK21;clear F a;intro a F;refine wp_ret ?_;refine xI ?_;refine bRet results30 F rfl ?_
   exact ⟨by rw [Xci hw1 hl0],H.below⟩
  replace h72:=ZB h72;refine wp_skip (hK19 _ _ (cSR fun K22 hK22=>Xa F rfl (qNK hK22 ?_)));clear hK19 hK22;clear F a;intro a F;refine wp_block ?_
  refine cLoopS [1,6] (fun m ups w=>∃ k:Nat,m=j - k∧ups=[(7,.int .i64 ((k:Nat):Int))]∧k≤j∧UW x (p.locs.take j) 0=UW x ((p.locs.take j).drop k) k∧Own w0 none w [.blk b1 ([.string p.name,.slice (some ⟨bx,ox,none⟩) p.locs.length LC,.slice IA p.init.length IC,.slice TA p.threads.length TC,B8 p.ask]++[c1,c2,c3,c4,c5]) 30]) F (j) [(7,.int .i64 ((0:Nat):Int))] ?_ ?_
  · exact ⟨0,rfl,rfl,by omega,rfl,H⟩
  clear F
  clear H
  intro m ups a w hI F
  obtain ⟨k,rfl,rfl,hk,hix,H⟩:=hI
  refine cSeq (fun K23 hK23=>?_);refine cSR fun K24 hK24=>Xl F rfl (Xd rfl (Xj rfl rfl YW (qNK hK24 ?_)));clear hK24;clear F a;intro a F
  refine cIf F rfl (fun h75=>?_) (fun h75=>?_)
  ·
   replace h75:=of_decide_eq_true h75
   have hkj:k < j:=by omega
   obtain ⟨y,hy⟩:∃ y,p.locs[k]? = some y:=⟨_,List.getElem?_eq_getElem (by omega)⟩
   have hyt:(p.locs.take j)[k]? = some y:=by rw [List.getElem?_take,if_pos hkj,hy]
   obtain ⟨by',oy,hya,hcy⟩:=hp.locs.get hy
   cases hya
   have hia:=J9 (s:=x) hyt
   refine wp_skip (hK23 _ _ ?_);clear hK23;refine cSeq (fun K25 hK25=>?_);refine wp_block ?_;refine cSeq (fun K26 hK26=>?_);refine cRegRO (by kernel_rfl) H ?_;replace H:=H.drew;refine Xt 0 rfl F rfl (fun w=>rFa (f:=1) (k:=1) underlying30 rfl sizeOf24 rfl rfl F rfl) H qq0 (Xz 1 rfl rfl rfl (fun a F w H=>rLd isAgg24 F rfl (H.cell 0 rfl rfl)) H qq0 (Xu 2 rfl rfl (fun a F w=>rMv F rfl) H qq0 ?_));clear F a;intro a F
   refine Xv (k:=3) (i:=3) rfl F rfl (fun w=>rIx underlying24 sizeOf9 F rfl rfl ?_) H (fun _ _ _ h=>h) ?_
   focus (omega)
   clear F a;intro a F;refine Xw 4 rfl F rfl rfl (fun w H=>rLd isAgg9 F rfl (H.arg hcy)) H qq0 (Xu 5 rfl rfl (fun a F w=>rFa (f:=1) (k:=1) underlying30 rfl sizeOf24 rfl rfl F rfl) H qq0 (Xz 6 rfl rfl rfl (fun a F w H=>rLd isAgg24 F rfl (H.cell 0 rfl rfl)) H qq0 (Xu 7 rfl rfl (fun a F w=>rMv F rfl) H qq0 ?_)));clear F a;intro a F
   refine Xv (k:=8) (i:=8) rfl F rfl (fun w=>rIx underlying24 sizeOf9 F rfl rfl ?_) H (fun _ _ _ h=>h) ?_
   focus (omega)
   clear F a;intro a F;refine Xw 9 rfl F rfl rfl (fun w H=>rLd isAgg9 F rfl (H.arg hcx)) H qq0 (Xu 10 rfl rfl (fun a F w=>YA F rfl rfl Lp) H qq0 ?_);clear F a;intro a F;refine eNil (k:=11) (by kernel_rfl) ?_;refine hK26 _ _ ?_;clear hK26
   refine cIf F rfl (fun h88=>?_) (fun h88=>?_)
   ·
    replace h88:=Yh h88
    have hl0:YI p=false:=(by rw [hlo,ht,hno,hix,hia,if_pos (by simpa using (by simpa using h88:y.toList=x.toList).symm)];simp)
    refine cSR fun K27 hK27=>Xa F rfl (qNK hK27 ?_);clear hK27;clear F a;intro a F;refine wp_ret ?_;refine xI ?_;refine bRet results30 F rfl ?_
    exact ⟨by rw [Xci hw1 hl0],H.below⟩
   replace h88:=Yi h88;refine wp_skip (hK25 _ _ (cReg (Xl F rfl ?_)));clear hK25;clear F a;intro a F
   refine Xm F rfl rfl (XJ (j:=1) ?_) ?_
   focus omega
   clear F a;intro a F;refine Xa F rfl ?_;clear F a;intro a F;refine sNil ?_
   exact ⟨_,by omega,_,⟨k+1,rfl,rfl,by omega,by rw [hix,hia,if_neg (fun e=>h88 (by simpa using (by simpa using e:x.toList=y.toList).symm))],H⟩,F.tt⟩
  replace h75:=of_decide_eq_false h75
  rw [List.drop_eq_nil_of_le (by rw [List.length_take];omega)] at hix
  refine wp_exit ?_;refine hK18 _ _ (cReg (Xl F rfl ?_));clear hK18;clear F a;intro a F
  refine Xm F rfl rfl (XJ (j:=1) ?_) ?_
  focus omega
  clear F a;intro a F;refine Xa F rfl ?_;clear F a;intro a F;refine sNil ?_
  exact ⟨_,by omega,_,⟨j+1,rfl,rfl,by omega,by rw [ht,hno,h72,hix];rfl,H⟩,F.tt⟩
 replace h63:=of_decide_eq_false h63
 have hl1:YI p=true:=(by rw [hlo,ht,List.drop_eq_nil_of_le (by omega)];rfl)
 refine wp_exit ?_;refine hK14 _ _ ?_;clear hK14;refine cSeq (fun K28 hK28=>?_);refine cSR fun K29 hK29=>Xi (f:=3) (k:=3) underlying30 rfl sizeOf25 rfl rfl F rfl (Xc isAgg25 rfl (H.cell 0 rfl rfl) (Xs underlying25 rfl (Xj rfl rfl YW (Xd rfl ?_))));clear F a;intro a F
 refine F.split 93 rfl ?_ ?_ <;> (clear F;intro h93 F)
 ·
  replace h93:=of_decide_eq_true h93
  have hs0:XO p=false:=(by unfold XO;rw [decide_eq_false (show ¬ 1≤p.threads.length by omega)];rfl)
  refine Xe F (Xf (Xf (Xf (Xg rfl rfl (qNK hK29 ?_)))));clear hK29;clear F a;intro a F;refine cIfT F rfl ?_;refine cSR fun K30 hK30=>Xa F rfl (qNK hK30 ?_);clear hK30;clear F a;intro a F;refine wp_ret ?_;simp only [Exit.then];refine bRet results30 F rfl ?_
  exact ⟨by rw [re72 hw1 hl1 hs0],H.below⟩
 replace h93:=of_decide_eq_false h93;refine Xi (f:=3) (k:=3) underlying30 rfl sizeOf25 rfl rfl F rfl (Xc isAgg25 rfl (H.cell 0 rfl rfl) (Xs underlying25 rfl (Xj rfl rfl UO (Xg rfl rfl (qNK hK29 ?_)))));clear hK29;clear F a;intro a F
 refine cIf F rfl (fun h98=>?_) (fun h98=>?_)
 ·
  replace h98:=of_decide_eq_true h98
  have hs0:XO p=false:=(by unfold XO;rw [decide_eq_false (show ¬ p.threads.length≤4 by omega)];simp)
  refine cSR fun K31 hK31=>Xa F rfl (qNK hK31 ?_);clear hK31;clear F a;intro a F;refine wp_ret ?_;simp only [Exit.then];refine bRet results30 F rfl ?_
  exact ⟨by rw [re72 hw1 hl1 hs0],H.below⟩
 replace h98:=of_decide_eq_false h98
 have hsh:XO p=p.threads.all (fun l=>decide (l.length≤12)):=(by unfold XO;rw [decide_eq_true (show 1≤p.threads.length by omega),decide_eq_true (show p.threads.length≤4 by omega)];rfl)
 refine wp_skip (hK28 _ _ ?_);clear hK28;refine cSeq (fun K32 hK32=>?_);refine cSR fun K33 hK33=>Xa F rfl (qNK hK33 ?_);clear hK33;clear F a;intro a F;refine wp_block ?_
 refine cLoopS [1] (fun m ups w=>∃ j:Nat,m=p.threads.length - j∧ups=[(8,.int .i64 ((j:Nat):Int))]∧j≤p.threads.length∧p.threads.all (fun l=>decide (l.length≤12))=(p.threads.drop j).all (fun l=>decide (l.length≤12))∧Own w0 none w [.blk b1 ([.string p.name,.slice LA p.locs.length LC,.slice IA p.init.length IC,.slice TA p.threads.length TC,B8 p.ask]++[c1,c2,c3,c4,c5]) 30]) F (p.threads.length) [(8,.int .i64 ((0:Nat):Int))] ?_ ?_
 · exact ⟨0,rfl,rfl,by omega,rfl,H⟩
 clear F
 clear H
 intro m ups a w hI F
 obtain ⟨j,rfl,rfl,hj,ht,H⟩:=hI
 refine cSeq (fun K34 hK34=>?_);refine cSR fun K35 hK35=>Xl F rfl (Xb (f:=3) (k:=3) underlying30 rfl sizeOf25 rfl rfl rfl (Xc isAgg25 rfl (H.cell 0 rfl rfl) (Xs underlying25 rfl (Xj rfl rfl YW (qNK hK35 ?_)))));clear hK35;clear F a;intro a F
 refine cIf F rfl (fun h103=>?_) (fun h103=>?_)
 ·
  replace h103:=of_decide_eq_true h103
  obtain ⟨l,hl⟩:∃ l,p.threads[j]? = some l:=⟨_,List.getElem?_eq_getElem (by omega)⟩
  obtain ⟨bT,oT,BT,CT,rfl,hT1,hT2,hT3⟩:=hp.threads j l hl
  have had:=WH (fun l:List Ins=>decide (l.length≤12)) hl
  refine wp_skip (hK34 _ _ ?_);clear hK34;refine cSeq (fun K36 hK36=>?_);refine wp_block ?_;refine cSR fun K37 hK37=>Xi (f:=3) (k:=3) underlying30 rfl sizeOf25 rfl rfl F rfl (Xc isAgg25 rfl (H.cell 0 rfl rfl) (Xd rfl ?_));clear F a;intro a F
  refine sIx underlying25 sizeOf22 F rfl rfl rfl rfl ?_ ?_
  focus (omega)
  clear F a;intro a F;refine sLd isAgg22 F rfl rfl rfl (H.arg hT1) (Xs underlying22 rfl (Xj rfl rfl UO (qNK hK37 ?_)));clear hK37;clear F a;intro a F
  refine cIf F rfl (fun h112=>?_) (fun h112=>?_)
  ·
   replace h112:=of_decide_eq_true h112
   have hs0:XO p=false:=(by rw [hsh,ht,had,decide_eq_false (show ¬ l.length≤12 by omega)];rfl)
   refine cSR fun K38 hK38=>Xa F rfl (qNK hK38 ?_);clear hK38;clear F a;intro a F;refine wp_ret ?_;refine xI ?_;refine bRet results30 F rfl ?_
   exact ⟨by rw [re72 hw1 hl1 hs0],H.below⟩
  replace h112:=of_decide_eq_false h112;refine wp_skip (hK36 _ _ (cReg (Xl F rfl ?_)));clear hK36;clear F a;intro a F
  refine Xm F rfl rfl (XJ (j:=1) ?_) ?_
  focus omega
  clear F a;intro a F;refine Xa F rfl ?_;clear F a;intro a F;refine sNil ?_
  exact ⟨_,by omega,_,⟨j+1,rfl,rfl,by omega,by rw [ht,had,decide_eq_true (show l.length≤12 by omega),Bool.true_and],H⟩,F.tt⟩
 replace h103:=of_decide_eq_false h103
 have hs1:XO p=true:=(by rw [hsh,ht,List.drop_eq_nil_of_le (by omega)];rfl)
 refine wp_exit ?_;refine hK32 _ _ ?_;clear hK32;refine cSeq (fun K39 hK39=>?_);refine cSR fun K40 hK40=>Xa F rfl (qNK hK40 ?_);clear hK40;clear F a;intro a F;refine wp_block ?_
 refine cLoopS [1] (fun m ups w=>∃ j:Nat,m=p.threads.length - j∧ups=[(9,.int .i64 ((j:Nat):Int))]∧j≤p.threads.length∧p.threads.all (XH p.locs.length)=(p.threads.drop j).all (XH p.locs.length)∧Own w0 none w [.blk b1 ([.string p.name,.slice LA p.locs.length LC,.slice IA p.init.length IC,.slice TA p.threads.length TC,B8 p.ask]++[c1,c2,c3,c4,c5]) 30]) F (p.threads.length) [(9,.int .i64 ((0:Nat):Int))] ?_ ?_
 · exact ⟨0,rfl,rfl,by omega,rfl,H⟩
 clear F
 clear H
 intro m ups a w hI F
 obtain ⟨j,rfl,rfl,hj,ht,H⟩:=hI
 refine cSeq (fun K41 hK41=>?_);refine cSR fun K42 hK42=>Xl F rfl (Xb (f:=3) (k:=3) underlying30 rfl sizeOf25 rfl rfl rfl (Xc isAgg25 rfl (H.cell 0 rfl rfl) (Xs underlying25 rfl (Xj rfl rfl YW (qNK hK42 ?_)))));clear hK42;clear F a;intro a F
 refine cIf F rfl (fun h117=>?_) (fun h117=>?_)
 ·
  replace h117:=of_decide_eq_true h117
  obtain ⟨l,hl⟩:∃ l,p.threads[j]? = some l:=⟨_,List.getElem?_eq_getElem (by omega)⟩
  obtain ⟨bT,oT,BT,CT,rfl,hT1,hT2,hT3⟩:=hp.threads j l hl
  have had:=WH (XH p.locs.length) hl
  refine wp_skip (hK41 _ _ ?_);clear hK41;refine cSeq (fun K43 hK43=>?_);refine wp_block ?_;refine cSeq (fun K44 hK44=>?_);refine cRegRO (by kernel_rfl) H ?_;replace H:=H.drew;refine Xt 0 rfl F rfl (fun w=>rFa (f:=3) (k:=3) underlying30 rfl sizeOf25 rfl rfl F rfl) H qq0 (Xz 1 rfl rfl rfl (fun a F w H=>rLd isAgg25 F rfl (H.cell 0 rfl rfl)) H qq0 (Xu 2 rfl rfl (fun a F w=>rMv F rfl) H qq0 ?_));clear F a;intro a F
  refine Xv (k:=3) (i:=3) rfl F rfl (fun w=>rIx underlying25 sizeOf22 F rfl rfl ?_) H (fun _ _ _ h=>h) ?_
  focus (omega)
  clear F a;intro a F;refine Xw 4 rfl F rfl rfl (fun w H=>rLd isAgg22 F rfl (H.arg hT1)) H qq0 (Xu 5 rfl rfl (fun a F w=>rFa (f:=1) (k:=1) underlying30 rfl sizeOf24 rfl rfl F rfl) H qq0 (Xz 6 rfl rfl rfl (fun a F w H=>rLd isAgg24 F rfl (H.cell 0 rfl rfl)) H qq0 (Xz 7 rfl rfl rfl (fun a F w H=>Dg underlying24 F rfl) H qq0 ?_)));clear F a;intro a F;refine Xx (k:=8) (i:=8) rfl (by kernel_rfl) F (XS call22 F rfl rfl (Vu BT CT l p.locs.length _ (RowsAt.own hT2 H) hT3) ?_);rintro e w ⟨rfl,hb⟩;replace H:=H.grow hb;clear hb;refine ⟨_,rfl,?_⟩;clear F a;intro a F;refine XF (by kernel_rfl) H ?_;refine Xt 9 rfl F rfl (fun w=>NA F rfl) H qq0 ?_;clear F a;intro a F;refine eNil (k:=10) (by kernel_rfl) ?_;refine hK44 _ _ ?_;clear hK44
  refine cIf F rfl (fun h129=>?_) (fun h129=>?_)
  ·
   replace h129:=ZA h129
   have ho0:YC p=false:=(by unfold YC;rw [ht,had,h129];rfl)
   refine cSR fun K45 hK45=>Xa F rfl (qNK hK45 ?_);clear hK45;clear F a;intro a F;refine wp_ret ?_;refine xI ?_;refine bRet results30 F rfl ?_
   exact ⟨by rw [re73 hw1 hl1 hs1 ho0],H.below⟩
  replace h129:=ZB h129;refine wp_skip (hK43 _ _ (cReg (Xl F rfl ?_)));clear hK43;clear F a;intro a F
  refine Xm F rfl rfl (XJ (j:=1) ?_) ?_
  focus omega
  clear F a;intro a F;refine Xa F rfl ?_;clear F a;intro a F;refine sNil ?_
  exact ⟨_,by omega,_,⟨j+1,rfl,rfl,by omega,by rw [ht,had,h129,Bool.true_and],H⟩,F.tt⟩
 replace h117:=of_decide_eq_false h117
 have ho1:YC p=true:=(by unfold YC;rw [ht,List.drop_eq_nil_of_le (by omega)];rfl)
 refine wp_exit ?_;refine hK39 _ _ ?_;clear hK39;refine cSeq (fun K46 hK46=>?_);refine cSR fun K47 hK47=>Xi (f:=4) (k:=4) underlying30 rfl sizeOf5 rfl rfl F rfl (Xc isAgg5 rfl (H.cell 0 rfl rfl) (Xj rfl rfl (GY (y:=1)) (Xd rfl ?_)));clear F a;intro a F
 refine F.split 133 rfl ?_ ?_ <;> (clear F;intro h133 F)
 ·
  replace h133:=of_decide_eq_true h133
  have ha0:Vh p=false:=(by unfold Vh;rw [XbS,decide_eq_false (UInt8.not_le.2 h133)];rfl)
  refine Xe F (Xf (Xf (Xg rfl rfl (qNK hK47 ?_))));clear hK47;clear F a;intro a F;refine cIfT F rfl ?_;refine cSR fun K48 hK48=>Xa F rfl (qNK hK48 ?_);clear hK48;clear F a;intro a F;refine wp_ret ?_;simp only [Exit.then];refine bRet results30 F rfl ?_
  exact ⟨by rw [re75 hw1 hl1 hs1 ho1 ha0],H.below⟩
 replace h133:=of_decide_eq_false h133;refine Xi (f:=4) (k:=4) underlying30 rfl sizeOf5 rfl rfl F rfl (Xc isAgg5 rfl (H.cell 0 rfl rfl) (Xj rfl rfl (bGtrB (y:=3)) (Xg rfl rfl (qNK hK47 ?_))));clear hK47;clear F a;intro a F
 refine cIf F rfl (fun h137=>?_) (fun h137=>?_)
 ·
  replace h137:=of_decide_eq_true h137
  have ha0:Vh p=false:=(by unfold Vh;rw [XbS,decide_eq_false (UInt8.not_le.2 h137)];simp)
  refine cSR fun K49 hK49=>Xa F rfl (qNK hK49 ?_);clear hK49;clear F a;intro a F;refine wp_ret ?_;simp only [Exit.then];refine bRet results30 F rfl ?_
  exact ⟨by rw [re75 hw1 hl1 hs1 ho1 ha0],H.below⟩
 replace h137:=of_decide_eq_false h137
 have ha1:Vh p=true:=(by unfold Vh;rw [XbS,decide_eq_true (UInt8.not_lt.1 h133),decide_eq_true (UInt8.not_lt.1 h137)];rfl)
 refine wp_skip (hK46 _ _ ?_);clear hK46;refine cSeq (fun K50 hK50=>?_);refine cSR fun K51 hK51=>Xi (f:=5) (k:=5) underlying30 rfl sizeOf28 rfl rfl F rfl ?_;clear F a;intro a F
 refine Xo underlying28 rfl ?si F rfl (H.range 0 rfl _ 5) ?_
 case si=>exact XC sizeOf28
 clear F a;intro a F;refine Xi (f:=3) (k:=3) underlying30 rfl sizeOf25 rfl rfl F rfl (Xc isAgg25 rfl (H.cell 0 rfl rfl) (Xs underlying25 rfl (Xb (f:=1) (k:=1) underlying30 rfl sizeOf24 rfl rfl rfl (Xc isAgg24 rfl (H.cell 0 rfl rfl) (Xs underlying24 rfl ?_)))));clear F a;intro a F;refine Xn call45 F rfl (Di _ _ hh _ p.cond _ (CondAt.grown H.grown rfl _ _ _ hp.cond) hd) (gG H ?_);clear F a H;intro a w F H;refine UV F rfl rfl rfl (qNK hK51 ?_);clear hK51;clear F a;intro a F
 refine cIf F rfl (fun h147=>?_) (fun h147=>?_)
 ·
  replace h147:=ZA h147;refine cSR fun K52 hK52=>Xa F rfl (qNK hK52 ?_);clear hK52;clear F a;intro a F;refine wp_ret ?_;simp only [Exit.then];refine bRet results30 F rfl ?_
  exact ⟨by rw [re74 hw1 hl1 hs1 ho1 ha1 h147],H.below⟩
 replace h147:=ZB h147;refine wp_skip (hK50 _ _ (cSR fun K53 hK53=>Xa F rfl (qNK hK53 ?_)));clear hK50 hK53;clear F a;intro a F;refine wp_ret ?_;refine bRet results30 F rfl ?_
 exact ⟨by rw [re0 hw1 hl1 hs1 ho1 ha1 h147],H.below⟩
-- SqQ
set_option maxRecDepth 100000
/-! ### Members -/
theorem JU {l:List Ins} {r z:RunP} {vs:List UInt8}:∀ (n:Nat) (r:RunP),l.length - r.pc≤n→(Path8 l (XD l r) vs z ↔ Path8 l r vs z):=by
 intro n
 induction n with
 | zero=>
   intro r hn
   have hx:l[r.pc]? = none:=List.getElem?_eq_none (by omega)
   rw [XV (.inr hx)]
 | succ n ih=>
   intro r hn
   cases hx:l[r.pc]? with
   | none=>rw [XV (.inr hx)]
   | some x=>
     have hp:=(List.getElem?_eq_some_iff.1 hx).1
     cases hr:XU x.op with
     | true=>rw [XV (.inl ((Wo hx).trans hr))]
     | false=>
       rw [Zz hx hr,ih _ (by have:=Y2 x 0 r;omega)]
       constructor
       · exact fun h=>.pass hx hr h
       · intro h
         cases h with
         | stop hx2=>rw [hx] at hx2;cases hx2
         | read hx2 hr2 _=>
           obtain rfl:=Option.some.inj (hx.symm.trans hx2)
           rw [hr] at hr2;cases hr2
         | pass hx2 _ h=>obtain rfl:=Option.some.inj (hx.symm.trans hx2);exact h
theorem XaW {l:List Ins} {r:RunP} (h:X2 l (XD l r)=false):l[(XD l r).pc]? = none:=by
 rcases Gp (l:=l) (l.length - r.pc) r (Nat.le_refl _) with hw | hx
 · have hw:X2 l (XD l r)=true:=hw
   rw [h] at hw;cases hw
 · exact hx
theorem LY {l:List Ins} {dom:List UInt8} {z:RunP}:∀ (f:Nat) (r:RunP),l.length - r.pc < f→(z ∈ Ys l dom f r ↔ ∃ vs,(∀ v ∈ vs,v ∈ dom)∧Path8 l r vs z):=by
 intro f
 induction f with
 | zero=>intro r h;omega
 | succ f ih=>
   intro r hf
   have hpr:=Uy (l:=l) r
   cases hw:X2 l (XD l r) with
   | false=>
     rw [W0 hw]
     have hx:=XaW hw
     constructor
     · intro hz
       obtain rfl:=List.mem_singleton.1 hz
       exact ⟨[],fun v h=>by simp at h,(JU (r:=r) _ r (Nat.le_refl _)).1 (.stop hx)⟩
     · rintro ⟨vs,_,h⟩
       have h:=(JU (r:=r) _ r (Nat.le_refl _)).2 h
       cases h with
       | stop _=>exact List.mem_singleton.2 rfl
       | read hx2 _ _=>rw [hx] at hx2;cases hx2
       | pass hx2 _ _=>rw [hx] at hx2;cases hx2
   | true=>
     rw [Wb hw]
     obtain ⟨hx,hr⟩:=VN hw
     have hp:=(List.getElem?_eq_some_iff.1 hx).1
     rw [List.mem_flatMap]
     constructor
     · rintro ⟨v,hv,hz⟩
       obtain ⟨vs,h1,h2⟩:=(ih _ (by have:=Y2 (Y0 l (XD l r)) v (XD l r);omega)).1 hz
       exact ⟨v :: vs,fun u hu=>by
         rcases List.mem_cons.1 hu with rfl | hu
         · exact hv
         · exact h1 u hu,(JU (r:=r) _ r (Nat.le_refl _)).1 (.read hx hr h2)⟩
     · rintro ⟨vs,hd,h⟩
       have h:=(JU (r:=r) _ r (Nat.le_refl _)).2 h
       cases h with
       | stop hx2=>rw [hx] at hx2;cases hx2
       | pass hx2 hr2 _=>
         obtain rfl:=Option.some.inj (hx.symm.trans hx2)
         rw [hr] at hr2;cases hr2
       | @read _ _ x2 v vs hx2 _ h=>
         obtain rfl:=Option.some.inj (hx.symm.trans hx2)
         exact ⟨v,hd v List.mem_cons_self,(ih _ (by have:=Y2 (Y0 l (XD l r)) v (XD l r);omega)).2 ⟨vs,fun u hu=>hd u (List.mem_cons_of_mem _ hu),h⟩⟩
theorem mem_ends {l:List Ins} {dom:List UInt8} {z:RunP}:z ∈ YY l dom ↔ ∃ vs,(∀ v ∈ vs,v ∈ dom)∧Path8 l zRun vs z:=LY _ _ (by have:zRun.pc=0:=rfl;omega)
/-! ### Their order -/
/-! ### How many -/
def rcL (l:List Ins) (k:Nat):Nat:=((l.drop k).filter fun x=>XU x.op).length
def fewP (l:List Ins):Bool:=decide (l.length≤12) && decide (rcL l 0≤4)
/-! ### Reads on the way -/
-- ReQ
open Go.Proofs.Tryz
open Go.RowKit
set_option maxRecDepth 100000
theorem XaQ (dom:List UInt8) (k:Nat):(Y9 dom k).length≤k:=by
 unfold Y9
 refine Nat.le_trans (List.length_filter_le _ _) ?_
 rw [List.length_map,List.length_range];exact Nat.le_refl _
theorem LR {l:List Ins} {vals:List UInt8} (hl:XH 6 l=true) (hd:XP vals=vals):((YV l vals 4096).2=0∧(Yg l vals).2=true∧(YV l vals 4096).1=(YY l vals).map XX)∨((YV l vals 4096).2=5∧(Yg l vals).2=false):=by
 by_cases h:4096 < (YY l vals).length
 · refine .inr ⟨?_,?_⟩
   · rw [Uz (by decide) (by decide) hl (by rw [hd];omega)]
   · unfold Yg;rw [if_pos h]
 · refine .inl ⟨?_,?_,?_⟩
   · rw [U2 (by decide) (by decide) hl (by rw [hd];omega)]
   · unfold Yg;rw [if_neg h]
   · rw [U2 (by decide) (by decide) hl (by rw [hd];omega),hd]
def wsT (p:Prg) (vals:List UInt8) (t:Nat):List UInt8:=(p.threads.take t).flatMap fun l=>wsR (YY l vals)
theorem BL {p:Prg} {vals:List UInt8} {t:Nat} {l:List Ins} (h:p.threads[t]? = some l):wsT p vals (t+1)=wsT p vals t++wsR (YY l vals):=by
 unfold wsT;rw [List.take_add_one,h,List.flatMap_append];simp
theorem BM {rs:List RunP} {i:Nat} {r:RunP} (h:rs[i]? = some r):wsR (rs.take (i+1))=wsR (rs.take i)++wsE (Yw r):=by
 unfold wsR;rw [List.take_add_one,h,List.flatMap_append];simp
structure MetAt (met met1:List UInt8) (fr:Bool) (ws:List UInt8):Prop where
 set:MetW met1 met ws
 len:met1.length≤6+(XP met1).length
 no:fr=false→met1=met
 yes:fr=true→(XP met).length < (XP met1).length
theorem MetAt.zero {met:List UInt8} (h:met.length≤6+(XP met).length):MetAt met met false []:=⟨(fun v=>by simp),h,(fun _=>rfl),(fun e=>by cases e)⟩
theorem MetAt.keep {met met1 ws:List UInt8} {fr:Bool} (h:MetAt met met1 fr ws) {x:UInt8} (hx:x ∈ met1):MetAt met met1 fr (ws++[x]):=⟨h.set.keep hx,h.len,h.no,h.yes⟩
theorem MetAt.add {met met1 ws:List UInt8} {fr:Bool} (h:MetAt met met1 fr ws) {x:UInt8} (hx:x ∉ met1):MetAt met (met1++[x]) true (ws++[x]):=by
 have h1:=C4 hx
 have h2:(XP met).length≤(XP met1).length:=by
   cases fr with
   | false=>rw [h.no rfl];exact Nat.le_refl _
   | true=>exact Nat.le_of_lt (h.yes rfl)
 refine ⟨h.set.add,?_,(fun e=>by cases e),fun _=>?_⟩
 · have:=h.len
   rw [List.length_append,List.length_singleton];omega
 · omega
theorem MetAt.next {p:Prg} {met met1:List UInt8} {fr:Bool} (h:MetAt met met1 fr (wsT p (XP met) p.threads.length)) (hok:∀ l ∈ p.threads,(Yg l (XP met)).2=true):G6 p (XP met)=some (XP met1):=by
 rw [Ul hok]
 congr 1
 refine Bf fun v=>?_
 rw [h.set v,Wi,wsT,List.take_length,List.mem_append,Vd,List.mem_flatMap,List.mem_flatMap]
 refine or_congr Iff.rfl ⟨fun ⟨l,hl,hv⟩=>⟨l,hl,(Je (hok l hl) v).1 hv⟩,fun ⟨l,hl,hv⟩=>⟨l,hl,(Je (hok l hl) v).2 hv⟩⟩
set_option maxHeartbeats 4000000 in
theorem Wv (cs:List Value) (p:Prg) (most:Int) (w0:World) (hP:ProgAt w0 cs p) (hdc:Z8 p.cond≤9223372036854775807) :
   Calls Tryz.prog 14 #[.agg cs.toArray,.int .i64 most] w0 (Wl (YT p most) w0):=by
 have H:=Own.start w0 none
 have hP0:=hP
 obtain ⟨LA,LC,IA,IC,TA,TC,h,ccs,hp⟩:=hP
 obtain ⟨d1,d2,d3,d4,d5,rfl⟩:=Xat (Zc hp.cond)
 have hcs:=hp.cs
 subst hcs
 have hn:=hp.threadsN
 refine XE func14 rfl ntmps14 rfl (fun a F=>?_);refine cSR fun K1 hK1=>?_;refine sBx H F rfl rfl rfl ?_;clear F a H;intro b2 a w F H;refine Xa F rfl (Xh rfl (qNK hK1 ?_));clear hK1;clear F a;intro a F;refine cSeq (fun K2 hK2=>?_);refine cSR fun K3 hK3=>?_
 refine Xo underlying30 rfl ?si F rfl (H.whole 0 rfl) ?_
 case si=>exact XC sizeOf30
 clear F a;intro a F;refine Xn call30 F rfl (LB _ p _ (hP0.own H) hdc) (gG H ?_);clear F a H;intro a w F H;refine Xm F rfl rfl U7 (Xd rfl ?_);clear F a;intro a F
 refine F.split 19 rfl ?_ ?_ <;> (clear F;intro h19 F)
 ·
  replace h19:=UL h19;refine Xe F (Xf (Xg rfl rfl (Xd rfl (Xf (Xf (Xg rfl rfl (qNK hK3 ?_)))))));clear hK3;clear F a;intro a F;refine cIfT F rfl ?_;refine cSR fun K4 hK4=>Xa F rfl (Xh rfl (qNK hK4 ?_));clear hK4;clear F a;intro a F;refine wp_ret ?_;simp only [Exit.then];refine Zo results14 F rfl rfl ?_
  (rw [ZL (.inr (.inr (by omega)))];exact Y5 H 2)
 replace h19:=UM h19;refine Xl F rfl (Xj rfl rfl YW (Xg rfl rfl (Xd rfl ?_)));clear F a;intro a F
 refine F.split 23 rfl ?_ ?_ <;> (clear F;intro h23 F)
 ·
  replace h23:=of_decide_eq_true h23;refine Xe F (Xf (Xg rfl rfl (qNK hK3 ?_)));clear hK3;clear F a;intro a F;refine cIfT F rfl ?_;refine cSR fun K5 hK5=>Xa F rfl (Xh rfl (qNK hK5 ?_));clear hK5;clear F a;intro a F;refine wp_ret ?_;simp only [Exit.then];refine Zo results14 F rfl rfl ?_
  (rw [ZL (.inl (by omega))];exact Y5 H 2)
 replace h23:=of_decide_eq_false h23;refine Xl F rfl (Xj rfl rfl UO (Xg rfl rfl (qNK hK3 ?_)));clear hK3;clear F a;intro a F
 refine cIf F rfl (fun h26=>?_) (fun h26=>?_)
 ·
  replace h26:=of_decide_eq_true h26;refine cSR fun K6 hK6=>Xa F rfl (Xh rfl (qNK hK6 ?_));clear hK6;clear F a;intro a F;refine wp_ret ?_;simp only [Exit.then];refine Zo results14 F rfl rfl ?_
  (rw [ZL (.inr (.inl (by omega)))];exact Y5 H 2)
 replace h26:=of_decide_eq_false h26
 have hr0:X5 p=0:=by omega
 have hV:=valid hr0
 have hi6:p.init.length≤6:=by have:=hV.init;have:=hV.locs6;omega
 refine wp_skip (hK2 _ _ (cSR fun K7 hK7=>?_));clear hK2;refine sBs (cs:=[]) H underlying23 sizeOf5 zeroValue5 rfl F rfl rfl rfl rfl rfl ?_;clear F a H;intro b27 a w F H
 replace H:=H.emptyRws 1
 refine Xi (f:=2) (k:=2) underlying30 rfl sizeOf23 rfl rfl F rfl (Xc isAgg23 rfl (H.cell 1 rfl rfl) ?_);clear F a;intro a F;refine E0 (bytes:=1) (sz:=1) H 0 underlying23 typeInfo5 rfl rfl rfl rfl rfl rfl F rfl rfl rfl rfl rfl ?hm ((show RowsAt w IA 1 (XN p.init) from RowsAt.own hp.init H)) (XL) (JH) ?hb ?_
 case hm=>(simp;done)
 case hb=>exact ((by simp only [List.length_nil,List.length_map];omega))
 clear F a H;intro A30 c30 a w F H;refine Xa F rfl ?_;clear F a;intro a F;refine sNil ?_;rw [List.nil_append,show (XN p.init).length=p.init.length from List.length_map _] at H F;refine hK7 _ _ ?_;clear hK7;refine wp_block ?_
 refine cLoopS [1,2] (fun m ups w=>∃ (f:Nat) (met:List UInt8) (A6:Option Addr) (c6:Nat),m=f∧ups=[(6,.slice A6 met.length c6)]∧met.length≤6+(XP met).length∧18≤(XP met).length+f∧goV p most f (XP met)=YT p most∧Own w0 none w [.rws 5 1 (.slice A6 met.length c6) (XN met),.blk b2 ([.string p.name,.slice LA p.locs.length LC,.slice IA p.init.length IC,.slice TA p.threads.length TC,Go.Proofs.YtagnefpgidbhnaaGreatDoor.b8 p.ask]++[d1,d2,d3,d4,d5]) 30]) F (18) [(6,.slice A30 p.init.length c30)] ?_ ?_
 · exact ⟨18,p.init,A30,c30,rfl,rfl,by omega,by omega,(QB (by omega) (by omega) hr0).symm,H.sel [0,1] rfl rfl⟩
 clear F
 clear H
 intro m ups a w hI F
 obtain ⟨f,met,A6,c6,rfl,rfl,hml,hfl,hgo,H⟩:=hI
 have hd256:=GO met
 refine wp_block ?_;refine cSR fun K8 hK8=>Xa F rfl ?_;clear F a;intro a F
 replace H:=H.nilRws 5 1
 refine nK hK8 ?_;clear hK8;refine cSeq (fun K9 hK9=>?_);refine cSR fun K10 hK10=>Xa F rfl (qNK hK10 ?_);clear hK10;clear F a;intro a F;refine wp_block ?_
 refine cLoopS [1,2,6] (fun m ups w=>∃ (k:Nat) (A7:Option Addr) (c7:Nat),m=256 - k∧ups=[(7,.slice A7 (Y9 met k).length c7),(8,.int .i64 ((k:Nat):Int))]∧k≤256∧Own w0 none w [.rws 5 1 (.slice A7 (Y9 met k).length c7) (XN (Y9 met k)),.rws 5 1 (.slice A6 met.length c6) (XN met),.blk b2 ([.string p.name,.slice LA p.locs.length LC,.slice IA p.init.length IC,.slice TA p.threads.length TC,Go.Proofs.YtagnefpgidbhnaaGreatDoor.b8 p.ask]++[d1,d2,d3,d4,d5]) 30]) F (256) [(7,.slice none 0 0),(8,.int .i64 ((0:Nat):Int))] ?_ ?_
 · exact ⟨0,none,0,rfl,rfl,Nat.zero_le _,H⟩
 clear F
 clear H
 intro m ups a w hI F
 obtain ⟨k,A7,c7,rfl,rfl,hk,H⟩:=hI
 have hvl:=XaQ met k
 refine cSeq (fun K11 hK11=>?_);refine cSR fun K12 hK12=>Xl F rfl (Xj rfl rfl YW (qNK hK12 ?_));clear hK12;clear F a;intro a F
 refine cIf F rfl (fun h32=>?_) (fun h32=>?_)
 ·
  replace h32:=of_decide_eq_true h32;refine wp_skip (hK11 _ _ ?_);clear hK11;refine cSeq (fun K13 hK13=>?_);refine wp_block ?_;refine cSR fun K14 hK14=>Xl F rfl (Xd rfl (qCv underlying3 underlying5 rfl rfl rfl (Vr _) ?_));clear F a;intro a F;refine Xn call31 F rfl (NW A6 c6 met (UInt8.ofNat k) _ (H.rowsAt 1 rfl XL (by decide)) (by omega)) (gG H ?_);clear F a H;intro a w F H;refine nK hK14 ?_;clear hK14
  refine cIf F rfl (fun h38=>?_) (fun h38=>?_)
  ·
   have hin:UInt8.ofNat k ∈ met:=of_decide_eq_true h38
   refine cReg (Xl F rfl (Xd rfl (qCv underlying3 underlying5 rfl rfl rfl (Vr _) ?_)));clear F a;intro a F;refine MP H underlying23 sizeOf5 zeroValue5 rfl F rfl rfl rfl rfl ?_;clear F a H;intro b42 a w F H
   refine G7 (bytes:=1) H 1 underlying23 typeInfo5 rfl rfl rfl rfl rfl rfl F rfl rfl rfl rfl rfl (H.whole 0 rfl) rfl ?s1 ?s2 ?_
   case s1=>rfl
   case s2=>(simp only [XN,List.length_map];omega)
   clear F a H;intro A43 c43 a w F H;refine Xa F rfl (qNK hK13 (WN (Xd rfl ?_)));clear hK13;clear F a;intro a F
   refine Xm F rfl rfl (XJ (j:=1) ?_) ?_
   focus omega
   clear F a;intro a F;refine Xa F rfl ?_;clear F a;intro a F;refine sNil ?_
   (have e1:XN (Y9 met k)++[[Go.Proofs.YtagnefpgidbhnaaGreatDoor.b8 (UInt8.ofNat k)]]=XN (Y9 met (k+1)):=by rw [WP,if_pos hin];simp [XN]
    have e2:(XN (Y9 met (k+1))).length=(Y9 met (k+1)).length:=List.length_map _
    have H9:=H.sel [1,2,3] rfl rfl
    rw [e1,e2] at H9 F
    exact ⟨_,by omega,_,⟨k+1,A43,c43,rfl,rfl,by omega,H9⟩,F.tt⟩)
  have hin:UInt8.ofNat k ∉ met:=of_decide_eq_false h38
  refine wp_skip (hK13 _ _ (cReg (Xl F rfl ?_)));clear hK13;clear F a;intro a F
  refine Xm F rfl rfl (XJ (j:=1) ?_) ?_
  focus omega
  clear F a;intro a F;refine Xa F rfl ?_;clear F a;intro a F;refine sNil ?_
  (have e1:Y9 met (k+1)=Y9 met k:=by rw [WP,if_neg hin,List.append_nil]
   exact ⟨_,by omega,_,⟨k+1,A7,c7,rfl,by rw [e1],by omega,by rw [e1];exact H⟩,F.tt⟩)
 replace h32:=of_decide_eq_false h32
 obtain rfl:k=256:=by omega
 rw [Gb] at H F;refine wp_exit ?_;refine hK9 _ _ ?_;clear hK9;refine cSeq (fun K15 hK15=>?_);refine cSR fun K16 hK16=>Xl F rfl (Xs underlying23 rfl (Xd rfl (Xj rfl rfl UO (qNK hK16 ?_))));clear hK16;clear F a;intro a F
 refine cIf F rfl (fun h47=>?_) (fun h47=>?_)
 ·
  replace h47:=of_decide_eq_true h47;refine cSR fun K17 hK17=>Xa F rfl (Xh rfl (qNK hK17 ?_));clear hK17;clear F a;intro a F;refine wp_ret ?_;refine xI ?_;refine Zo results14 F rfl rfl ?_
  (rw [← hgo,Ld (by omega)];exact Y5 H 5)
 replace h47:=of_decide_eq_false h47
 have h29:¬ most < ((XP met).length:Int):=by omega
 obtain ⟨f,rfl⟩:∃ f',m=f'+1:=⟨m - 1,by omega⟩
 refine wp_skip (hK15 _ _ (cSR fun K18 hK18=>Xa F rfl (qNK hK18 ?_)));clear hK15 hK18;clear F a;intro a F;refine cSeq (fun K19 hK19=>?_);refine cSR fun K20 hK20=>Xa F rfl (qNK hK20 ?_);clear hK20;clear F a;intro a F;refine wp_block ?_
 refine cLoopS [1,2,7] (fun m ups w=>∃ (t:Nat) (met1:List UInt8) (A61:Option Addr) (c61:Nat) (fr:Bool),m=p.threads.length - t∧ups=[(6,.slice A61 met1.length c61),(9,.bool fr),(10,.int .i64 ((t:Nat):Int))]∧t≤p.threads.length∧(∀ i l,i < t→p.threads[i]? = some l→(Yg l (XP met)).2=true)∧MetAt met met1 fr (wsT p (XP met) t)∧Own w0 none w [.rws 5 1 (.slice A61 met1.length c61) (XN met1),.rws 5 1 (.slice A7 (XP met).length c7) (XN (XP met)),.blk b2 ([.string p.name,.slice LA p.locs.length LC,.slice IA p.init.length IC,.slice TA p.threads.length TC,Go.Proofs.YtagnefpgidbhnaaGreatDoor.b8 p.ask]++[d1,d2,d3,d4,d5]) 30]) F (p.threads.length) [(6,.slice A6 met.length c6),(9,.bool false),(10,.int .i64 ((0:Nat):Int))] ?_ ?_
 · exact ⟨0,met,A6,c6,false,rfl,rfl,Nat.zero_le _,(fun i l h=>absurd h (by omega)),MetAt.zero hml,H.sel [1,0,2] rfl rfl⟩
 clear F
 clear H
 intro m ups a w hI F
 obtain ⟨t,met1,A61,c61,fr,rfl,rfl,ht,hok,hM1,H⟩:=hI
 refine cSeq (fun K21 hK21=>?_);refine cSR fun K22 hK22=>Xl F rfl (Xb (f:=3) (k:=3) underlying30 rfl sizeOf25 rfl rfl rfl (Xc isAgg25 rfl (H.cell 2 rfl rfl) (Xs underlying25 rfl (Xj rfl rfl YW (qNK hK22 ?_)))));clear hK22;clear F a;intro a F
 refine cIf F rfl (fun h52=>?_) (fun h52=>?_)
 ·
  replace h52:=of_decide_eq_true h52
  have hjl:t < p.threads.length:=by omega
  obtain ⟨l,hl⟩:∃ l,p.threads[t]? = some l:=⟨_,List.getElem?_eq_getElem hjl⟩
  obtain ⟨bT,oT,BT,CT,rfl,hT1,hT2,hT3⟩:=hp.threads t l hl
  have hl6:=Gc hr0 hl
  have hfg:=LR hl6 (GP met)
  refine wp_skip (hK21 _ _ ?_);clear hK21;refine cSeq (fun K23 hK23=>?_);refine wp_block ?_;refine cSR fun K24 hK24=>Xi (f:=3) (k:=3) underlying30 rfl sizeOf25 rfl rfl F rfl (Xc isAgg25 rfl (H.cell 2 rfl rfl) (Xd rfl ?_));clear F a;intro a F
  refine sIx underlying25 sizeOf22 F rfl rfl rfl rfl ?_ ?_
  focus exact hjl
  clear F a;intro a F;refine sLd isAgg22 F rfl rfl rfl (H.arg hT1) (Xd rfl ?_);clear F a;intro a F;refine Xn call12 F rfl (Ux BT CT l A7 c7 (XP met) 4096 _ (hT2.own H) hT3 (H.rowsAt 1 rfl XL (by decide)) (by omega)) ?_;rintro e w ⟨ps,PA,PC,PS,PL,hps,rfl,hpi,H2⟩;replace H:=H.join H2;clear H2;refine ⟨_,rfl,?_⟩;clear F a;intro a F;refine Xl F rfl (XB rfl rfl (XB rfl rfl (Xh rfl (Xh rfl (qNK hK24 ?_)))));clear hK24;clear F a;intro a F;refine cSeq (fun K25 hK25=>?_);refine cSR fun K26 hK26=>Xl F rfl (Xj rfl rfl U7 (qNK hK26 ?_));clear hK26;clear F a;intro a F
  refine cIf F rfl (fun h66=>?_) (fun h66=>?_)
  ·
   replace h66:=UL h66
   have hwn:(Yg l (XP met)).2=false:=by
    rcases hfg with ⟨e,_⟩ | ⟨_,e⟩
    · omega
    · exact e
   refine cSR fun K27 hK27=>Xa F rfl (Xh rfl (qNK hK27 ?_));clear hK27;clear F a;intro a F;refine wp_ret ?_;refine xI ?_;refine Zo results14 F rfl rfl ?_
   (rw [← hgo,Lc (Jl (List.mem_of_getElem? hl) hwn)];exact Y5 H 5)
  replace h66:=UM h66
  obtain ⟨hwy,hpe⟩:(Yg l (XP met)).2=true∧ps.map PlP.path=(YY l (XP met)).map XX:=by
   rcases hfg with ⟨_,e1,e2⟩ | ⟨e,_⟩
   · exact ⟨e1,hps.trans e2⟩
   · omega
  have hpn:ps.length=(YY l (XP met)).length:=by have:=congrArg List.length hpe;rwa [List.length_map,List.length_map] at this
  have hp4096:ps.length≤4096:=by
   rw [hpn]
   unfold Yg at hwy
   split at hwy
   · cases hwy
   · omega
  refine wp_skip (hK25 _ _ (cSR fun K28 hK28=>Xa F rfl (qNK hK28 ?_)));clear hK25 hK28;clear F a;intro a F;refine wp_block ?_
  refine cLoopS [1,2,7,10,11] (fun m ups w=>∃ (i:Nat) (met2:List UInt8) (A62:Option Addr) (c62:Nat) (fr2:Bool),m=ps.length - i∧ups=[(6,.slice A62 met2.length c62),(9,.bool fr2),(13,.int .i64 ((i:Nat):Int))]∧i≤ps.length∧MetAt met met2 fr2 (wsT p (XP met) t++wsR ((YY l (XP met)).take i))∧Own w0 none w [.rws 5 1 (.slice A62 met2.length c62) (XN met2),.rws 37 12 (.slice PA ps.length PC) (ps.map PlP.cells),.mem PS PL,.rws 5 1 (.slice A7 (XP met).length c7) (XN (XP met)),.blk b2 ([.string p.name,.slice LA p.locs.length LC,.slice IA p.init.length IC,.slice (some ⟨bT,oT,none⟩) p.threads.length TC,Go.Proofs.YtagnefpgidbhnaaGreatDoor.b8 p.ask]++[d1,d2,d3,d4,d5]) 30]) F (ps.length) [(6,.slice A61 met1.length c61),(9,.bool fr),(13,.int .i64 ((0:Nat):Int))] ?_ ?_
  · exact ⟨0,met1,A61,c61,fr,rfl,rfl,Nat.zero_le _,(by rw [List.take_zero];simpa [wsR] using hM1),H.sel [2,0,1,3,4] rfl rfl⟩
  clear F
  clear H
  intro m ups a w hI F
  obtain ⟨i,met2,A62,c62,fr2,rfl,rfl,hi,hM2,H⟩:=hI
  refine cSeq (fun K29 hK29=>?_);refine cSR fun K30 hK30=>Xl F rfl (Xd rfl (Xs underlying48 rfl (Xj rfl rfl YW (qNK hK30 ?_))));clear hK30;clear F a;intro a F
  refine cIf F rfl (fun h70=>?_) (fun h70=>?_)
  ·
   replace h70:=of_decide_eq_true h70
   have hip:i < ps.length:=by omega
   obtain ⟨q,hq⟩:∃ q,ps[i]? = some q:=⟨_,List.getElem?_eq_getElem hip⟩
   obtain ⟨rr,hrr,hqr⟩:∃ rr,(YY l (XP met))[i]? = some rr∧q.path=XX rr:=by
    have h1:(ps.map PlP.path)[i]? = some q.path:=by rw [List.getElem?_map,hq];rfl
    rw [hpe,List.getElem?_map] at h1
    obtain ⟨rr,h2,h3⟩:=Option.map_eq_some_iff.1 h1
    exact ⟨rr,h2,h3.symm⟩
   have hqi:=hpi q (List.mem_of_getElem? hq)
   have hev:q.path.evs.length≤24:=by
    obtain ⟨vs,_,h8⟩:=mem_ends.1 (List.mem_of_getElem? hrr)
    have h9:=h8.inv hl6 (WD l)
    have:=h9.many
    have:=h9.pc
    have:=Z4 hl6
    rw [hqr]
    show (Yw rr).length≤24
    rw [VE];omega
   obtain ⟨bP,oP,rfl,_⟩:=H.rowsAt 1 rfl WS (by decide) i q.cells (by rw [List.getElem?_map,hq];rfl)
   refine wp_skip (hK29 _ _ ?_);clear hK29;refine cSeq (fun K31 hK31=>?_);refine wp_block ?_;refine cSR fun K32 hK32=>Xa F rfl (qNK hK32 ?_);clear hK32;clear F a;intro a F;refine wp_block ?_
   refine cLoopS [1,2,7,10,11,13] (fun m ups w=>∃ (j:Nat) (met3:List UInt8) (A63:Option Addr) (c63:Nat) (fr3:Bool),m=q.path.evs.length - j∧ups=[(6,.slice A63 met3.length c63),(9,.bool fr3),(14,.int .i64 ((j:Nat):Int))]∧j≤q.path.evs.length∧MetAt met met3 fr3 (wsT p (XP met) t++wsR ((YY l (XP met)).take i)++wsE (q.path.evs.take j))∧Own w0 none w [.rws 5 1 (.slice A63 met3.length c63) (XN met3),.rws 37 12 (.slice (some ⟨bP,oP,none⟩) ps.length PC) (ps.map PlP.cells),.mem PS PL,.rws 5 1 (.slice A7 (XP met).length c7) (XN (XP met)),.blk b2 ([.string p.name,.slice LA p.locs.length LC,.slice IA p.init.length IC,.slice (some ⟨bT,oT,none⟩) p.threads.length TC,Go.Proofs.YtagnefpgidbhnaaGreatDoor.b8 p.ask]++[d1,d2,d3,d4,d5]) 30]) F (q.path.evs.length) [(6,.slice A62 met2.length c62),(9,.bool fr2),(14,.int .i64 ((0:Nat):Int))] ?_ ?_
   · exact ⟨0,met2,A62,c62,fr2,rfl,rfl,Nat.zero_le _,(by rw [List.take_zero];simpa [wsE] using hM2),H.sel [0,1,2,3,4] rfl rfl⟩
   clear F
   clear H
   intro m ups a w hI F
   obtain ⟨j,met3,A63,c63,fr3,rfl,rfl,hj,hM3,H⟩:=hI
   refine cSeq (fun K33 hK33=>?_);refine cSR fun K34 hK34=>Xl F rfl (Xd rfl (Xd rfl ?_));clear F a;intro a F
   refine sIx underlying48 sizeOf37 F rfl rfl rfl rfl ?_ ?_
   focus exact hip
   clear F a;intro a F;refine sFaZ (f:=0) underlying37 rfl sizeOf33 rfl rfl F rfl rfl rfl ?_;clear F a;intro a F
   refine sLd isAgg33 F rfl rfl rfl (by obtain ⟨b9,o9,g1,g2⟩:=H.rowsAt 1 rfl WS (by decide) i q.cells (by rw [List.getElem?_map,hq];rfl);cases g1;simpa using g2 0 _ rfl) ?_;clear F a;intro a F
   refine sLen underlying33 F rfl rfl rfl (Xj rfl rfl YW (qNK hK34 ?_));clear hK34;clear F a;intro a F
   refine cIf F rfl (fun h80=>?_) (fun h80=>?_)
   ·
    replace h80:=of_decide_eq_true h80
    have hje:j < q.path.evs.length:=by omega
    have hm3:met3.length≤262:=by have:=hM3.len;have:=GO met3;omega
    obtain ⟨e,he⟩:∃ e,q.path.evs[j]? = some e:=⟨_,List.getElem?_eq_getElem hje⟩
    have heq:(q.path.evs.map Ev.cells)[j]? = some e.cells:=by rw [List.getElem?_map,he];rfl
    obtain ⟨bE,oE,hE1,hE2⟩:=(H.memAt 2 rfl).at hqi.e j e.cells heq
    have hE1:q.A1=some ⟨bE,oE,none⟩:=hE1
    refine wp_skip (hK33 _ _ ?_);clear hK33;refine cSeq (fun K35 hK35=>?_);refine wp_block ?_;refine cSR fun K36 hK36=>Xl F rfl (Xd rfl ?_);clear F a;intro a F
    refine sIx underlying48 sizeOf37 F rfl rfl rfl rfl ?_ ?_
    focus exact hip
    clear F a;intro a F;refine sFaZ (f:=0) underlying37 rfl sizeOf33 rfl rfl F rfl rfl rfl ?_;clear F a;intro a F
    refine sLd isAgg33 F rfl rfl rfl (show w.cell? ⟨bP,oP+i * 12,none⟩=some (.slice (some ⟨bE,oE,none⟩) q.path.evs.length q.c1) from by obtain ⟨b9,o9,g1,g2⟩:=H.rowsAt 1 rfl WS (by decide) i q.cells (by rw [List.getElem?_map,hq];rfl);cases g1;rw [← hE1];simpa using g2 0 _ rfl) ?_;clear F a;intro a F
    refine Xl F rfl ?_;clear F a;intro a F
    refine sIx underlying33 sizeOf45 F rfl rfl rfl rfl ?_ ?_
    focus exact hje
    clear F a;intro a F
    refine Xo underlying45 rfl ?si F rfl hE2 ?_
    case si=>exact XC sizeOf45
    clear F a;intro a F;refine sAl H zeroValue45 F rfl rfl ?_;clear F a H;intro b15 a w F H
    refine sSr H 0 ?si F rfl rfl rfl ?s1 rfl rfl ?_
    case si=>exact XC sizeOf45
    case s1=>rfl
    clear H;intro w H;refine nK hK36 (cSR fun K37 hK37=>Xi (f:=1) (k:=1) underlying45 rfl sizeOf5 rfl rfl F rfl (Xc isAgg5 rfl (H.cell 0 rfl rfl) (Xj rfl rfl (XZ (y:=2)) (Xd rfl ?_))));clear hK36;clear F a;intro a F
    refine F.split 94 rfl ?_ ?_ <;> (clear F;intro h94 F)
    ·
     replace h94:=Yh h94;refine Xl F rfl (Xb (f:=3) (k:=3) underlying45 rfl sizeOf5 rfl rfl rfl (Xc isAgg5 rfl (H.cell 0 rfl rfl) ?_));clear F a;intro a F;refine Xn call31 F rfl (NW A63 c63 met3 e.val _ (H.rowsAt 1 rfl XL (by decide)) (by have:=hM3.len;have:=GO met3;omega)) (gG H ?_);clear F a H;intro a w F H;refine UV F rfl rfl rfl (Xg rfl rfl (qNK hK37 ?_));clear hK37;clear F a;intro a F
     refine cIf F rfl (fun h100=>?_) (fun h100=>?_)
     ·
      replace h100:=ZA h100;refine cSR fun K38 hK38=>Xl F rfl (Xb (f:=3) (k:=3) underlying45 rfl sizeOf5 rfl rfl rfl (Xc isAgg5 rfl (H.cell 0 rfl rfl) ?_));clear F a;intro a F;refine MP H underlying23 sizeOf5 zeroValue5 rfl F rfl rfl rfl rfl ?_;clear F a H;intro b104 a w F H
      refine G7 (bytes:=1) H 2 underlying23 typeInfo5 rfl rfl rfl rfl rfl rfl F rfl rfl rfl rfl rfl (H.whole 0 rfl) rfl ?s1 ?s2 ?_
      case s1=>rfl
      case s2=>(simp only [XN,List.length_map];omega)
      clear F a H;intro A105 c105 a w F H;refine Xa F rfl (qNK hK38 (WN (Xh rfl (qNK hK35 (WN (Xd rfl ?_))))));clear hK38 hK35;clear F a;intro a F
      refine Xm F rfl rfl (XJ (j:=1) ?_) ?_
      focus omega
      clear F a;intro a F;refine Xa F rfl ?_;clear F a;intro a F;refine sNil ?_
      have hte:q.path.evs.take (j+1)=q.path.evs.take j++[e]:=by rw [List.take_add_one,he];rfl
      (have hk:e.kind=2:=h94
       have hin:e.val ∉ met3:=by simpa using h100
       have e1:XN met3++[[Go.Proofs.YtagnefpgidbhnaaGreatDoor.b8 e.val]]=XN (met3++[e.val]):=by simp [XN]
       have e2:(XN (met3++[e.val])).length=(met3++[e.val]).length:=List.length_map _
       have H9:=H.sel [2,3,4,5,6] rfl rfl
       rw [e1,e2] at H9 F
       exact ⟨_,by omega,_,⟨j+1,met3++[e.val],A105,c105,true,rfl,rfl,by omega,(by rw [hte,MC hk,← List.append_assoc];exact hM3.add hin),H9⟩,F.tt⟩)
     replace h100:=ZB h100;refine wp_skip (hK35 _ _ (cReg (Xl F rfl ?_)));clear hK35;clear F a;intro a F
     refine Xm F rfl rfl (XJ (j:=1) ?_) ?_
     focus omega
     clear F a;intro a F;refine Xa F rfl ?_;clear F a;intro a F;refine sNil ?_
     have hte:q.path.evs.take (j+1)=q.path.evs.take j++[e]:=by rw [List.take_add_one,he];rfl
     (have hk:e.kind=2:=h94
      have hin:e.val ∈ met3:=by simpa using h100
      exact ⟨_,by omega,_,⟨j+1,met3,A63,c63,fr3,rfl,rfl,by omega,(by rw [hte,MC hk,← List.append_assoc];exact hM3.keep hin),H.sel [1,2,3,4,5] rfl rfl⟩,F.tt⟩)
    replace h94:=Yi h94;refine Xe F (Xf (Xf (Xf (Xf (Xg rfl rfl (qNK hK37 ?_))))));clear hK37;clear F a;intro a F;refine cIfF F rfl ?_;refine wp_skip (hK35 _ _ (cReg (Xl F rfl ?_)));clear hK35;clear F a;intro a F
    refine Xm F rfl rfl (XJ (j:=1) ?_) ?_
    focus omega
    clear F a;intro a F;refine Xa F rfl ?_;clear F a;intro a F;refine sNil ?_
    have hte:q.path.evs.take (j+1)=q.path.evs.take j++[e]:=by rw [List.take_add_one,he];rfl
    (have hk:e.kind ≠ 2:=h94
     exact ⟨_,by omega,_,⟨j+1,met3,A63,c63,fr3,rfl,rfl,by omega,(by rw [hte,BN hk];exact hM3),H.sel [1,2,3,4,5] rfl rfl⟩,F.tt⟩)
   replace h80:=of_decide_eq_false h80;refine wp_exit ?_;refine hK31 _ _ (cReg (Xl F rfl ?_));clear hK31;clear F a;intro a F
   refine Xm F rfl rfl (XJ (j:=1) ?_) ?_
   focus omega
   clear F a;intro a F;refine Xa F rfl ?_;clear F a;intro a F;refine sNil ?_
   have h9:=hM3
   rw [List.take_of_length_le (l:=q.path.evs) (by omega),hqr] at h9
   exact ⟨_,by omega,_,⟨i+1,met3,A63,c63,fr3,rfl,rfl,by omega,(by rw [BM hrr,← List.append_assoc];exact h9),H.sel [0,1,2,3,4] rfl rfl⟩,F.tt⟩
  replace h70:=of_decide_eq_false h70;refine wp_exit ?_;refine hK23 _ _ (cReg (Xl F rfl ?_));clear hK23;clear F a;intro a F
  refine Xm F rfl rfl (XJ (j:=1) ?_) ?_
  focus omega
  clear F a;intro a F;refine Xa F rfl ?_;clear F a;intro a F;refine sNil ?_
  have h9:=hM2
  rw [List.take_of_length_le (by omega),← BL hl] at h9
  refine ⟨_,by omega,_,⟨t+1,met2,A62,c62,fr2,rfl,rfl,by omega,(fun i' l' hi' hl'=>?_),h9,H.sel [0,3,4] rfl rfl⟩,F.tt⟩
  rcases Nat.lt_or_ge i' t with h1 | h1
  · exact hok i' l' h1 hl'
  · obtain rfl:i'=t:=by omega
    obtain rfl:=Option.some.inj (hl.symm.trans hl')
    exact hwy
 replace h52:=of_decide_eq_false h52
 obtain rfl:t=p.threads.length:=by omega
 have hst:=hM1.next (fun l hl=>by obtain ⟨i,hi⟩:=List.mem_iff_getElem?.1 hl;exact hok i l (List.getElem?_eq_some_iff.1 hi).1 hi)
 refine wp_exit ?_;refine hK19 _ _ (cSR fun K39 hK39=>Xl F rfl (Es rfl rfl rfl (qNK hK39 ?_)));clear hK19 hK39;clear F a;intro a F
 refine cIf F rfl (fun h107=>?_) (fun h107=>?_)
 ·
  replace h107:=ZA h107
  obtain rfl:fr=false:=by simpa using h107
  have hst2:G6 p (XP met)=some (XP met):=by rw [hst,hM1.no rfl]
  refine cSR fun K40 hK40=>Xl F rfl (Xh rfl (Xh rfl (qNK hK40 ?_)));clear hK40;clear F a;intro a F;refine wp_ret ?_;refine xI ?_;refine Zo results14 F rfl rfl ?_
  (rw [← hgo,DX h29 hst2 rfl];exact ⟨A7,c7,rfl,H.sel [1] rfl rfl⟩)
 replace h107:=ZB h107
 obtain rfl:fr=true:=by simpa using h107
 refine wp_skip ?_
 have hy:=hM1.yes rfl
 exact ⟨f,by omega,_,⟨f,met1,A61,c61,rfl,rfl,hM1.len,by omega,by rw [← hgo,Xax h29 hst (by omega)],H.sel [0,2] rfl rfl⟩,F.tt⟩
-- SqO
open Go.RowKit
set_option maxRecDepth 100000
theorem LF {w:World} {A:Option Addr} {l:List UInt8} (h:RowsAt w A 1 (l.map fun x=>[b8 x])) (n:Nat):RowsAt w A 1 ((l.take n).map fun x=>[b8 x]):=fun j c hj=>h j c (by
 rw [List.map_take,List.getElem?_take] at hj
 split at hj
 · exact hj
 · cases hj)
end Go.Proofs.YtagnefpgidbhnaaGreatDoor
