/-
  WALK2. Package buffer: moves, Moves, Over. Conditions: the program lies in memory; the Qz are not overfull.
-/
import Derived.Test.YtcpehikcegoojaaGreatDoorBfC
set_option linter.unusedSimpArgs false
set_option linter.unusedVariables false
namespace Go.Proofs.YtcpehikcegoojaaGreatDoor
-- BfD
open Go.Proofs.Tryz
open Go.RowKit
set_option maxRecDepth 100000
theorem wrapO (n:Nat):IntKind.u8.wrap (n:Int)=((UInt8.ofNat n).toNat:Int):=by
 have e:IntKind.u8.wrap (n:Int)=(n:Int) % 256:=by simp [IntKind.wrap,IntKind.signed,IntKind.bits]
 rw [e]
 simp
theorem eTbo:EqT Tryz.prog 1 4 [.bool] false:=Xkw Za
theorem eTp:EqT Tryz.prog 2 73 [.u8,.bool,.u8] true:=by
 have h:=EX (P:=Tryz.prog) (D:=1) (kss:=[([.u8],false),([.bool],false),([.u8],false)]) X6 (by kernel_rfl)
   ⟨rfl,by decide,XH,XJ,fun _=>rfl,eT8,rfl,by decide,YQ,Y6,fun _=>rfl,eTbo,rfl,by decide,XH,XJ,fun _=>rfl,eT8,trivial⟩
 exact h
theorem Xh0 (x:Pss):Fits [.u8,.bool,.u8] x.cells:=⟨⟨_,rfl⟩,⟨_,rfl⟩,⟨_,rfl⟩,trivial⟩
theorem ceqX (x y:Pss):ceq x.cells y.cells=decide (x=y):=by
 obtain ⟨a,b,c⟩:=x
 obtain ⟨d,e,f⟩:=y
 rw [Bool.eq_iff_iff]
 simp [Pss.cells,ceq,Xai,b8,Int.ofNat_inj,UInt8.toNat_inj]
theorem bEqX {a b:Operand} {x y:Pss}:Lj Tryz.prog .eql 73 a b (.agg x.cells.toArray) (.agg y.cells.toArray) (.bool (decide (x=y))):=by
 have h:=bEqT (x':=a) (y':=b) eTp (by kernel_rfl) (by decide) (Xh0 x) (Xh0 y)
 rw [ceqX] at h
 exact h
theorem bNeX {a b:Operand} {x y:Pss}:Lj Tryz.prog .neq 73 a b (.agg x.cells.toArray) (.agg y.cells.toArray) (.bool (!decide (x=y))):=by
 have h:=bNeT (x':=a) (y':=b) eTp (by kernel_rfl) (by decide) (Xh0 x) (Xh0 y)
 rw [ceqX] at h
 exact h
def XbU (m:UInt8) (s:By) (t i:Nat):UInt8:=if m=3∧0 < i then JU s t (i - 1) else 0
theorem MN {m:UInt8} {s:By} {t i:Nat} (h:m=3):JM m s t i=⟨UInt8.ofNat t,true,JU s t i⟩:=by rw [JM,if_pos h]
theorem E0 {m:UInt8} {s:By} {t i:Nat} (h:m ≠ 3):JM m s t i=⟨UInt8.ofNat t,true,0⟩:=by rw [JM,if_neg h]
theorem Xgf {m:UInt8} {s:By} {t i:Nat} (h:m ≠ 3):XbU m s t i=0:=if_neg (fun hh=>h hh.1)
theorem BX {m:UInt8} {s:By} {t i:Nat}:JM m s t i=⟨UInt8.ofNat t,true,XbU m s t (i+1)⟩:=by
 by_cases h:m=3
 · rw [MN h,XbU,if_pos ⟨h,by omega⟩];rfl
 · rw [E0 h,Xgf h]
theorem Xab {m:UInt8} {s:By} {t i:Nat} (h:(i:Int)=0∨(!decide (JM m s t i=JM m s t (i - 1)))=true):J0 m s t (i+1)=J0 m s t i++[JM m s t i]:=by
 rw [J0,if_pos]
 rcases h with h | h
 · exact .inl (by omega)
 · refine .inr ?_
   have hn:JM m s t i ≠ JM m s t (i - 1):=by simpa using h
   by_cases hm:m=3
   · refine ⟨hm,fun e=>hn ?_⟩
     rw [MN hm,MN hm,e]
   · exact absurd (by rw [E0 hm,E0 hm]) hn
theorem XgF {m:UInt8} {s:By} {t i:Nat} (hi:0 < i) (h:(!decide (JM m s t i=JM m s t (i - 1)))=false):J0 m s t (i+1)=J0 m s t i:=by
 have he:JM m s t i=JM m s t (i - 1):=by simpa using h
 rw [J0,if_neg]
 rintro (h1 | ⟨hm,h2⟩)
 · omega
 · rw [MN hm,MN hm] at he
   exact h2 (congrArg Pss.l he)
def Lx (p:Prg) (m:UInt8) (s:By) (t:Nat):List Pss:=QZ p m s t++(if JP p m s t=true then [⟨UInt8.ofNat t,false,0⟩] else [])
theorem Xi7 {p:Prg} {m:UInt8} {s:By} {t:Nat} (h:JP p m s t=true):(Lx p m s t).map Pss.cells=(QZ p m s t).map Pss.cells++[(Pss.mk (UInt8.ofNat t) false 0).cells]:=by rw [Lx,if_pos h];simp
theorem Xi8 {p:Prg} {m:UInt8} {s:By} {t:Nat} (h:JP p m s t=false):QZ p m s t=Lx p m s t:=by rw [Lx,if_neg (by rw [h];simp)];simp
theorem BW (m:UInt8) (s:By) (t:Nat):∀ i,∃ l,J0 m s t (i+1)=l++[JM m s t i]
 | 0=>⟨[],rfl⟩
 | i+1=>by
   rw [J0]
   split
   · exact ⟨_,rfl⟩
   · rename_i h
     obtain ⟨l,hl⟩:=BW m s t i
     refine ⟨l,?_⟩
     rw [hl]
     unfold JM
     by_cases hm:m=3
     · have:JU s t (i+1)=JU s t i:=Decidable.not_not.1 fun hn=>h (.inr ⟨hm,hn⟩)
       rw [if_pos hm,if_pos hm,this]
     · rw [if_neg hm,if_neg hm]
theorem Xcd {m:UInt8} {s:By} {t i:Nat} (hi:0 < i) (pre:List Pss):(pre++J0 m s t i)[(pre++J0 m s t i).length - 1]? = some (JM m s t (i - 1)):=by
 obtain ⟨l,hl⟩:=BW m s t (i - 1)
 rw [show i - 1+1=i by omega] at hl;rw [hl,← List.append_assoc,← List.getLast?_eq_getElem?,List.getLast?_concat]
theorem Xae {m:UInt8} {s:By} {t i:Nat} {pre:List Pss} (h:J0 m s t (i+1)=J0 m s t i++[JM m s t i]):(pre++J0 m s t (i+1)).map Pss.cells=(pre++J0 m s t i).map Pss.cells++[(JM m s t i).cells]:=by
 rw [h];simp
theorem Dy (m:UInt8) (s:By) (t:Nat):∀ i,(J0 m s t i).length≤i
 | 0=>Nat.le_refl _
 | i+1=>by
   have:=Dy m s t i
   rw [J0]
   split
   · rw [List.length_append];simp;omega
   · omega
theorem CU {p:Prg} {m:UInt8} {s:By} (hm:∀ t,t < 4→JA s t≤12):∀ n,n≤4→(QZ p m s n).length≤13 * n
 | 0,_=>Nat.le_refl _
 | n+1,h=>by
   have h1:=CU (p:=p) (m:=m) hm n (by omega)
   have h2:=Dy m s n (JA s n)
   have h3:=hm n (by omega)
   rw [QZ,BG,List.length_append,List.length_append]
   split <;> simp <;> omega
theorem Xax (l:List Pss):∀ r ∈ l.map Pss.cells,r.length=3:=fun r hr=>by
 obtain ⟨x,_,rfl⟩:=List.mem_map.1 hr
 rfl
set_option maxHeartbeats 4000000 in
theorem XeE (cs:List Value) (p:Prg) (w0:World) (hP:ProgAt w0 cs p) (hn:p.threads.length≤4) (mc:UInt8) (s:By) (hm:∀ t,t < 4→JA s t≤12) :
   Calls Tryz.prog 71 #[.agg cs.toArray,YtcpehikcegoojaaGreatDoor.b8 mc,.agg (bs 142 s).toArray] w0 fun e w'=>∃ A c,e = .returned (.slice A (JG p mc s).length c)∧Own w0 none w' [.rws 73 3 (.slice A (JG p mc s).length c) ((JG p mc s).map Pss.cells)]:=by
 have H:=Own.start w0 none
 have hP0:=hP
 obtain ⟨LA,LC,IA,IC,TA,TC,h,ccs,hp⟩:=hP
 obtain ⟨c1,c2,c3,c4,c5,rfl⟩:=DM (JT hp.cond)
 have hcs:=hp.cs
 subst hcs;refine JF func71 rfl ntmps71 rfl (fun a F=>?_);refine cSR fun K1 hK1=>?_;refine sBx H F rfl rfl rfl ?_;clear F a H;intro b3 a w F H;refine Mg H F rfl rfl rfl ?_;clear F a H;intro b5 a w F H;refine Xa F rfl (qNK hK1 (qSR fun K2 hK2=>Xd rfl ?_));clear hK1;clear F a;intro a F
 replace H:=H.nilRws 73 3
 refine nK hK2 ?_;clear hK2;refine JD (fun K3 hK3=>?_);refine cSR fun K4 hK4=>Xb (f:=3) (k:=3) XM rfl Yo rfl rfl F rfl (Xc Yp rfl (H.cell 2 rfl rfl) (Xx X7 rfl (Xh rfl (qNK hK4 ?_))));clear hK4;clear F a;intro a F;refine wp_block ?_
 refine JN [1,3,5,13] (fun m ups w=>∃ (j:Nat) (A:Option Addr) (c:Nat),m=p.threads.length - j∧ups=[(7,.slice A (QZ p mc s j).length c),(14,.int .i64 ((j:Nat):Int))]∧j≤p.threads.length∧Own w0 none w [.rws 73 3 (.slice A (QZ p mc s j).length c) ((QZ p mc s j).map Pss.cells),.blk b5 (bs 142 s) 60,.blk b3 ([.string p.name,.slice LA p.locs.length LC,.slice IA p.init.length IC,.slice TA p.threads.length TC,b8 p.ask]++[c1,c2,c3,c4,c5]) 29]) F (p.threads.length) [(7,.slice none 0 0),(14,.int .i64 ((0:Nat):Int))] ?_ ?_
 · exact ⟨0,none,0,rfl,rfl,by omega,H.sel [0,1,2] rfl rfl⟩
 clear F
 clear H
 intro m ups a w hI F
 obtain ⟨j,A,c,rfl,rfl,hj,H⟩:=hI
 refine cSR fun K5 hK5=>Xg F rfl rfl QF (qNK hK5 ?_);clear hK5;clear F a;intro a F;refine JD (fun K6 hK6=>?_)
 refine cIf F rfl (fun h15=>?_) (fun h15=>?_)
 ·
  replace h15:=of_decide_eq_true h15
  have hjl:j < p.threads.length:=by omega
  obtain ⟨q,hq⟩:∃ q,p.threads[j]? = some q:=⟨_,List.getElem?_eq_getElem hjl⟩
  have hml:=CU (p:=p) (m:=mc) hm j (by omega)
  have hmj:=hm j (by omega)
  have hmd:JA s j=(s (138+j)).toNat:=rfl
  refine wp_skip (hK6 _ _ ?_);clear hK6;refine JD (fun K7 hK7=>?_);refine wp_block ?_;refine cSR fun K8 hK8=>Xf F rfl (Xd rfl (qNK hK8 (qSR fun K9 hK9=>Xh rfl (qCv XT XO rfl rfl rfl (wrapO _) (qBd (cs:=(Pss.mk (UInt8.ofNat j) false 0).cells) (places:=[(0,1),(1,1),(2,1)]) Ym X6 (by kernel_rfl) rfl rfl rfl rfl ?_)))));clear hK8;clear F a;intro a F;refine sAl H Ym F rfl rfl ?_;clear F a H;intro b9 a w F H
  refine sSr H 0 ?si F rfl rfl rfl ?s1 rfl rfl ?_
  case si=>exact Jz Yd
  case s1=>rfl
  clear H;intro w H;refine nK hK9 ?_;clear hK9
  refine Mx [1,3,5,8,9,13,14] (fun ups w=>∃ (A2:Option Addr) (k2:Nat),ups=[(7,.slice A2 (Lx p mc s j).length k2)]∧Own w0 none w [.rws 73 3 (.slice A2 (Lx p mc s j).length k2) ((Lx p mc s j).map Pss.cells),.blk b9 (Pss.mk (UInt8.ofNat j) false 0).cells 73,.blk b5 (bs 142 s) 60,.blk b3 ([.string p.name,.slice LA p.locs.length LC,.slice IA p.init.length IC,.slice TA p.threads.length TC,b8 p.ask]++[c1,c2,c3,c4,c5]) 29]) F ?_ ?_
  ·
   refine cSR fun K10 hK10=>?_
   refine Xw XM rfl ?si F rfl (H.whole 3 rfl) ?_
   case si=>exact Jz Ya
   clear F a;intro a F;refine Xf F rfl (Nu XG rfl XL rfl rfl rfl (H.whole 2 rfl) (Xh rfl ?_));clear F a;intro a F;refine Xu call87 F rfl (Xcb _ p _ (hP0.own H) mc s j q (by omega) hq) (gG H ?_);clear F a H;intro a w F H;refine nK hK10 ?_;clear hK10
   refine cIf F rfl (fun h24=>?_) (fun h24=>?_)
   ·
    refine JY (Xf F rfl ?_);clear F a;intro a F
    refine Xw X6 rfl ?si F rfl (H.whole 0 rfl) ?_
    case si=>exact Jz Yd
    clear F a;intro a F;refine Cf H XX Yd Ym rfl F rfl rfl rfl rfl rfl ?_;clear F a H;intro b27 a w F H
    refine Mq (bytes:=3) H 2 XX YJ rfl rfl rfl rfl rfl rfl F rfl rfl rfl rfl rfl (H.whole 0 rfl) rfl ?s1 ?s2 ?_
    case s1=>rfl
    case s2=>(rw [List.length_map];omega)
    clear F a H;intro A28 c28 a w F H;refine Xa F rfl ?_;clear F a;intro a F;refine J4 ?_
    (have eR:(Lx p mc s j).map Pss.cells=(QZ p mc s j).map Pss.cells++[(Pss.mk (UInt8.ofNat j) false 0).cells]:=Xi7 h24
     have eL:(Lx p mc s j).length=((QZ p mc s j).map Pss.cells++[(Pss.mk (UInt8.ofNat j) false 0).cells]).length:=by rw [← eR,List.length_map]
     rw [eR,eL]
     exact ⟨_,⟨A28,c28,rfl,H.sel [2,1,3,4] rfl rfl⟩,F.tt⟩)
   refine wp_skip ?_
   (have e:QZ p mc s j=Lx p mc s j:=Xi8 h24
    rw [e] at H F
    exact ⟨_,⟨A,c,rfl,H.sel [1,0,2,3] rfl rfl⟩,F.tt⟩)
  clear F H
  intro ups a w hI F
  obtain ⟨A2,k2,rfl,H⟩:=hI
  refine cSR fun K11 hK11=>Xb (f:=1) (k:=1) X6 rfl YQ rfl rfl F rfl ?_;clear F a;intro a F;refine sSt H 1 YQ F rfl rfl rfl rfl rfl rfl ?_;clear H;intro w H;refine nK hK11 (cSR fun K12 hK12=>Xf F rfl (Xr (f:=3) (k:=138) XG rfl Yh rfl rfl rfl ?_));clear hK11;clear F a;intro a F
  refine MP X8 XH F rfl rfl rfl rfl ?_ ?_
  focus (omega)
  clear F a;intro a F;refine sLd XJ F rfl rfl rfl (H.ce' 2 rfl) (qCv XO XT rfl rfl rfl (QG _) (Xh rfl (qNK hK12 ?_)));clear hK12;clear F a;intro a F;refine wp_block ?_
  refine JN [1,3,5,8,9,13,14,34] (fun m ups w=>∃ (i:Nat) (A3:Option Addr) (k3:Nat),m=JA s j - i∧ups=[(7,.slice A3 (Lx p mc s j++J0 mc s j i).length k3),(35,.int .i64 ((i:Nat):Int))]∧i≤JA s j∧Own w0 none w [.rws 73 3 (.slice A3 (Lx p mc s j++J0 mc s j i).length k3) ((Lx p mc s j++J0 mc s j i).map Pss.cells),.blk b9 (Pss.mk (UInt8.ofNat j) true (XbU mc s j i)).cells 73,.blk b5 (bs 142 s) 60,.blk b3 ([.string p.name,.slice LA p.locs.length LC,.slice IA p.init.length IC,.slice TA p.threads.length TC,b8 p.ask]++[c1,c2,c3,c4,c5]) 29]) F (JA s j) [(7,.slice A2 (Lx p mc s j).length k2),(35,.int .i64 ((0:Nat):Int))] ?_ ?_
  · exact ⟨0,A2,k2,rfl,by rw [show Lx p mc s j++J0 mc s j 0=Lx p mc s j from List.append_nil _],by omega,by rw [show Lx p mc s j++J0 mc s j 0=Lx p mc s j from List.append_nil _,show XbU mc s j 0=0 from if_neg (fun h=>absurd h.2 (by omega))];exact H.sel [0,1,2,3] rfl rfl⟩
  clear F
  clear H
  intro m ups a w hI F
  obtain ⟨i,A3,k3,rfl,rfl,hi,H⟩:=hI
  have hpl:(Lx p mc s j).length≤13 * j+1:=by unfold Lx;rw [List.length_append];split <;> simp <;> omega
  have hdl:=Dy mc s j i
  have hLn:(Lx p mc s j++J0 mc s j i).length≤13 * j+1+i:=by rw [List.length_append];omega
  refine cSR fun K13 hK13=>Xg F rfl rfl QF (qNK hK13 ?_);clear hK13;clear F a;intro a F;refine JD (fun K14 hK14=>?_)
  refine cIf F rfl (fun h36=>?_) (fun h36=>?_)
  ·
   replace h36:=of_decide_eq_true h36;refine wp_skip (hK14 _ _ ?_);clear hK14;refine JD (fun K15 hK15=>?_);refine wp_block ?_;refine cSR fun K16 hK16=>Xf F rfl (Xd rfl (qNK hK16 ?_));clear hK16;clear F a;intro a F
   refine Mx [1,3,5,7,8,9,10,13,14,34,35] (fun ups w=>ups=[]∧Own w0 none w [.rws 73 3 (.slice A3 (Lx p mc s j++J0 mc s j i).length k3) ((Lx p mc s j++J0 mc s j i).map Pss.cells),.blk b9 (JM mc s j i).cells 73,.blk b5 (bs 142 s) 60,.blk b3 ([.string p.name,.slice LA p.locs.length LC,.slice IA p.init.length IC,.slice TA p.threads.length TC,b8 p.ask]++[c1,c2,c3,c4,c5]) 29]) F ?_ ?_
   ·
    refine cSR fun K17 hK17=>Xf F rfl (Xe rfl rfl (JL (y:=3)) (qNK hK17 ?_));clear hK17;clear F a;intro a F
    refine cIf F rfl (fun h39=>?_) (fun h39=>?_)
    ·
     replace h39:=J1 h39;refine JY (Xf F rfl (Xh rfl (Xr (f:=2) (k:=42) XG rfl Yb rfl rfl rfl ?_)));clear F a;intro a F
     refine sIa XZ Yi F rfl rfl rfl rfl ?_ ?_
     focus (omega)
     clear F a;intro a F
     refine sIa X2 XS F rfl rfl rfl rfl ?_ ?_
     focus (omega)
     clear F a;intro a F;refine Xe2 (f:=0) XQ rfl XH rfl rfl F rfl rfl rfl (Xc XJ rfl (H.ce' 2 rfl) (Xr (f:=2) (k:=2) X6 rfl XH rfl rfl rfl ?_));clear F a;intro a F;refine sSt H 1 XH F rfl rfl rfl rfl rfl rfl ?_;clear H;intro w H;refine J4 ?_
     (rw [MN h39]
      exact ⟨[],⟨rfl,H.sel [0,1,2,3] rfl rfl⟩,F.tt⟩)
    replace h39:=J2 h39;refine wp_skip ?_
    (rw [Xgf h39] at H
     rw [E0 h39]
     exact ⟨[],⟨rfl,H.sel [0,1,2,3] rfl rfl⟩,F.tt⟩)
   clear F H
   intro ups a w hI F
   obtain ⟨rfl,H⟩:=hI
   refine JD (fun K18 hK18=>?_);refine Xi H ?_;replace H:=H.drew;refine Xj 0 rfl F rfl (fun w=>rMv F rfl) H qq0 (Xm 1 rfl rfl (fun a F w=>Q0 F rfl rfl Mp) H qq0 (Xm 2 rfl rfl (fun a F w=>rMv F rfl) H qq0 ?_));clear F a;intro a F
   refine F.split 50 rfl ?_ ?_ <;> (clear F;intro h50 F)
   ·
    replace h50:=J1 h50;refine Xz 3 rfl F rfl H qq0 (XA 4 rfl rfl H qq0 (XA 5 rfl rfl H qq0 (XA 6 rfl rfl H qq0 (XA 7 rfl rfl H qq0 (XA 8 rfl rfl H qq0 (XA 9 rfl rfl H qq0 (XA 10 rfl rfl H qq0 (Xm 11 rfl rfl (fun a F w=>rPk F rfl rfl) H qq0 ?_))))))));clear F a;intro a F;refine Xp (k:=12) ?_;refine hK18 _ _ ?_;clear hK18;refine MQ F rfl ?_;refine JY (Xf F rfl ?_);clear F a;intro a F
    refine Xw X6 rfl ?si F rfl (H.whole 1 rfl) ?_
    case si=>exact Jz Yd
    clear F a;intro a F;refine Cf H XX Yd Ym rfl F rfl rfl rfl rfl rfl ?_;clear F a H;intro b62 a w F H
    refine Mq (bytes:=3) H 1 XX YJ rfl rfl rfl rfl rfl rfl F rfl rfl rfl rfl rfl (H.whole 0 rfl) rfl ?s1 ?s2 ?_
    case s1=>rfl
    case s2=>(rw [List.length_map];omega)
    clear F a H;intro A63 c63 a w F H;refine Xa F rfl (qNK hK15 (Ef ?_));clear hK15;clear F a;intro a F
    refine Xg F rfl rfl (JJ (j:=1) ?_) ?_
    focus omega
    clear F a;intro a F;refine Xf F rfl ?_;clear F a;intro a F;refine J4 ?_
    (have e9:(JM mc s j i).cells=(Pss.mk (UInt8.ofNat j) true (XbU mc s j (i+1))).cells:=congrArg Pss.cells BX
     (have eD:J0 mc s j (i+1)=J0 mc s j i++[JM mc s j i]:=Xab (.inl h50)
      have eR:=Xae (pre:=Lx p mc s j) eD
      have eL:(Lx p mc s j++J0 mc s j (i+1)).length=((Lx p mc s j++J0 mc s j i).map Pss.cells++[(JM mc s j i).cells]).length:=by rw [← eR,List.length_map]
      refine ⟨_,by omega,_,⟨i+1,A63,c63,rfl,rfl,by omega,?_⟩,?_⟩
      · rw [eR,eL,← e9];exact H.sel [1,2,3,4] rfl rfl
      · rw [eL];exact F.tt))
   replace h50:=J2 h50
   have hi0:0 < i:=by omega
   have hlast:=Xcd (m:=mc) (s:=s) (t:=j) hi0 (Lx p mc s j)
   obtain ⟨bL,oL,rfl,hLx⟩:=H.rowsAt 0 rfl (Xax _) (by decide) _ _ (by rw [List.getElem?_map,hlast];rfl)
   have hL1:=(List.getElem?_eq_some_iff.1 hlast).1
   have hrow:∀ w,Own w0 none w [.rws 73 3 (.slice (some ⟨bL,oL,none⟩) (Lx p mc s j++J0 mc s j i).length k3) ((Lx p mc s j++J0 mc s j i).map Pss.cells),.blk b9 (JM mc s j i).cells 73,.blk b5 (bs 142 s) 60,.blk b3 ([.string p.name,.slice LA p.locs.length LC,.slice IA p.init.length IC,.slice TA p.threads.length TC,b8 p.ask]++[c1,c2,c3,c4,c5]) 29]→w.rangeAt bL (oL+((Lx p mc s j++J0 mc s j i).length - 1) * 3) (JM mc s j (i - 1)).cells:=fun w H=>by
    obtain ⟨_,_,he,hq⟩:=H.rowsAt 0 rfl (Xax _) (by decide) _ _ (by rw [List.getElem?_map,hlast];rfl)
    cases he
    exact hq
   refine Xk (k:=3) (i:=3) rfl F rfl rfl (fun w H=>rLr X6 rfl ?si F rfl (H.whole 1 rfl)) H (fun _ _ _ h=>h) ?_
   case si=>exact Jz Yd
   clear F a;intro a F;refine Xj 4 rfl F rfl (fun w=>rMv F rfl) H qq0 (Xm 5 rfl rfl (fun a F w=>rMv F rfl) H qq0 (Xl 6 rfl rfl rfl (fun a F w H=>Bw XX F rfl) H qq0 ?_));clear F a;intro a F
   refine Xq (k:=7) (i:=7) rfl F rfl (fun w=>Q0 F rfl rfl (Es (j:=1) ?_ ?_)) H (fun _ _ _ h=>h) ?_
   focus omega
   focus omega
   clear F a;intro a F
   refine Xq (k:=8) (i:=8) rfl F rfl (fun w=>rIx XX Yd F rfl rfl ?_) H (fun _ _ _ h=>h) ?_
   focus (omega)
   clear F a;intro a F
   refine Xk (k:=9) (i:=9) rfl F rfl rfl (fun w H=>rLr X6 rfl ?si F rfl (hrow _ H)) H (fun _ _ _ h=>h) ?_
   case si=>exact Jz Yd
   clear F a;intro a F;refine Xj 10 rfl F rfl (fun w=>Q0 F rfl rfl (bNeX (x:=JM mc s j i) (y:=JM mc s j (i - 1)))) H qq0 (Xm 11 rfl rfl (fun a F w=>rPk F rfl rfl) H qq0 ?_);clear F a;intro a F;refine Xp (k:=12) ?_;refine hK18 _ _ ?_;clear hK18
   refine cIf F rfl (fun h59=>?_) (fun h59=>?_)
   ·
    refine JY (Xf F rfl ?_);clear F a;intro a F
    refine Xw X6 rfl ?si F rfl (H.whole 1 rfl) ?_
    case si=>exact Jz Yd
    clear F a;intro a F;refine Cf H XX Yd Ym rfl F rfl rfl rfl rfl rfl ?_;clear F a H;intro b62 a w F H
    refine Mq (bytes:=3) H 1 XX YJ rfl rfl rfl rfl rfl rfl F rfl rfl rfl rfl rfl (H.whole 0 rfl) rfl ?s1 ?s2 ?_
    case s1=>rfl
    case s2=>(rw [List.length_map];omega)
    clear F a H;intro A63 c63 a w F H;refine Xa F rfl (qNK hK15 (Ef ?_));clear hK15;clear F a;intro a F
    refine Xg F rfl rfl (JJ (j:=1) ?_) ?_
    focus omega
    clear F a;intro a F;refine Xf F rfl ?_;clear F a;intro a F;refine J4 ?_
    (have e9:(JM mc s j i).cells=(Pss.mk (UInt8.ofNat j) true (XbU mc s j (i+1))).cells:=congrArg Pss.cells BX
     (have eD:J0 mc s j (i+1)=J0 mc s j i++[JM mc s j i]:=Xab (.inr h59)
      have eR:=Xae (pre:=Lx p mc s j) eD
      have eL:(Lx p mc s j++J0 mc s j (i+1)).length=((Lx p mc s j++J0 mc s j i).map Pss.cells++[(JM mc s j i).cells]).length:=by rw [← eR,List.length_map]
      refine ⟨_,by omega,_,⟨i+1,A63,c63,rfl,rfl,by omega,?_⟩,?_⟩
      · rw [eR,eL,← e9];exact H.sel [1,2,3,4] rfl rfl
      · rw [eL];exact F.tt))
   refine wp_skip (hK15 _ _ (JY ?_));clear hK15
   refine Xg F rfl rfl (JJ (j:=1) ?_) ?_
   focus omega
   clear F a;intro a F;refine Xf F rfl ?_;clear F a;intro a F;refine J4 ?_
   (have e9:(JM mc s j i).cells=(Pss.mk (UInt8.ofNat j) true (XbU mc s j (i+1))).cells:=congrArg Pss.cells BX
    (have e:J0 mc s j (i+1)=J0 mc s j i:=XgF hi0 h59
     refine ⟨_,by omega,_,⟨i+1,some ⟨bL,oL,none⟩,k3,rfl,rfl,by omega,?_⟩,?_⟩
     · rw [e,← e9];exact H.sel [0,1,2,3] rfl rfl
     · rw [e];exact F.tt))
  replace h36:=of_decide_eq_false h36
  obtain rfl:i=JA s j:=by omega
  have e:Lx p mc s j++J0 mc s j (JA s j)=QZ p mc s (j+1):=by rw [Lx,QZ,BG,List.append_assoc]
  rw [e] at H F;refine wp_exit ?_;refine hK7 _ _ (JY ?_);clear hK7
  refine Xg F rfl rfl (JJ (j:=1) ?_) ?_
  focus omega
  clear F a;intro a F;refine Xf F rfl ?_;clear F a;intro a F;refine J4 ?_
  exact ⟨_,by omega,_,⟨j+1,A3,k3,rfl,rfl,by omega,H.sel [0,2,3] rfl rfl⟩,F.tt⟩
 replace h15:=of_decide_eq_false h15;refine wp_exit ?_;refine hK3 _ _ (cSR fun K19 hK19=>Xf F rfl (Xd rfl (qNK hK19 ?_)));clear hK3 hK19;clear F a;intro a F;refine wp_ret ?_;refine JI results71 F rfl ?_
 obtain rfl:j=p.threads.length:=by omega
 exact ⟨A,c,rfl,H.pick 0 rfl⟩
-- BfE
open Go.RowKit
set_option maxRecDepth 100000
structure RightM (p:Prg) (m:UInt8) (s:By):Prop where
 known:QS m=true
 bare:Qi p (Qf s)=true
 fits:∀ t,t < 4→Nd p m s t=true
theorem rightM_iff {p:Prg} {m:UInt8} {s:By}:N0 p m s=true ↔ RightM p m s:=by
 unfold N0
 rw [Bool.and_eq_true,Bool.and_eq_true,allB_iff]
 exact ⟨fun h=>⟨h.1.1,h.1.2,h.2⟩,fun h=>⟨⟨h.known,h.bare⟩,h.fits⟩⟩
theorem Xdx {s:By} {t:Nat} (ht:t < 4):Qf s (t * 9)=s (t * 9):=if_pos (by omega)
section
variable {p:Prg} {m:UInt8} {s:By}
theorem RightM.prog (h:RightM p m s):JH p=0:=MZ h.bare
theorem RightM.pc (h:RightM p m s) {t:Nat} {l:List Ins} (ht:t < 4) (hl:p.threads[t]? = some l):(s (t * 9)).toNat≤l.length:=by
 have h1:=h.bare
 unfold Qi Mf at h1
 simp only [Bool.and_eq_true] at h1
 have h2:=(allB_iff.1 h1.2.1.1) t ht
 rw [Q1 hl,Xdx ht] at h2
 exact of_decide_eq_true h2
theorem RightM.most (h:RightM p m s) {t:Nat} (ht:t < 4):JA s t≤Mm p m s t:=by
 have h1:=h.fits t ht
 unfold Nd at h1
 rw [Bool.and_eq_true] at h1
 exact of_decide_eq_true h1.1
theorem RightM.slot (h:RightM p m s) {t i:Nat} (ht:t < 4) (hi:i < 12):Qo p m s t i=true:=by
 have h1:=h.fits t ht
 unfold Nd at h1
 rw [Bool.and_eq_true] at h1
 exact allB_iff.1 h1.2 i hi
theorem RightM.many (h:RightM p m s) {t:Nat} (ht:t < 4):JA s t≤12∧(JA s t ≠ 0→m ≠ 1∧∃ l,p.threads[t]? = some l∧JA s t≤(s (t * 9)).toNat∧(s (t * 9)).toNat≤l.length):=by
 have h1:=h.most ht
 unfold Mm at h1
 split at h1
 · rename_i hc
   have hl:p.threads[t]? = some p.threads[t]:=List.getElem?_eq_getElem hc.2
   have h2:=h.pc ht hl
   have h3:=(valid h.prog).long t _ hl
   exact ⟨by omega,fun _=>⟨hc.1,_,hl,h1,h2⟩⟩
 · exact ⟨by omega,fun h=>absurd h (by omega)⟩
theorem RightM.loc (h:RightM p m s) {t i:Nat} (ht:t < 4) (hi:i < JA s t):(JU s t i).toNat < p.locs.length:=by
 have h1:=h.slot ht (show i < 12 by have:=(h.many ht).1;omega)
 unfold Qo at h1
 rw [if_neg (by omega),Bool.and_eq_true] at h1
 exact of_decide_eq_true h1.1
end
set_option maxHeartbeats 2000000 in
theorem CS (cs:List Value) (p:Prg) (w0:World) (hP:ProgAt w0 cs p) (hN:NeedsAt w0) (mc:UInt8) (s:By) :
   Calls Tryz.prog 47 #[.agg cs.toArray,YtcpehikcegoojaaGreatDoor.b8 mc,.agg (bs 142 s).toArray] w0 fun e w'=>∃ A c,e = .returned (.slice A (Qj p mc s).length c)∧Own w0 none w' [.rws 73 3 (.slice A (Qj p mc s).length c) ((Qj p mc s).map Pss.cells)]:=by
 have H:=Own.start w0 none
 obtain ⟨d1,d2,d3,d4,d5,d6,d7,d8,d9,d10,rfl⟩:=hP.len10
 refine JF Tryz.func47 rfl Tryz.ntmps47 rfl (fun a F=>?_);refine cSR fun K1 hK1=>?_;refine sBx H F rfl rfl rfl ?_;clear F a H;intro b3 a w F H;refine Mg H F rfl rfl rfl ?_;clear F a H;intro b5 a w F H;refine Xa F rfl (qNK hK1 ?_);clear hK1;clear F a;intro a F;refine JD (fun K2 hK2=>?_);refine cSR fun K3 hK3=>?_
 refine Xw Tryz.underlying29 rfl ?si F rfl (H.whole 1 rfl) ?_
 case si=>exact Jz Tryz.sizeOf29
 clear F a;intro a F;refine Xf F rfl (Nu Tryz.underlying60 rfl Tryz.sizeOf60 rfl rfl rfl (H.whole 0 rfl) ?_);clear F a;intro a F;refine Xu Tryz.call70 F rfl (Xeu _ p _ (hP.own H) (hN.own H) mc s) (gG H ?_);clear F a H;intro a w F H;refine Xav F rfl rfl rfl (qNK hK3 ?_);clear hK3;clear F a;intro a F
 refine cIf F rfl (fun h11=>?_) (fun h11=>?_)
 ·
  replace h11:=N1 h11;refine cSR fun K4 hK4=>Xa F rfl (qNK hK4 ?_);clear hK4;clear F a;intro a F;refine wp_ret ?_;simp only [Exit.then];refine JI Tryz.results47 F rfl ?_
  (have e:Qj p mc s=[]:=by rw [Qj,h11];rfl
   rw [e]
   exact ⟨none,0,rfl,(H.sel [] rfl rfl).nilRws _ _⟩)
 replace h11:=N2 h11
 have hr:=rightM_iff.1 h11
 refine wp_skip (hK2 _ _ (cSR fun K5 hK5=>?_));clear hK2
 refine Xw Tryz.underlying29 rfl ?si F rfl (H.whole 1 rfl) ?_
 case si=>exact Jz Tryz.sizeOf29
 clear F a;intro a F;refine Xf F rfl (Nu Tryz.underlying60 rfl Tryz.sizeOf60 rfl rfl rfl (H.whole 0 rfl) ?_);clear F a;intro a F;refine Xu Tryz.call71 F rfl (XeE _ p _ (hP.own H) ((valid hr.prog).thr4) mc s (fun t ht=>(hr.many ht).1)) ?_;rintro e w ⟨A,c,rfl,H2⟩;replace H:=H.join H2;clear H2;refine ⟨_,rfl,?_⟩;clear F a;intro a F;refine Xa F rfl (qNK hK5 ?_);clear hK5;clear F a;intro a F;refine wp_ret ?_;refine JI Tryz.results47 F rfl ?_
 (have e:Qj p mc s=JG p mc s:=by rw [Qj,h11];rfl
  rw [e]
  exact ⟨A,c,rfl,H.pick 0 rfl⟩)
theorem XeN (A:Option Addr) (C:Nat) (l:List Pss) (x:Pss) (w0:World) (hR:RowsAt w0 A 3 (l.map Pss.cells)) (hl:l.length≤9223372036854775807) :
   Calls Tryz.prog 88 #[.slice A l.length C,.agg x.cells.toArray] w0 fun e w'=>∃ n:Int,e = .returned (.int .i64 n)∧(0≤n ↔ x ∈ l)∧Below w0.heap.size w0 w':=by
 have H:=Own.start w0 none
 refine JF Tryz.func88 rfl Tryz.ntmps88 rfl (fun a F=>?_);refine cSR fun K1 hK1=>?_;refine sBx H F rfl rfl rfl ?_;clear F a H;intro b3 a w F H;refine Xa F rfl (qNK hK1 ?_);clear hK1;clear F a;intro a F;refine JD (fun K2 hK2=>?_);refine cSR fun K3 hK3=>Xf F rfl (Xx Tryz.underlying48 rfl (Xh rfl (qNK hK3 ?_)));clear hK3;clear F a;intro a F;refine wp_block ?_
 refine JN [0,3,7] (fun m ups w=>∃ j:Nat,m=l.length - j∧ups=[(8,.int .i64 ((j:Nat):Int))]∧j≤l.length∧(∀ i y,i < j→l[i]? = some y→x ≠ y)∧Own w0 none w [.blk b3 x.cells 73]) F (l.length) [(8,.int .i64 ((0:Nat):Int))] ?_ ?_
 · exact ⟨0,rfl,rfl,by omega,fun i y hi=>absurd hi (by omega),H.sel [0] rfl rfl⟩
 clear F
 clear H
 intro m ups a w hI F
 obtain ⟨j,rfl,rfl,hj,hno,H⟩:=hI
 refine cSR fun K4 hK4=>Xg F rfl rfl QF (qNK hK4 ?_);clear hK4;clear F a;intro a F;refine JD (fun K5 hK5=>?_)
 refine cIf F rfl (fun h9=>?_) (fun h9=>?_)
 ·
  replace h9:=of_decide_eq_true h9
  obtain ⟨y,hy⟩:∃ y,l[j]? = some y:=⟨_,List.getElem?_eq_getElem (by omega)⟩
  obtain ⟨b,o,rfl,hx⟩:=hR j y.cells (by rw [List.getElem?_map,hy];rfl)
  refine wp_skip (hK5 _ _ ?_);clear hK5;refine JD (fun K6 hK6=>?_);refine wp_block ?_;refine cSR fun K7 hK7=>Xf F rfl (Xd rfl (qNK hK7 ?_));clear hK7;clear F a;intro a F;refine JD (fun K8 hK8=>?_);refine Xi H ?_;replace H:=H.drew
  refine Xk (k:=0) (i:=0) rfl F rfl rfl (fun w H=>rLr Tryz.underlying73 rfl ?si F rfl (H.whole 0 rfl)) H (fun _ _ _ h=>h) ?_
  case si=>exact Jz Tryz.sizeOf73
  clear F a;intro a F;refine Xj 1 rfl F rfl (fun w=>rMv F rfl) H qq0 (Xm 2 rfl rfl (fun a F w=>rMv F rfl) H qq0 ?_);clear F a;intro a F
  refine Xq (k:=3) (i:=3) rfl F rfl (fun w=>rIx Tryz.underlying48 Tryz.sizeOf73 F rfl rfl ?_) H (fun _ _ _ h=>h) ?_
  focus (omega)
  clear F a;intro a F
  refine Xk (k:=4) (i:=4) rfl F rfl rfl (fun w H=>rLr Tryz.underlying73 rfl ?si F rfl (H.argR hx)) H (fun _ _ _ h=>h) ?_
  case si=>exact Jz Tryz.sizeOf73
  clear F a;intro a F;refine Xj 5 rfl F rfl (fun w=>Q0 F rfl rfl (bEqX (x:=x) (y:=y))) H qq0 ?_;clear F a;intro a F;refine Xp (k:=6) ?_;refine hK8 _ _ ?_;clear hK8
  refine cIf F rfl (fun h16=>?_) (fun h16=>?_)
  ·
   refine cSR fun K9 hK9=>Xf F rfl (Xd rfl (qNK hK9 ?_));clear hK9;clear F a;intro a F;refine wp_ret ?_;refine xI ?_;refine JI Tryz.results88 F rfl ?_
   (have he:x=y:=of_decide_eq_true h16
    exact ⟨_,rfl,⟨fun _=>he ▸ List.mem_of_getElem? hy,fun _=>by omega⟩,H.below⟩)
  refine wp_skip (hK6 _ _ (JY ?_));clear hK6
  refine Xg F rfl rfl (JJ (j:=1) ?_) ?_
  focus omega
  clear F a;intro a F;refine Xf F rfl ?_;clear F a;intro a F;refine J4 ?_
  (have hne:x ≠ y:=of_decide_eq_false h16
   refine ⟨_,by omega,_,⟨j+1,rfl,rfl,by omega,fun i z hi hz=>?_,H.sel [0] rfl rfl⟩,F.tt⟩
   rcases Nat.lt_or_ge i j with h | h
   · exact hno i z h hz
   · obtain rfl:i=j:=by omega
     rw [hy] at hz;cases hz;exact hne)
 replace h9:=of_decide_eq_false h9;refine wp_exit ?_;refine hK2 _ _ (cSR fun K10 hK10=>Xa F rfl (qNK hK10 ?_));clear hK2 hK10;clear F a;intro a F;refine wp_ret ?_;refine JI Tryz.results88 F rfl ?_
 (refine ⟨_,rfl,⟨fun h=>absurd h (by omega),fun h=>?_⟩,H.below⟩
  obtain ⟨i,hi⟩:=List.mem_iff_getElem?.1 h
  exact absurd rfl (hno i x (by have:=(List.getElem?_eq_some_iff.1 hi).1;omega) hi))
theorem Xa1 (A:Option Addr) (C:Nat) (l:List Pss) (x:Pss) (w0:World) (hR:RowsAt w0 A 3 (l.map Pss.cells)) (hl:l.length≤9223372036854775807) :
   Calls Tryz.prog 72 #[.slice A l.length C,.agg x.cells.toArray] w0 fun e w'=>e = .returned (.bool (decide (x ∈ l)))∧Below w0.heap.size w0 w':=by
 have H:=Own.start w0 none
 refine JF Tryz.func72 rfl Tryz.ntmps72 rfl (fun a F=>?_);refine cSR fun K1 hK1=>?_;refine sBx H F rfl rfl rfl ?_;clear F a H;intro b3 a w F H;refine Xa F rfl (qNK hK1 (qSR fun K2 hK2=>Xh rfl ?_));clear hK1;clear F a;intro a F
 refine Xw Tryz.underlying73 rfl ?si F rfl (H.whole 0 rfl) ?_
 case si=>exact Jz Tryz.sizeOf73
 clear F a;intro a F;refine Xu Tryz.call88 F rfl (XeN A C l x _ (hR.own H) hl) ?_;rintro e w ⟨n,rfl,hn,hb⟩;replace H:=H.grow hb;clear hb;refine ⟨_,rfl,?_⟩;clear F a;intro a F;refine Xg F rfl rfl Cb (Xd rfl (qNK hK2 ?_));clear hK2;clear F a;intro a F;refine wp_ret ?_;refine JI Tryz.results72 F rfl ?_
 exact ⟨by rw [show decide (x ∈ l)=decide ((0:Int)≤n) from decide_eq_decide.2 hn.symm],H.below⟩
end Go.Proofs.YtcpehikcegoojaaGreatDoor
