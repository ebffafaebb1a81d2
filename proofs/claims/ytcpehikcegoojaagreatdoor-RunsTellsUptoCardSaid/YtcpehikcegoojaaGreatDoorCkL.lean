/-
  Package check: isWord, locsRight. Conditions: the program lies in memory.

  Package check: demands, Right. Conditions: the program lies in memory; block 0 holds the table of needs.

  Plain Lean: what a valid program is. Conditions: none.
-/
import Derived.Test.YtcpehikcegoojaaGreatDoorCkK
import Derived.Test.YtcpehikcegoojaaGreatDoorLexK
set_option linter.unusedSimpArgs false
set_option linter.unusedVariables false
namespace Go.Proofs.YtcpehikcegoojaaGreatDoor
set_option maxRecDepth 100000
open Go.Proofs.Tryz
section
open Go.RowKit
def QC (s:ByteArray):Bool:=(QI s).isNone && (match MS s with | [t,_]=>t.kind == 1 && t.text.toList == s.toList | _=>false)
theorem XbS {s:ByteArray} {w w':World} {e:Ending} (h:Xbf s w e w'):∃ (sv:Value) (p:Nat) (f:Int),e = .returned (.tuple #[sv,.int .i64 (p:Int),.int .i64 f])∧Below w.heap.size w w' ∧
   ((f=0∧QI s=none∧w'.ownsRow w.heap.size 187 3 sv (MS s).length (cellsOf (MS s)))∨(f ≠ 0∧QI s ≠ none∧sv = .slice none 0 0)):=by
 obtain ⟨h1,⟨p,f,h2,h3⟩ | ⟨h2,sv,h3,h4,_⟩⟩:=h
 · refine ⟨_,p,f,h3,h1,.inr ⟨?_,by rw [h2];simp,rfl⟩⟩
   unfold QI at h2
   split at h2
   · cases h2;decide
   · obtain ⟨t,ht,he⟩:=Option.map_eq_some_iff.1 h2
     cases he
     have:∀ l t,Qt l=some t→JV t ≠ 0:=by
       intro l
       induction l with
       | nil=>intro t h;cases h
       | cons a r ih=>
         intro t h
         unfold Qt at h
         split at h
         · exact ih t h
         · cases h;assumption
     exact this _ _ ht
 · exact ⟨sv,0,0,h3,h1,.inl ⟨rfl,h2,h4⟩⟩
theorem BD {w:World} {base n:Nat} {e:TypeId} {sz:Nat} {sv:Value} {xs:List Value} (h:w.ownsRow base e sz sv n xs):∃ A C,sv = .slice A n C∧(∀ j v,xs[j]? = some v→∃ g,A=some ⟨g,0,none⟩∧w.cell? ⟨g,j,none⟩=some v):=by
 obtain ⟨hx,⟨rfl,rfl⟩ | ⟨g,cap,cur,rfl,_,h2,_,_,h5,h6⟩⟩:=h
 · exact ⟨none,0,rfl,fun j v hj=>by rw [Nat.zero_mul] at hx;rw [List.length_eq_zero_iff.1 hx] at hj;simp at hj⟩
 · refine ⟨_,cap,rfl,fun j v hj=>⟨g,rfl,?_⟩⟩
   rw [← h6,List.getElem?_take] at hj
   split at hj
   · simp [World.cell?,h2];simpa using hj
   · cases hj
theorem XeK (s:ByteArray) (w0:World) (hs:s.size≤maxLen):Calls Tryz.prog 108 #[.string s] w0 fun e w'=>e = .returned (.bool (QC s))∧Below w0.heap.size w0 w':=by
 have H:=Own.start w0 none
 refine JF func108 rfl ntmps108 rfl (fun a F=>?_);refine cSR fun K1 hK1=>Xa F rfl (qNK hK1 (qSR fun K2 hK2=>Xh rfl ?_));clear hK1;clear F a;intro a F;refine Xu call129 F rfl (Xjm s _ hs) ?_;rintro e w hp
 obtain ⟨sv,p,f,rfl,hb,hp⟩:=XbS hp
 replace H:=H.grow hb;clear hb
 obtain ⟨A,n,C,rfl,hh⟩:∃ A n C,sv = .slice A n C∧((f=0∧QI s=none∧n=(MS s).length∧(∀ j v,(cellsOf (MS s))[j]? = some v→∃ g,A=some ⟨g,0,none⟩∧w.cell? ⟨g,j,none⟩=some v))∨(f ≠ 0∧QI s ≠ none)):=by
   rcases hp with ⟨h1,h2,h3⟩ | ⟨h1,h2,h3⟩
   · obtain ⟨A,C,h4,h5⟩:=BD h3
     exact ⟨A,_,C,h4,.inl ⟨h1,h2,rfl,h5⟩⟩
   · exact ⟨_,_,_,h3,.inr ⟨h1,h2⟩⟩
 refine ⟨_,rfl,?_⟩;clear F a;intro a F;refine Xf F rfl (NU rfl rfl rfl rfl (NU rfl rfl rfl rfl (NU rfl rfl rfl rfl (Xd rfl (Xd rfl (Xd rfl (qNK hK2 (qSR fun K3 hK3=>Xh rfl (Xe rfl rfl Mp (Xh rfl ?_))))))))));clear hK2;clear F a;intro a F
 refine F.split 14 rfl ?_ ?_ <;> (clear F;intro h14 F)
 ·
  replace h14:=J1 h14
  have hk:QI s=none∧n=(MS s).length∧(∀ j v,(cellsOf (MS s))[j]? = some v→∃ g,A=some ⟨g,0,none⟩∧w.cell? ⟨g,j,none⟩=some v):=by
    rcases hh with ⟨_,h2⟩ | ⟨h2,_⟩
    · exact h2
    · exact absurd h14 h2
  obtain ⟨hb0,hn,hcs⟩:=hk
  refine Xf F rfl (Xx underlying182 rfl (Xe rfl rfl Mp (Xy rfl rfl (Xh rfl ?_))));clear F a;intro a F
  refine F.split 19 rfl ?_ ?_ <;> (clear F;intro h19 F)
  ·
   replace h19:=J1 h19
   have h2:(MS s).length=2:=by omega
   obtain ⟨t,u,htk⟩:∃ t u,MS s=[t,u]:=by match MS s,h2 with | [t,u],_=>exact ⟨t,u,rfl⟩
   rw [htk] at hcs
   obtain ⟨q,rfl,c0⟩:=hcs 0 _ rfl
   obtain ⟨q',hq',c1⟩:=hcs 1 _ rfl
   cases hq'
   refine Xf F rfl ?_;clear F a;intro a F
   refine sIx (j:=0) underlying182 sizeOf187 F rfl rfl rfl rfl ?_ ?_
   focus (omega)
   clear F a;intro a F;refine Xb (f:=0) underlying187 rfl sizeOf185 rfl rfl F rfl (Xc isAgg185 rfl c0 (Xe rfl rfl Mp (Xy rfl rfl (Xh rfl ?_))));clear F a;intro a F
   refine F.split 26 rfl ?_ ?_ <;> (clear F;intro h26 F)
   ·
    replace h26:=J1 h26
    have hk1:(t.kind == 1)=true:=by simp;omega
    refine Xf F rfl ?_;clear F a;intro a F
    refine sIx (j:=0) underlying182 sizeOf187 F rfl rfl rfl rfl ?_ ?_
    focus (omega)
    clear F a;intro a F;refine Xb (f:=1) underlying187 rfl YL rfl rfl F rfl (Xc YY rfl c1 (Xh rfl (Xe rfl rfl Xg1 (Xy rfl rfl (Xd rfl (qNK hK3 ?_))))));clear hK3;clear F a;intro a F;refine wp_ret ?_;refine JI results108 F rfl ?_
    exact ⟨JZ (by rw [QC,hb0,htk];simp only [hk1];rfl),H.below⟩
   replace h26:=J2 h26
   have hk1:(t.kind == 1)=false:=by simp;omega
   refine XB F (XC (XC (XC (XC (XC (Xy rfl rfl (Xd rfl (qNK hK3 ?_))))))));clear hK3;clear F a;intro a F;refine wp_ret ?_;refine JI results108 F rfl ?_
   exact ⟨JZ (by rw [QC,hb0,htk];simp only [hk1];rfl),H.below⟩
  replace h19:=J2 h19
  have h2:(MS s).length ≠ 2:=by omega
  refine XB F (XC (XC (XC (XC (Xy rfl rfl (Xh rfl (XC (XC (XC (XC (XC (XC (Xy rfl rfl (Xd rfl (qNK hK3 ?_)))))))))))))));clear hK3;clear F a;intro a F;refine wp_ret ?_;refine JI results108 F rfl ?_
  exact ⟨JZ (by rw [QC,hb0];symm;rw [Bool.and_eq_false_iff];right;split <;> simp_all),H.below⟩
 replace h14:=J2 h14
 have hb0:(QI s).isNone=false:=by
   rcases hh with ⟨h2,_⟩ | ⟨_,h2⟩
   · exact absurd h2 h14
   · cases hq:QI s with
     | none=>exact absurd hq h2
     | some _=>rfl
 refine XB F (XC (XC (Xy rfl rfl (Xh rfl (XC (XC (XC (XC (XC (Xy rfl rfl (Xh rfl (XC (XC (XC (XC (XC (XC (Xy rfl rfl (Xd rfl (qNK hK3 ?_))))))))))))))))))));clear hK3;clear F a;intro a F;refine wp_ret ?_;refine JI results108 F rfl ?_
 exact ⟨JZ (by rw [QC,hb0,Bool.false_and]),H.below⟩
def M2 (l:List ByteArray):Nat→List ByteArray→Bool
 | _,[]=>true
 | j,x :: r=>(Ny x && !(DW x (l.take j) 0).isSome) && M2 l (j+1) r
theorem LO {l m:List ByteArray} {j:Nat} {x:ByteArray} (hx:l[j]? = some x):M2 m j (l.drop j)=((Ny x && !(DW x (m.take j) 0).isSome) && M2 m (j+1) (l.drop (j+1))):=by
 obtain ⟨hj,rfl⟩:=List.getElem?_eq_some_iff.1 hx
 rw [List.drop_eq_getElem_cons hj]
 rfl
def QR (p:Prg):Bool:=(decide (1≤p.locs.length) && decide (p.locs.length≤6) && p.init.length == p.locs.length) && M2 p.locs 0 p.locs
theorem StrsAt.take {w:World} {A:Option Addr} {l:List ByteArray} (h:StrsAt w A l) (j:Nat):StrsAt w A (l.take j):=by
 intro k cs hk
 refine h k cs ?_;rw [List.getElem?_map] at hk ⊢;rw [List.getElem?_take] at hk
 split at hk
 · exact hk
 · cases hk
set_option maxHeartbeats 1000000 in
set_option maxRecDepth 10000 in
theorem XaO (B:Nat) (cs:List Value) (p:Prg) (w0:World) (hB:w0.rangeAt B 0 cs) (hP:ProgAt w0 cs p) :
   Calls Tryz.prog 110 #[.pointer (some ⟨B,0,none⟩)] w0 fun e w'=>e = .returned (.bool (QR p))∧Below w0.heap.size w0 w':=by
 obtain ⟨LA,LC,IA,IC,TA,TC,h,ccs,hp⟩:=hP
 have hcs:=hp.cs
 subst hcs
 have hn:=hp.locsN
 have hi:=hp.initN
 have hlc:=hp.locsC
 have H:=Own.start w0 none
 refine JF func110 rfl ntmps110 rfl (fun a F=>?_);refine cSR fun K1 hK1=>Xa F rfl (qNK hK1 ?_);clear hK1;clear F a;intro a F
 refine Mx [0] (fun ups w=>(decide (1≤p.locs.length) && decide (p.locs.length≤6) && p.init.length == p.locs.length)=true∧ups=[]∧Own w0 none w []) F ?_ ?_
 ·
  refine JD (fun K2 hK2=>?_);refine B6 (by kernel_rfl) H ?_;replace H:=H.drew;refine XD F rfl (fun w H=>rMv F rfl) H qq0 (XE rfl (fun a F w H=>rNc F rfl) H qq0 (XE rfl (fun a F w H=>rFa (f:=1) (k:=1) XM rfl Yw rfl rfl F rfl) H qq0 (XE rfl (fun a F w H=>rLd Yy F rfl (H.arg (hB 1 _ rfl))) H qq0 (XE rfl (fun a F w H=>Bw Yk F rfl) H qq0 (XE rfl (fun a F w H=>Q0 F rfl rfl QF) H qq0 (XE rfl (fun a F w H=>rMv F rfl) H qq0 ?_))))));clear F a;intro a F
  refine F.split 11 rfl ?_ ?_ <;> (clear F;intro h11 F)
  ·
   replace h11:=of_decide_eq_true h11;refine XeT (by kernel_rfl) (by kernel_rfl) F rfl rfl rfl H qq0 (XF rfl H qq0 (XF rfl H qq0 (XF rfl H qq0 (XF rfl H qq0 (XF rfl H qq0 (XE rfl (fun a F w H=>rPk F rfl rfl) H qq0 (XE rfl (fun a F w H=>rMv F rfl) H qq0 (XF rfl H qq0 (XF rfl H qq0 (XF rfl H qq0 (XF rfl H qq0 (XF rfl H qq0 (XF rfl H qq0 (XF rfl H qq0 (XF rfl H qq0 (XF rfl H qq0 (XF rfl H qq0 (XF rfl H qq0 (XE rfl (fun a F w H=>rPk F rfl rfl) H qq0 ?_)))))))))))))))))));clear F a;intro a F
   refine Xe5 (k:=27) ?_ rfl
   refine hK2 _ _ ?_;clear hK2;refine MQ F rfl ?_;refine cSR fun K3 hK3=>Xa F rfl (qNK hK3 ?_);clear hK3;clear F a;intro a F;refine wp_ret ?_;simp only [Exit.then];refine JI Y7 F rfl ?_
   exact ⟨JZ (by clear F hB;rw [QR];symm;rw [Bool.and_eq_false_iff];left;simp_all <;> omega),H.below⟩
  replace h11:=of_decide_eq_false h11;refine XD F rfl (fun w H=>rMv F rfl) H qq0 (XE rfl (fun a F w H=>rNc F rfl) H qq0 (XE rfl (fun a F w H=>rFa (f:=1) (k:=1) XM rfl Yw rfl rfl F rfl) H qq0 (XE rfl (fun a F w H=>rLd Yy F rfl (H.arg (hB 1 _ rfl))) H qq0 (XE rfl (fun a F w H=>Bw Yk F rfl) H qq0 (XE rfl (fun a F w H=>Q0 F rfl rfl L3) H qq0 (XE rfl (fun a F w H=>rPk F rfl rfl) H qq0 (XE rfl (fun a F w H=>rMv F rfl) H qq0 ?_)))))));clear F a;intro a F
  refine F.split 19 rfl ?_ ?_ <;> (clear F;intro h19 F)
  ·
   replace h19:=of_decide_eq_true h19;refine XeT (by kernel_rfl) (by kernel_rfl) F rfl rfl rfl H qq0 (XF rfl H qq0 (XF rfl H qq0 (XF rfl H qq0 (XF rfl H qq0 (XF rfl H qq0 (XF rfl H qq0 (XF rfl H qq0 (XF rfl H qq0 (XF rfl H qq0 (XF rfl H qq0 (XE rfl (fun a F w H=>rPk F rfl rfl) H qq0 ?_)))))))))));clear F a;intro a F
   refine Xe5 (k:=27) ?_ rfl
   refine hK2 _ _ ?_;clear hK2;refine MQ F rfl ?_;refine cSR fun K4 hK4=>Xa F rfl (qNK hK4 ?_);clear hK4;clear F a;intro a F;refine wp_ret ?_;simp only [Exit.then];refine JI Y7 F rfl ?_
   exact ⟨JZ (by clear F hB;rw [QR];symm;rw [Bool.and_eq_false_iff];left;simp_all <;> omega),H.below⟩
  replace h19:=of_decide_eq_false h19;refine XD F rfl (fun w H=>rMv F rfl) H qq0 (XE rfl (fun a F w H=>rNc F rfl) H qq0 (XE rfl (fun a F w H=>rFa (f:=2) (k:=2) XM rfl sizeOf23 rfl rfl F rfl) H qq0 (XE rfl (fun a F w H=>rLd isAgg23 F rfl (H.arg (hB 2 _ rfl))) H qq0 (XE rfl (fun a F w H=>Bw Yt F rfl) H qq0 (XE rfl (fun a F w H=>rMv F rfl) H qq0 (XE rfl (fun a F w H=>rNc F rfl) H qq0 (XE rfl (fun a F w H=>rFa (f:=1) (k:=1) XM rfl Yw rfl rfl F rfl) H qq0 (XE rfl (fun a F w H=>rLd Yy F rfl (H.arg (hB 1 _ rfl))) H qq0 (XE rfl (fun a F w H=>Bw Yk F rfl) H qq0 (XE rfl (fun a F w H=>Q0 F rfl rfl DR) H qq0 (XE rfl (fun a F w H=>rPk F rfl rfl) H qq0 ?_)))))))))));clear F a;intro a F
  refine Xe5 (k:=27) ?_ rfl
  refine hK2 _ _ ?_;clear hK2
  refine cIf F rfl (fun h31=>?_) (fun h31=>?_)
  ·
   replace h31:=Ep h31;refine cSR fun K5 hK5=>Xa F rfl (qNK hK5 ?_);clear hK5;clear F a;intro a F;refine wp_ret ?_;simp only [Exit.then];refine JI Y7 F rfl ?_
   exact ⟨JZ (by clear F hB;rw [QR];symm;rw [Bool.and_eq_false_iff];left;simp_all <;> omega),H.below⟩
  replace h31:=Er h31;refine wp_skip ?_
  refine ⟨[],⟨?_,rfl,H⟩,F.tt⟩
  clear F hB
  simp_all <;> omega
 clear F H
 intro ups a w hI F
 obtain ⟨hsz,rfl,H⟩:=hI
 refine JD (fun K6 hK6=>?_);refine cSR fun K7 hK7=>Xf F rfl (qNc rfl rfl rfl (Xr (f:=1) (k:=1) XM rfl Yw rfl rfl rfl (Xc Yy rfl (H.arg (hB 1 _ rfl)) (Xx Yk rfl (Xh rfl (qNK hK7 ?_))))));clear hK7;clear F a;intro a F;refine wp_block ?_
 refine JN [0,35,36] (fun m ups w=>∃ j:Nat,m=p.locs.length - j∧ups=[(37,.int .i64 (j:Int))]∧j≤p.locs.length∧M2 p.locs 0 p.locs=M2 p.locs j (p.locs.drop j)∧Own w0 none w []) F (p.locs.length) [(37,.int .i64 ((0:Nat):Int))] ?_ ?_
 · exact ⟨0,rfl,rfl,Nat.zero_le _,rfl,H⟩
 clear F
 clear H
 intro m ups a w hI F
 obtain ⟨j,rfl,rfl,hj,ht,H⟩:=hI
 refine cSR fun K8 hK8=>Xg F rfl rfl QF (qNK hK8 ?_);clear hK8;clear F a;intro a F;refine JD (fun K9 hK9=>?_)
 refine cIf F rfl (fun h38=>?_) (fun h38=>?_)
 ·
  replace h38:=of_decide_eq_true h38
  have hjl:j < p.locs.length:=by omega
  obtain ⟨x,hx⟩:∃ x,p.locs[j]? = some x:=⟨_,List.getElem?_eq_getElem hjl⟩
  obtain ⟨b,off,rfl,hc⟩:=hp.locs.get hx
  have hjt:(p.locs.take j).length=j:=by rw [List.length_take];omega
  refine wp_skip (hK9 _ _ ?_);clear hK9;refine JD (fun K10 hK10=>?_);refine wp_block ?_;refine cSR fun K11 hK11=>Xf F rfl ?_;clear F a;intro a F
  refine sIx Yk YL F rfl rfl rfl rfl ?_ ?_
  focus (omega)
  clear F a;intro a F;refine sLd YY F rfl rfl rfl (H.arg hc) (Xd rfl (Xd rfl (qNK hK11 (qSR fun K12 hK12=>Xh rfl ?_))));clear hK11;clear F a;intro a F;refine Xu call130 F rfl (XhG x _ (hp.locsS x (List.mem_of_getElem? hx)) _ rfl) ?_;rintro e w ⟨rfl,rfl⟩;refine ⟨_,rfl,?_⟩;clear F a;intro a F;refine Xav F rfl rfl rfl (Xh rfl ?_);clear F a;intro a F
  refine F.split 45 rfl ?_ ?_ <;> (clear F;intro h45 F)
  ·
   replace h45:=N1 h45;refine XB F (XC (XC (XC (XC (XC (XC (XC (Xy rfl rfl (qNK hK12 ?_)))))))));clear hK12;clear F a;intro a F;refine MQ F rfl ?_;refine cSR fun K13 hK13=>Xa F rfl (qNK hK13 ?_);clear hK13;clear F a;intro a F;refine wp_ret ?_;refine xI ?_;refine JI Y7 F rfl ?_
   exact ⟨JZ (by rw [QR,hsz,Bool.true_and,ht,LO hx];clear F hB;simp_all),H.below⟩
  replace h45:=N2 h45;refine Xf F rfl (qNc rfl rfl rfl (Xr (f:=1) (k:=1) XM rfl Yw rfl rfl rfl (Xc Yy rfl (H.arg (hB 1 _ rfl)) (Xh rfl ?_))));clear F a;intro a F
  refine sSlH Yk (fun w=>⟨_,YL w⟩) F rfl rfl rfl rfl ?_ ?_
  focus (omega)
  clear F a;intro a F;refine Xf F rfl ?_;clear F a;intro a F;refine Xu call131 F rfl ((by have:=Xch (some ⟨b,off,none⟩) LC (p.locs.take j) x w (RowsAt.own (hp.locs.take j) H) (by omega);rw [hjt] at this;exact this)) (gG H ?_);clear F a H;intro a w F H;refine sPk F rfl rfl rfl rfl (qNK hK12 ?_);clear hK12;clear F a;intro a F
  refine cIf F rfl (fun h54=>?_) (fun h54=>?_)
  ·
   refine cSR fun K14 hK14=>Xa F rfl (qNK hK14 ?_);clear hK14;clear F a;intro a F;refine wp_ret ?_;refine xI ?_;refine JI Y7 F rfl ?_
   exact ⟨JZ (by rw [QR,hsz,Bool.true_and,ht,LO hx];clear F hB;simp_all),H.below⟩
  refine wp_skip (hK10 _ _ (JY ?_));clear hK10
  refine Xg F rfl rfl (JJ (j:=1) ?_) ?_
  focus omega
  clear F a;intro a F;refine Xf F rfl ?_;clear F a;intro a F;refine J4 ?_
  exact ⟨p.locs.length - (j+1),by omega,_,⟨j+1,rfl,rfl,by omega,by rw [ht,LO hx];simp_all,H⟩,F.tt⟩
 replace h38:=of_decide_eq_false h38;refine wp_exit ?_;refine hK6 _ _ (cSR fun K15 hK15=>Xa F rfl (qNK hK15 ?_));clear hK6 hK15;clear F a;intro a F;refine wp_ret ?_;refine JI Y7 F rfl ?_
 exact ⟨JZ (by rw [QR,hsz,Bool.true_and,ht,List.drop_eq_nil_of_le (by omega)];rfl),H.below⟩
end
section
open Go.RowKit
theorem Xdt (V B:Nat) (cs:List Value) (p:Prg) (w0:World) (hP:PvAt w0 V B cs p) :
   Calls Tryz.prog 107 #[.pointer (some ⟨V,0,none⟩)] w0 fun e w'=>e = .returned (.bool (QC p.name))∧Below w0.heap.size w0 w':=by
 obtain ⟨hV,hB,LA,LC,IA,IC,TA,TC,h,ccs,hp⟩:=hP
 have hcs:=hp.cs
 subst hcs
 have H:=Own.start w0 none
 refine JF func107 rfl ntmps107 rfl (fun a F=>?_);refine cSR fun K1 hK1=>Xa F rfl (qNK hK1 (qSR fun K2 hK2=>Xc YM rfl (H.arg (hV 0 _ rfl)) (qNc rfl rfl rfl (Xr (f:=0) (k:=0) XM rfl YL rfl rfl rfl (Xc YY rfl (H.arg (hB 0 _ rfl)) ?_)))));clear hK1;clear F a;intro a F;refine Xu call108 F rfl (XeK p.name _ hp.name) (gG H ?_);clear F a H;intro a w F H;refine Xa F rfl (qNK hK2 ?_);clear hK2;clear F a;intro a F;refine wp_ret ?_;refine JI results107 F rfl ?_
 exact ⟨rfl,H.below⟩
theorem Xds (V B:Nat) (cs:List Value) (p:Prg) (w0:World) (hP:PvAt w0 V B cs p) :
   Calls Tryz.prog 109 #[.pointer (some ⟨V,0,none⟩)] w0 fun e w'=>e = .returned (.bool (QR p))∧Below w0.heap.size w0 w':=by
 obtain ⟨hV,hB,hp⟩:=hP
 have H:=Own.start w0 none
 refine JF func109 rfl ntmps109 rfl (fun a F=>?_);refine cSR fun K1 hK1=>Xa F rfl (qNK hK1 (qSR fun K2 hK2=>Xc YM rfl (H.arg (hV 0 _ rfl)) ?_));clear hK1;clear F a;intro a F;refine Xu call110 F rfl (XaO B cs p _ (H.argR hB) (hp.own H)) (gG H ?_);clear F a H;intro a w F H;refine Xa F rfl (qNK hK2 ?_);clear hK2;clear F a;intro a F;refine wp_ret ?_;refine JI results109 F rfl ?_
 exact ⟨rfl,H.below⟩
def NB (V E:Nat):List (Int × Value):=[(70,.func (.func 107) #[] #[.pointer (some ⟨V,0,none⟩)]),(71,.func (.func 109) #[] #[.pointer (some ⟨V,0,none⟩)]),
 (72,.func (.func 111) #[] #[.pointer (some ⟨V,0,none⟩),.pointer (some ⟨E,0,none⟩)]),(73,.func (.func 113) #[] #[.pointer (some ⟨E,0,none⟩),.pointer (some ⟨V,0,none⟩)]),
 (75,.func (.func 116) #[] #[.pointer (some ⟨V,0,none⟩)]),(74,.func (.func 117) #[] #[.pointer (some ⟨V,0,none⟩)])]
def Ek (V E:Nat):List Value:=(NB V E).flatMap fun q=>[.int .i64 q.1,q.2]
theorem Xdn (B:Nat) (w0:World) :
   Calls Tryz.prog 82 #[.pointer (some ⟨B,0,none⟩)] w0 fun e w'=>∃ V E D,e = .returned (.slice (some ⟨D,0,none⟩) 6 6) ∧
     Own w0 none w' [.blk D (Ek V E) 153,.blk E [.func (.func 106) #[] #[.pointer (some ⟨V,0,none⟩)]] 172,.blk V [.pointer (some ⟨B,0,none⟩)] 151]:=by
 have H:=Own.start w0 none
 refine JF func82 rfl ntmps82 rfl (fun a F=>?_);refine cSR fun K1 hK1=>?_;refine sBx H F rfl rfl rfl ?_;clear F a H;intro b1 a w F H;refine Xa F rfl (qNK hK1 (qSR fun K2 hK2=>qFn rfl rfl rfl rfl ?_));clear hK1;clear F a;intro a F;refine sAl H zeroValue172 F rfl rfl ?_;clear F a H;intro b3 a w F H;refine sSt H 0 sizeOf172 F rfl rfl rfl rfl rfl rfl ?_;clear H;intro w H;refine nK hK2 (cSR fun K3 hK3=>sFn F rfl rfl rfl rfl (qBd (places:=[(0,1),(1,1)]) YN YH (by kernel_rfl) rfl rfl rfl rfl (qFn rfl rfl rfl rfl (qBd (places:=[(0,1),(1,1)]) YN YH (by kernel_rfl) rfl rfl rfl rfl (qFn rfl rfl rfl rfl (qBd (places:=[(0,1),(1,1)]) YN YH (by kernel_rfl) rfl rfl rfl rfl (qFn rfl rfl rfl rfl (qBd (places:=[(0,1),(1,1)]) YN YH (by kernel_rfl) rfl rfl rfl rfl (qFn rfl rfl rfl rfl (qBd (places:=[(0,1),(1,1)]) YN YH (by kernel_rfl) rfl rfl rfl rfl (qFn rfl rfl rfl rfl (qBd (places:=[(0,1),(1,1)]) YN YH (by kernel_rfl) rfl rfl rfl rfl ?_))))))))))));clear hK2;clear F a;intro a F;refine sBs H underlying149 sizeOf153 YN rfl F rfl rfl rfl rfl rfl ?_;clear F a H;intro b17 a w F H;refine Xa F rfl (qNK hK3 ?_);clear hK3;clear F a;intro a F;refine wp_ret ?_;refine JI results82 F rfl ?_
 exact ⟨_,_,_,rfl,H⟩
def Q6 (p:Prg):Nat→Bool
 | 0=>QC p.name
 | 1=>QR p
 | 2=>JS p
 | 3=>Q8 p
 | 4=>LX p
 | 5=>Qs p.threads.length p.locs.length 20 p.cond
 | _=>true
def Mw:Nat→Int
 | 0=>70 | 1=>71 | 2=>72 | 3=>73 | 4=>75 | 5=>74 | _=>0
def QH (p:Prg):Nat→Nat→Int
 | 0,_=>0
 | n+1,k=>if Q6 p k then QH p n (k+1) else Mw k
def JH (p:Prg):Int:=QH p 6 0
theorem Xgq (k V E B:Nat) (q:Int × Value) (cs:List Value) (p:Prg) (w0:World) (hP:PvAt w0 V B cs p) (hE:w0.rangeAt E 0 [.func (.func 106) #[] #[.pointer (some ⟨V,0,none⟩)]]) (hN:NeedsAt w0) (hk:(NB V E)[k]? = some q) :
   q.1=Mw k∧L4 Tryz.prog q.2 [] w0 (fun e w'=>e = .returned (.bool (Q6 p k))∧Below w0.heap.size w0 w'):=by
 match k,hk with
 | 0,hk=>cases hk;exact ⟨rfl,_,[],[.pointer (some ⟨V,0,none⟩)],rfl,call107,Xdt V B cs p w0 hP⟩
 | 1,hk=>cases hk;exact ⟨rfl,_,[],[.pointer (some ⟨V,0,none⟩)],rfl,call109,Xds V B cs p w0 hP⟩
 | 2,hk=>cases hk;exact ⟨rfl,_,[],[.pointer (some ⟨V,0,none⟩),.pointer (some ⟨E,0,none⟩)],rfl,call111,Xdr E V B cs p w0 hP hE⟩
 | 3,hk=>cases hk;exact ⟨rfl,_,[],[.pointer (some ⟨E,0,none⟩),.pointer (some ⟨V,0,none⟩)],rfl,call113,Xdq E V B cs p w0 hP hN hE⟩
 | 4,hk=>cases hk;exact ⟨rfl,_,[],[.pointer (some ⟨V,0,none⟩)],rfl,call116,Xdp V B cs p w0 hP⟩
 | 5,hk=>cases hk;exact ⟨rfl,_,[],[.pointer (some ⟨V,0,none⟩)],rfl,call117,Xdo V B cs p w0 hP⟩
 | n+6,hk=>simp [NB] at hk
theorem Xcg (V E k:Nat) (q:Int × Value) (hk:(NB V E)[k]? = some q):((Ek V E).drop (k * 2)).take 2=[.int .i64 q.1,q.2]:=by
 match k,hk with
 | 0,hk=>cases hk;rfl
 | 1,hk=>cases hk;rfl
 | 2,hk=>cases hk;rfl
 | 3,hk=>cases hk;rfl
 | 4,hk=>cases hk;rfl
 | 5,hk=>cases hk;rfl
 | n+6,hk=>simp [NB] at hk
theorem XeR (V E k:Nat) (q:Int × Value) (hk:(NB V E)[k]? = some q):q.2.oneCell'=true:=by
 match k,hk with
 | 0,hk=>cases hk;rfl
 | 1,hk=>cases hk;rfl
 | 2,hk=>cases hk;rfl
 | 3,hk=>cases hk;rfl
 | 4,hk=>cases hk;rfl
 | 5,hk=>cases hk;rfl
 | n+6,hk=>simp [NB] at hk
theorem DF {p:Prg} {k:Nat} (hk:k < 6):QH p (6 - k) k=if Q6 p k then QH p (6 - (k+1)) (k+1) else Mw k:=by
 have:6 - k=(6 - (k+1))+1:=by omega
 rw [this];rfl
set_option maxHeartbeats 1000000 in
theorem CM (cs:List Value) (p:Prg) (w0:World) (hP:ProgAt w0 cs p) (hN:NeedsAt w0) :
   Calls Tryz.prog 69 #[.agg cs.toArray] w0 fun e w'=>e = .returned (.int .i64 (JH p))∧Below w0.heap.size w0 w':=by
 have H:=Own.start w0 none
 refine JF func69 rfl ntmps69 rfl (fun a F=>?_);refine cSR fun K1 hK1=>?_;refine sBx H F rfl rfl rfl ?_;clear F a H;intro b1 a w F H;refine Xa F rfl (qNK hK1 ?_);clear hK1;clear F a;intro a F;refine JD (fun K2 hK2=>?_);refine cSR fun K3 hK3=>?_;refine Xu call82 F rfl (Xdn _ _) ?_;rintro e w ⟨V,E,D,rfl,H2⟩;replace H:=H.join H2;clear H2;refine ⟨_,rfl,?_⟩;clear F a;intro a F;refine Ec underlying149 F rfl rfl rfl (Xh rfl (qNK hK3 ?_));clear hK3;clear F a;intro a F;refine wp_block ?_
 refine JN [5,6] (fun m ups w=>∃ k:Nat,m=6 - k∧ups=[(7,.int .i64 (k:Int))]∧k≤6∧JH p=QH p (6 - k) k∧Own w0 none w [.blk D (Ek V E) 153,.blk E [.func (.func 106) #[] #[.pointer (some ⟨V,0,none⟩)]] 172,.blk V [.pointer (some ⟨b1,0,none⟩)] 151,.blk b1 cs 29]) F (6) [(7,.int .i64 ((0:Nat):Int))] ?_ ?_
 · exact ⟨0,rfl,rfl,by omega,rfl,H⟩
 clear F
 clear H
 intro m ups a w hI F
 obtain ⟨k,rfl,rfl,hk,ht,H⟩:=hI
 refine cSR fun K4 hK4=>Xg F rfl rfl QF (qNK hK4 ?_);clear hK4;clear F a;intro a F;refine JD (fun K5 hK5=>?_)
 refine cIf F rfl (fun h8=>?_) (fun h8=>?_)
 ·
  replace h8:=of_decide_eq_true h8
  have hk6:k < 6:=by omega
  obtain ⟨q,hq⟩:∃ q,(NB V E)[k]? = some q:=⟨_,List.getElem?_eq_getElem (by simp only [NB,List.length_cons,List.length_nil];omega)⟩
  have hqc:=XeR V E k q hq
  refine wp_skip (hK5 _ _ ?_);clear hK5;refine JD (fun K6 hK6=>?_);refine wp_block ?_;refine cSR fun K7 hK7=>?_
  refine sIx underlying149 sizeOf153 F rfl rfl rfl rfl ?_ ?_
  focus (omega)
  clear F a;intro a F
  refine Xw YH rfl ?si F rfl (by have:=H.range 0 rfl (0+k * 2) 2;rw [Nat.zero_add] at this ⊢;rw [Xcg V E k q hq] at this;exact this) ?_
  case si=>exact Jz sizeOf153
  clear F a;intro a F;refine sAl H YN F rfl rfl ?_;clear F a H;intro b4 a w F H
  refine sSr H 0 ?si F rfl rfl rfl ?s1 rfl rfl ?_
  case si=>exact Jz sizeOf153
  case s1=>(repeat (first | exact XfQ | (apply XdQ;· first | rfl | assumption | exact XfR rfl rfl)))
  clear H;intro w H;refine nK hK7 (cSR fun K8 hK8=>Xb (f:=1) (k:=1) YH rfl sizeOf35 rfl rfl F rfl (Xc isAgg35 rfl (H.cell 0 rfl rfl) ?_));clear hK7;clear F a;intro a F
  obtain ⟨hq1,hq2⟩:=Xgq k V E b1 q cs p w ⟨H.whole 3 rfl,H.whole 4 rfl,hP.own H⟩ (H.whole 2 rfl) (hN.own H) hq
  refine XdO F rfl rfl rfl rfl hq2 ?_;rintro e w ⟨rfl,hb⟩
  replace H:=H.grow hb;clear hb hq2
  refine ⟨_,rfl,?_⟩;clear F a;intro a F;refine Xav F rfl rfl rfl (qNK hK8 ?_);clear hK8;clear F a;intro a F
  refine cIf F rfl (fun h14=>?_) (fun h14=>?_)
  ·
   replace h14:=N1 h14;refine cSR fun K9 hK9=>Xb (f:=0) (k:=0) YH rfl sizeOf40 rfl rfl F rfl (Xc isAgg40 rfl (H.cell 0 rfl rfl) (Xd rfl (qNK hK9 ?_)));clear hK9;clear F a;intro a F;refine wp_ret ?_;refine xI ?_;refine JI results69 F rfl ?_
   exact ⟨by rw [ht,DF hk6,if_neg (by simp [h14]),← hq1],H.below⟩
  replace h14:=N2 h14;refine wp_skip (hK6 _ _ (JY ?_));clear hK6
  refine Xg F rfl rfl (JJ (j:=1) ?_) ?_
  focus omega
  clear F a;intro a F;refine Xf F rfl ?_;clear F a;intro a F;refine J4 ?_
  exact ⟨6 - (k+1),by omega,_,⟨k+1,rfl,rfl,by omega,by rw [ht,DF hk6,if_pos h14],H.tail⟩,F.tt⟩
 replace h8:=of_decide_eq_false h8;refine wp_exit ?_;refine hK2 _ _ (cSR fun K10 hK10=>Xa F rfl (qNK hK10 ?_));clear hK2 hK10;clear F a;intro a F;refine wp_ret ?_;refine JI results69 F rfl ?_
 exact ⟨by rw [ht,(by omega:6 - k=0)];rfl,H.below⟩
end
theorem XeS:∀ k,k < 6→Mw k ≠ 0
 | 0,_=>by decide
 | 1,_=>by decide
 | 2,_=>by decide
 | 3,_=>by decide
 | 4,_=>by decide
 | 5,_=>by decide
 | k+6,h=>by omega
theorem LZ {p:Prg}:∀ (n k:Nat),n+k≤6→QH p n k=0→∀ i,k≤i→i < k+n→Q6 p i=true
 | 0,_,_,_,i,h1,h2=>by omega
 | n+1,k,hn,h,i,h1,h2=>by
   unfold QH at h
   split at h
   · rename_i hd
     rcases Nat.lt_or_ge k i with h3 | h3
     · exact LZ n (k+1) (by omega) h i (by omega) (by omega)
     · obtain rfl:k=i:=by omega
       exact hd
   · exact absurd h (XeS k (by omega))
theorem Ng {p:Prg} (h:JH p=0) (i:Nat) (hi:i < 6):Q6 p i=true:=LZ 6 0 (by omega) h i (by omega) (by omega)
structure Valid (p:Prg):Prop where
 locs1:1≤p.locs.length
 locs6:p.locs.length≤6
 init:p.init.length=p.locs.length
 thr1:1≤p.threads.length
 thr4:p.threads.length≤4
 long:∀ (t:Nat) (l:List Ins),p.threads[t]? = some l→l.length≤12
 ins:∀ (t:Nat) (l:List Ins),p.threads[t]? = some l→Nl p.locs.length l.length 0 l=true
 ask:p.ask=1∨p.ask=2∨p.ask=3
theorem valid {p:Prg} (h:JH p=0):Valid p:=by
 have h1:QR p=true:=Ng h 1 (by omega)
 have h2:JS p=true:=Ng h 2 (by omega)
 have h3:Q8 p=true:=Ng h 3 (by omega)
 have h4:LX p=true:=Ng h 4 (by omega)
 simp only [QR,JS,Q8,LX,Bool.and_eq_true,decide_eq_true_eq,beq_iff_eq,Bool.or_eq_true,List.all_eq_true] at h1 h2 h3 h4
 refine ⟨h1.1.1.1,h1.1.1.2,h1.1.2,h2.1.1,h2.1.2,fun t l hl=>h2.2 l (List.mem_of_getElem? hl),fun t l hl=>?_,by rcases h4 with (h | h) | h <;> simp [h]⟩
 have:=h3 l (List.mem_of_getElem? hl)
 simp only [Nj,Bool.and_eq_true] at this
 exact this.2
theorem M6 {locs:Int} {n:Nat}:∀ {l:List Ins} {i k:Nat} {x:Ins},Nl locs n i l=true→l[k]? = some x→Ma x locs ((n:Int) - 1 - ((i+k:Nat):Int))=true
 | [],_,_,_,_,hk=>by simp at hk
 | y :: r,i,0,x,h,hk=>by
   simp only [Nl,Bool.and_eq_true] at h
   simp only [List.getElem?_cons_zero,Option.some.injEq] at hk
   subst hk
   exact h.1
 | y :: r,i,k+1,x,h,hk=>by
   simp only [Nl,Bool.and_eq_true] at h
   have:=M6 (k:=k) h.2 (by simpa using hk)
   rwa [show i+1+k=i+(k+1) by omega] at this
theorem NO {x:Ins} {locs after:Int} (h:Ma x locs after=true) (k:Nat) (hk:k < 8):QD x locs after k=true:=by
 simp only [Ma,List.all_eq_true,List.mem_range] at h
 exact h k hk
theorem XaG (x:UInt8) (h:(decide (1≤x) && decide (x≤8))=true):x=1∨x=2∨x=3∨x=4∨x=5∨x=6∨x=7∨x=8:=by
 simp only [Bool.and_eq_true,decide_eq_true_eq,UInt8.le_iff_toNat_le] at h
 have h1:x=UInt8.ofNat x.toNat:=by simp
 have h2:(1:UInt8).toNat=1:=rfl
 have h3:(8:UInt8).toNat=8:=rfl
 rw [h2,h3] at h
 rcases (by omega:x.toNat=1∨x.toNat=2∨x.toNat=3∨x.toNat=4∨x.toNat=5∨x.toNat=6∨x.toNat=7∨x.toNat=8) with h | h | h | h | h | h | h | h <;> rw [h] at h1 <;> simp [h1]
end Go.Proofs.YtcpehikcegoojaaGreatDoor
