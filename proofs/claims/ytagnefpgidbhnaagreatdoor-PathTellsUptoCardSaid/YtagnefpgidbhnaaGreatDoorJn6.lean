/-
  Package check: isWord, locsRight. Conditions: the program lies in memory.

  Package check: demands, Right. Conditions: the program lies in memory; block 0 holds the table of needs.

  Plain Lean: what a valid program is. Conditions: none.
-/
import Derived.Test.YtagnefpgidbhnaaGreatDoorCkK
import Derived.Test.YtagnefpgidbhnaaGreatDoorLexK
import Derived.Test.YtagnefpgidbhnaaGreatDoorVcL
set_option linter.unusedSimpArgs false
set_option linter.unusedVariables false
namespace Go.Proofs.YtagnefpgidbhnaaGreatDoor
section
-- CkL
open Go.Proofs.Tryz
open Go.RowKit
def Yu (s:ByteArray):Bool:=(Yx s).isNone && (match Wp s with | [t,_]=>t.kind == 1 && t.text.toList == s.toList | _=>false)
theorem QX {s:ByteArray} {w w':World} {e:Ending} (h:Qv s w e w'):∃ (sv:Value) (p:Nat) (f:Int),e = .returned (.tuple #[sv,.int .i64 (p:Int),.int .i64 f])∧Below w.heap.size w w' ∧
   ((f=0∧Yx s=none∧w'.ownsRow w.heap.size 164 3 sv (Wp s).length (cellsOf (Wp s)))∨(f ≠ 0∧Yx s ≠ none∧sv = .slice none 0 0)):=by
 obtain ⟨h1,⟨p,f,h2,h3⟩ | ⟨h2,sv,h3,h4,_⟩⟩:=h
 · refine ⟨_,p,f,h3,h1,.inr ⟨?_,by rw [h2];simp,rfl⟩⟩
   unfold Yx at h2
   split at h2
   · cases h2;decide
   · obtain ⟨t,ht,he⟩:=Option.map_eq_some_iff.1 h2
     cases he
     have:∀ l t,Yl l=some t→XT t ≠ 0:=by
       intro l
       induction l with
       | nil=>intro t h;cases h
       | cons a r ih=>
         intro t h
         unfold Yl at h
         split at h
         · exact ih t h
         · cases h;assumption
     exact this _ _ ht
 · exact ⟨sv,0,0,h3,h1,.inl ⟨rfl,h2,h4⟩⟩
theorem Gy {w:World} {base n:Nat} {e:TypeId} {sz:Nat} {sv:Value} {xs:List Value} (h:w.ownsRow base e sz sv n xs):∃ A C,sv = .slice A n C∧(∀ j v,xs[j]? = some v→∃ g,A=some ⟨g,0,none⟩∧w.cell? ⟨g,j,none⟩=some v):=by
 obtain ⟨hx,⟨rfl,rfl⟩ | ⟨g,cap,cur,rfl,_,h2,_,_,h5,h6⟩⟩:=h
 · exact ⟨none,0,rfl,fun j v hj=>by rw [Nat.zero_mul] at hx;rw [List.length_eq_zero_iff.1 hx] at hj;simp at hj⟩
 · refine ⟨_,cap,rfl,fun j v hj=>⟨g,rfl,?_⟩⟩
   rw [← h6,List.getElem?_take] at hj
   split at hj
   · simp [World.cell?,h2];simpa using hj
   · cases hj
theorem L7 (s:ByteArray) (w0:World) (hs:s.size≤maxLen):Calls Tryz.prog 67 #[.string s] w0 fun e w'=>e = .returned (.bool (Yu s))∧Below w0.heap.size w0 w':=by
 have H:=Own.start w0 none
 refine XE func67 rfl ntmps67 rfl (fun a F=>?_);refine cSR fun K1 hK1=>Xa F rfl (qNK hK1 (qSR fun K2 hK2=>Xd rfl ?_));clear hK1;clear F a;intro a F;refine Xn call111 F rfl (Xbq s _ hs) ?_;rintro e w hp
 obtain ⟨sv,p,f,rfl,hb,hp⟩:=QX hp
 replace H:=H.grow hb;clear hb
 obtain ⟨A,n,C,rfl,hh⟩:∃ A n C,sv = .slice A n C∧((f=0∧Yx s=none∧n=(Wp s).length∧(∀ j v,(cellsOf (Wp s))[j]? = some v→∃ g,A=some ⟨g,0,none⟩∧w.cell? ⟨g,j,none⟩=some v))∨(f ≠ 0∧Yx s ≠ none)):=by
   rcases hp with ⟨h1,h2,h3⟩ | ⟨h1,h2,h3⟩
   · obtain ⟨A,C,h4,h5⟩:=Gy h3
     exact ⟨A,_,C,h4,.inl ⟨h1,h2,rfl,h5⟩⟩
   · exact ⟨_,_,_,h3,.inr ⟨h1,h2⟩⟩
 refine ⟨_,rfl,?_⟩;clear F a;intro a F;refine Xl F rfl (XB rfl rfl (XB rfl rfl (XB rfl rfl (Xh rfl (Xh rfl (Xh rfl (qNK hK2 (qSR fun K3 hK3=>Xd rfl (Xj rfl rfl ZQ (Xd rfl ?_))))))))));clear hK2;clear F a;intro a F
 refine F.split 14 rfl ?_ ?_ <;> (clear F;intro h14 F)
 ·
  replace h14:=Yh h14
  have hk:Yx s=none∧n=(Wp s).length∧(∀ j v,(cellsOf (Wp s))[j]? = some v→∃ g,A=some ⟨g,0,none⟩∧w.cell? ⟨g,j,none⟩=some v):=by
    rcases hh with ⟨_,h2⟩ | ⟨h2,_⟩
    · exact h2
    · exact absurd h14 h2
  obtain ⟨hb0,hn,hcs⟩:=hk
  refine Xl F rfl (Xs underlying159 rfl (Xj rfl rfl ZQ (Xg rfl rfl (Xd rfl ?_))));clear F a;intro a F
  refine F.split 19 rfl ?_ ?_ <;> (clear F;intro h19 F)
  ·
   replace h19:=Yh h19
   have h2:(Wp s).length=2:=by omega
   obtain ⟨t,u,htk⟩:∃ t u,Wp s=[t,u]:=by match Wp s,h2 with | [t,u],_=>exact ⟨t,u,rfl⟩
   rw [htk] at hcs
   obtain ⟨q,rfl,c0⟩:=hcs 0 _ rfl
   obtain ⟨q',hq',c1⟩:=hcs 1 _ rfl
   cases hq'
   refine Xl F rfl ?_;clear F a;intro a F
   refine sIx (j:=0) underlying159 sizeOf164 F rfl rfl rfl rfl ?_ ?_
   focus (omega)
   clear F a;intro a F;refine Xi (f:=0) underlying164 rfl sizeOf162 rfl rfl F rfl (Xc isAgg162 rfl c0 (Xj rfl rfl ZQ (Xg rfl rfl (Xd rfl ?_))));clear F a;intro a F
   refine F.split 26 rfl ?_ ?_ <;> (clear F;intro h26 F)
   ·
    replace h26:=Yh h26
    have hk1:(t.kind == 1)=true:=by simp;omega
    refine Xl F rfl ?_;clear F a;intro a F
    refine sIx (j:=0) underlying159 sizeOf164 F rfl rfl rfl rfl ?_ ?_
    focus (omega)
    clear F a;intro a F;refine Xi (f:=1) underlying164 rfl sizeOf9 rfl rfl F rfl (Xc isAgg9 rfl c1 (Xd rfl (Xj rfl rfl Lp (Xg rfl rfl (Xh rfl (qNK hK3 ?_))))));clear hK3;clear F a;intro a F;refine wp_ret ?_;refine bRet results67 F rfl ?_
    exact ⟨X1 (by rw [Yu,hb0,htk];simp only [hk1];rfl),H.below⟩
   replace h26:=Yi h26
   have hk1:(t.kind == 1)=false:=by simp;omega
   refine Xe F (Xf (Xf (Xf (Xf (Xf (Xg rfl rfl (Xh rfl (qNK hK3 ?_))))))));clear hK3;clear F a;intro a F;refine wp_ret ?_;refine bRet results67 F rfl ?_
   exact ⟨X1 (by rw [Yu,hb0,htk];simp only [hk1];rfl),H.below⟩
  replace h19:=Yi h19
  have h2:(Wp s).length ≠ 2:=by omega
  refine Xe F (Xf (Xf (Xf (Xf (Xg rfl rfl (Xd rfl (Xf (Xf (Xf (Xf (Xf (Xf (Xg rfl rfl (Xh rfl (qNK hK3 ?_)))))))))))))));clear hK3;clear F a;intro a F;refine wp_ret ?_;refine bRet results67 F rfl ?_
  exact ⟨X1 (by rw [Yu,hb0];symm;rw [Bool.and_eq_false_iff];right;split <;> simp_all),H.below⟩
 replace h14:=Yi h14
 have hb0:(Yx s).isNone=false:=by
   rcases hh with ⟨h2,_⟩ | ⟨_,h2⟩
   · exact absurd h2 h14
   · cases hq:Yx s with
     | none=>exact absurd hq h2
     | some _=>rfl
 refine Xe F (Xf (Xf (Xg rfl rfl (Xd rfl (Xf (Xf (Xf (Xf (Xf (Xg rfl rfl (Xd rfl (Xf (Xf (Xf (Xf (Xf (Xf (Xg rfl rfl (Xh rfl (qNK hK3 ?_))))))))))))))))))));clear hK3;clear F a;intro a F;refine wp_ret ?_;refine bRet results67 F rfl ?_
 exact ⟨X1 (by rw [Yu,hb0,Bool.false_and]),H.below⟩
def Wz (l:List ByteArray):Nat→List ByteArray→Bool
 | _,[]=>true
 | j,x :: r=>(Zk x && !(UW x (l.take j) 0).isSome) && Wz l (j+1) r
theorem Va {l m:List ByteArray} {j:Nat} {x:ByteArray} (hx:l[j]? = some x):Wz m j (l.drop j)=((Zk x && !(UW x (m.take j) 0).isSome) && Wz m (j+1) (l.drop (j+1))):=by
 obtain ⟨hj,rfl⟩:=List.getElem?_eq_some_iff.1 hx
 rw [List.drop_eq_getElem_cons hj]
 rfl
def YI (p:Prg):Bool:=(decide (1≤p.locs.length) && decide (p.locs.length≤6) && p.init.length == p.locs.length) && Wz p.locs 0 p.locs
theorem StrsAt.take {w:World} {A:Option Addr} {l:List ByteArray} (h:StrsAt w A l) (j:Nat):StrsAt w A (l.take j):=by
 intro k cs hk
 refine h k cs ?_;rw [List.getElem?_map] at hk ⊢;rw [List.getElem?_take] at hk
 split at hk
 · exact hk
 · cases hk
set_option maxHeartbeats 1000000 in
set_option maxRecDepth 10000 in
theorem J6 (B:Nat) (cs:List Value) (p:Prg) (w0:World) (hB:w0.rangeAt B 0 cs) (hP:ProgAt w0 cs p) :
   Calls Tryz.prog 69 #[.pointer (some ⟨B,0,none⟩)] w0 fun e w'=>e = .returned (.bool (YI p))∧Below w0.heap.size w0 w':=by
 obtain ⟨LA,LC,IA,IC,TA,TC,h,ccs,hp⟩:=hP
 have hcs:=hp.cs
 subst hcs
 have hn:=hp.locsN
 have hi:=hp.initN
 have hlc:=hp.locsC
 have H:=Own.start w0 none
 refine XE func69 rfl ntmps69 rfl (fun a F=>?_);refine cSR fun K1 hK1=>Xa F rfl (qNK hK1 ?_);clear hK1;clear F a;intro a F
 refine cSeqS [0] (fun ups w=>(decide (1≤p.locs.length) && decide (p.locs.length≤6) && p.init.length == p.locs.length)=true∧ups=[]∧Own w0 none w []) F ?_ ?_
 ·
  refine cSeq (fun K2 hK2=>?_);refine Nm (by kernel_rfl) H ?_;replace H:=H.drew;refine Xp F rfl (fun w H=>rMv F rfl) H qq0 (Xq rfl (fun a F w H=>rNc F rfl) H qq0 (Xq rfl (fun a F w H=>rFa (f:=1) (k:=1) underlying30 rfl sizeOf24 rfl rfl F rfl) H qq0 (Xq rfl (fun a F w H=>rLd isAgg24 F rfl (H.arg (hB 1 _ rfl))) H qq0 (Xq rfl (fun a F w H=>Dg underlying24 F rfl) H qq0 (Xq rfl (fun a F w H=>YA F rfl rfl YW) H qq0 (Xq rfl (fun a F w H=>rMv F rfl) H qq0 ?_))))));clear F a;intro a F
  refine F.split 11 rfl ?_ ?_ <;> (clear F;intro h11 F)
  ·
   replace h11:=of_decide_eq_true h11;refine Eh (by kernel_rfl) (by kernel_rfl) F rfl rfl rfl H qq0 (Xr rfl H qq0 (Xr rfl H qq0 (Xr rfl H qq0 (Xr rfl H qq0 (Xr rfl H qq0 (Xq rfl (fun a F w H=>rPk F rfl rfl) H qq0 (Xq rfl (fun a F w H=>rMv F rfl) H qq0 (Xr rfl H qq0 (Xr rfl H qq0 (Xr rfl H qq0 (Xr rfl H qq0 (Xr rfl H qq0 (Xr rfl H qq0 (Xr rfl H qq0 (Xr rfl H qq0 (Xr rfl H qq0 (Xr rfl H qq0 (Xr rfl H qq0 (Xq rfl (fun a F w H=>rPk F rfl rfl) H qq0 ?_)))))))))))))))))));clear F a;intro a F
   refine BI (k:=27) ?_ rfl
   refine hK2 _ _ ?_;clear hK2;refine cIfT F rfl ?_;refine cSR fun K3 hK3=>Xa F rfl (qNK hK3 ?_);clear hK3;clear F a;intro a F;refine wp_ret ?_;simp only [Exit.then];refine bRet results69 F rfl ?_
   exact ⟨X1 (by clear F hB;rw [YI];symm;rw [Bool.and_eq_false_iff];left;simp_all <;> omega),H.below⟩
  replace h11:=of_decide_eq_false h11;refine Xp F rfl (fun w H=>rMv F rfl) H qq0 (Xq rfl (fun a F w H=>rNc F rfl) H qq0 (Xq rfl (fun a F w H=>rFa (f:=1) (k:=1) underlying30 rfl sizeOf24 rfl rfl F rfl) H qq0 (Xq rfl (fun a F w H=>rLd isAgg24 F rfl (H.arg (hB 1 _ rfl))) H qq0 (Xq rfl (fun a F w H=>Dg underlying24 F rfl) H qq0 (Xq rfl (fun a F w H=>YA F rfl rfl UO) H qq0 (Xq rfl (fun a F w H=>rPk F rfl rfl) H qq0 (Xq rfl (fun a F w H=>rMv F rfl) H qq0 ?_)))))));clear F a;intro a F
  refine F.split 19 rfl ?_ ?_ <;> (clear F;intro h19 F)
  ·
   replace h19:=of_decide_eq_true h19;refine Eh (by kernel_rfl) (by kernel_rfl) F rfl rfl rfl H qq0 (Xr rfl H qq0 (Xr rfl H qq0 (Xr rfl H qq0 (Xr rfl H qq0 (Xr rfl H qq0 (Xr rfl H qq0 (Xr rfl H qq0 (Xr rfl H qq0 (Xr rfl H qq0 (Xr rfl H qq0 (Xq rfl (fun a F w H=>rPk F rfl rfl) H qq0 ?_)))))))))));clear F a;intro a F
   refine BI (k:=27) ?_ rfl
   refine hK2 _ _ ?_;clear hK2;refine cIfT F rfl ?_;refine cSR fun K4 hK4=>Xa F rfl (qNK hK4 ?_);clear hK4;clear F a;intro a F;refine wp_ret ?_;simp only [Exit.then];refine bRet results69 F rfl ?_
   exact ⟨X1 (by clear F hB;rw [YI];symm;rw [Bool.and_eq_false_iff];left;simp_all <;> omega),H.below⟩
  replace h19:=of_decide_eq_false h19;refine Xp F rfl (fun w H=>rMv F rfl) H qq0 (Xq rfl (fun a F w H=>rNc F rfl) H qq0 (Xq rfl (fun a F w H=>rFa (f:=2) (k:=2) underlying30 rfl sizeOf23 rfl rfl F rfl) H qq0 (Xq rfl (fun a F w H=>rLd isAgg23 F rfl (H.arg (hB 2 _ rfl))) H qq0 (Xq rfl (fun a F w H=>Dg underlying23 F rfl) H qq0 (Xq rfl (fun a F w H=>rMv F rfl) H qq0 (Xq rfl (fun a F w H=>rNc F rfl) H qq0 (Xq rfl (fun a F w H=>rFa (f:=1) (k:=1) underlying30 rfl sizeOf24 rfl rfl F rfl) H qq0 (Xq rfl (fun a F w H=>rLd isAgg24 F rfl (H.arg (hB 1 _ rfl))) H qq0 (Xq rfl (fun a F w H=>Dg underlying24 F rfl) H qq0 (Xq rfl (fun a F w H=>YA F rfl rfl U7) H qq0 (Xq rfl (fun a F w H=>rPk F rfl rfl) H qq0 ?_)))))))))));clear F a;intro a F
  refine BI (k:=27) ?_ rfl
  refine hK2 _ _ ?_;clear hK2
  refine cIf F rfl (fun h31=>?_) (fun h31=>?_)
  ·
   replace h31:=UL h31;refine cSR fun K5 hK5=>Xa F rfl (qNK hK5 ?_);clear hK5;clear F a;intro a F;refine wp_ret ?_;simp only [Exit.then];refine bRet results69 F rfl ?_
   exact ⟨X1 (by clear F hB;rw [YI];symm;rw [Bool.and_eq_false_iff];left;simp_all <;> omega),H.below⟩
  replace h31:=UM h31;refine wp_skip ?_
  refine ⟨[],⟨?_,rfl,H⟩,F.tt⟩
  clear F hB
  simp_all <;> omega
 clear F H
 intro ups a w hI F
 obtain ⟨hsz,rfl,H⟩:=hI
 refine cSeq (fun K6 hK6=>?_);refine cSR fun K7 hK7=>Xl F rfl (Xk rfl (Xb (f:=1) (k:=1) underlying30 rfl sizeOf24 rfl rfl rfl (Xc isAgg24 rfl (H.arg (hB 1 _ rfl)) (Xs underlying24 rfl (Xd rfl (qNK hK7 ?_))))));clear hK7;clear F a;intro a F;refine wp_block ?_
 refine cLoopS [0,35,36] (fun m ups w=>∃ j:Nat,m=p.locs.length - j∧ups=[(37,.int .i64 (j:Int))]∧j≤p.locs.length∧Wz p.locs 0 p.locs=Wz p.locs j (p.locs.drop j)∧Own w0 none w []) F (p.locs.length) [(37,.int .i64 ((0:Nat):Int))] ?_ ?_
 · exact ⟨0,rfl,rfl,Nat.zero_le _,rfl,H⟩
 clear F
 clear H
 intro m ups a w hI F
 obtain ⟨j,rfl,rfl,hj,ht,H⟩:=hI
 refine cSR fun K8 hK8=>Xm F rfl rfl YW (qNK hK8 ?_);clear hK8;clear F a;intro a F;refine cSeq (fun K9 hK9=>?_)
 refine cIf F rfl (fun h38=>?_) (fun h38=>?_)
 ·
  replace h38:=of_decide_eq_true h38
  have hjl:j < p.locs.length:=by omega
  obtain ⟨x,hx⟩:∃ x,p.locs[j]? = some x:=⟨_,List.getElem?_eq_getElem hjl⟩
  obtain ⟨b,off,rfl,hc⟩:=hp.locs.get hx
  have hjt:(p.locs.take j).length=j:=by rw [List.length_take];omega
  refine wp_skip (hK9 _ _ ?_);clear hK9;refine cSeq (fun K10 hK10=>?_);refine wp_block ?_;refine cSR fun K11 hK11=>Xl F rfl ?_;clear F a;intro a F
  refine sIx underlying24 sizeOf9 F rfl rfl rfl rfl ?_ ?_
  focus (omega)
  clear F a;intro a F;refine sLd isAgg9 F rfl rfl rfl (H.arg hc) (Xh rfl (Xh rfl (qNK hK11 (qSR fun K12 hK12=>Xd rfl ?_))));clear hK11;clear F a;intro a F;refine Xn call112 F rfl (Cw x _ (hp.locsS x (List.mem_of_getElem? hx)) _ rfl) ?_;rintro e w ⟨rfl,rfl⟩;refine ⟨_,rfl,?_⟩;clear F a;intro a F;refine UV F rfl rfl rfl (Xd rfl ?_);clear F a;intro a F
  refine F.split 45 rfl ?_ ?_ <;> (clear F;intro h45 F)
  ·
   replace h45:=ZA h45;refine Xe F (Xf (Xf (Xf (Xf (Xf (Xf (Xf (Xg rfl rfl (qNK hK12 ?_)))))))));clear hK12;clear F a;intro a F;refine cIfT F rfl ?_;refine cSR fun K13 hK13=>Xa F rfl (qNK hK13 ?_);clear hK13;clear F a;intro a F;refine wp_ret ?_;refine xI ?_;refine bRet results69 F rfl ?_
   exact ⟨X1 (by rw [YI,hsz,Bool.true_and,ht,Va hx];clear F hB;simp_all),H.below⟩
  replace h45:=ZB h45;refine Xl F rfl (Xk rfl (Xb (f:=1) (k:=1) underlying30 rfl sizeOf24 rfl rfl rfl (Xc isAgg24 rfl (H.arg (hB 1 _ rfl)) (Xd rfl ?_))));clear F a;intro a F
  refine sSlH underlying24 (fun w=>⟨_,sizeOf9 w⟩) F rfl rfl rfl rfl ?_ ?_
  focus (omega)
  clear F a;intro a F;refine Xl F rfl ?_;clear F a;intro a F;refine Xn call113 F rfl ((by have:=Q9 (some ⟨b,off,none⟩) LC (p.locs.take j) x w (RowsAt.own (hp.locs.take j) H) (by omega);rw [hjt] at this;exact this)) (gG H ?_);clear F a H;intro a w F H;refine sPk F rfl rfl rfl rfl (qNK hK12 ?_);clear hK12;clear F a;intro a F
  refine cIf F rfl (fun h54=>?_) (fun h54=>?_)
  ·
   refine cSR fun K14 hK14=>Xa F rfl (qNK hK14 ?_);clear hK14;clear F a;intro a F;refine wp_ret ?_;refine xI ?_;refine bRet results69 F rfl ?_
   exact ⟨X1 (by rw [YI,hsz,Bool.true_and,ht,Va hx];clear F hB;simp_all),H.below⟩
  refine wp_skip (hK10 _ _ (cReg ?_));clear hK10
  refine Xm F rfl rfl (XJ (j:=1) ?_) ?_
  focus omega
  clear F a;intro a F;refine Xl F rfl ?_;clear F a;intro a F;refine sNil ?_
  exact ⟨p.locs.length - (j+1),by omega,_,⟨j+1,rfl,rfl,by omega,by rw [ht,Va hx];simp_all,H⟩,F.tt⟩
 replace h38:=of_decide_eq_false h38;refine wp_exit ?_;refine hK6 _ _ (cSR fun K15 hK15=>Xa F rfl (qNK hK15 ?_));clear hK6 hK15;clear F a;intro a F;refine wp_ret ?_;refine bRet results69 F rfl ?_
 exact ⟨X1 (by rw [YI,hsz,Bool.true_and,ht,List.drop_eq_nil_of_le (by omega)];rfl),H.below⟩
end
section
open Go.Proofs.Tryz
open Go.RowKit
theorem Ms (V B:Nat) (cs:List Value) (p:Prg) (w0:World) (hP:PvAt w0 V B cs p) :
   Calls Tryz.prog 66 #[.pointer (some ⟨V,0,none⟩)] w0 fun e w'=>e = .returned (.bool (Yu p.name))∧Below w0.heap.size w0 w':=by
 obtain ⟨hV,hB,LA,LC,IA,IC,TA,TC,h,ccs,hp⟩:=hP
 have hcs:=hp.cs
 subst hcs
 have H:=Own.start w0 none
 refine XE func66 rfl ntmps66 rfl (fun a F=>?_);refine cSR fun K1 hK1=>Xa F rfl (qNK hK1 (qSR fun K2 hK2=>Xc isAgg105 rfl (H.arg (hV 0 _ rfl)) (Xk rfl (Xb (f:=0) (k:=0) underlying30 rfl sizeOf9 rfl rfl rfl (Xc isAgg9 rfl (H.arg (hB 0 _ rfl)) ?_)))));clear hK1;clear F a;intro a F;refine Xn call67 F rfl (L7 p.name _ hp.name) (gG H ?_);clear F a H;intro a w F H;refine Xa F rfl (qNK hK2 ?_);clear hK2;clear F a;intro a F;refine wp_ret ?_;refine bRet results66 F rfl ?_
 exact ⟨rfl,H.below⟩
theorem Mr (V B:Nat) (cs:List Value) (p:Prg) (w0:World) (hP:PvAt w0 V B cs p) :
   Calls Tryz.prog 68 #[.pointer (some ⟨V,0,none⟩)] w0 fun e w'=>e = .returned (.bool (YI p))∧Below w0.heap.size w0 w':=by
 obtain ⟨hV,hB,hp⟩:=hP
 have H:=Own.start w0 none
 refine XE func68 rfl ntmps68 rfl (fun a F=>?_);refine cSR fun K1 hK1=>Xa F rfl (qNK hK1 (qSR fun K2 hK2=>Xc isAgg105 rfl (H.arg (hV 0 _ rfl)) ?_));clear hK1;clear F a;intro a F;refine Xn call69 F rfl (J6 B cs p _ (H.argR hB) (hp.own H)) (gG H ?_);clear F a H;intro a w F H;refine Xa F rfl (qNK hK2 ?_);clear hK2;clear F a;intro a F;refine wp_ret ?_;refine bRet results68 F rfl ?_
 exact ⟨rfl,H.below⟩
def Zm (V E:Nat):List (Int × Value):=[(70,.func (.func 66) #[] #[.pointer (some ⟨V,0,none⟩)]),(71,.func (.func 68) #[] #[.pointer (some ⟨V,0,none⟩)]),
 (72,.func (.func 70) #[] #[.pointer (some ⟨V,0,none⟩),.pointer (some ⟨E,0,none⟩)]),(73,.func (.func 72) #[] #[.pointer (some ⟨E,0,none⟩),.pointer (some ⟨V,0,none⟩)]),
 (75,.func (.func 74) #[] #[.pointer (some ⟨V,0,none⟩)]),(74,.func (.func 75) #[] #[.pointer (some ⟨V,0,none⟩)])]
def VH (V E:Nat):List Value:=(Zm V E).flatMap fun q=>[.int .i64 q.1,q.2]
theorem Mm (B:Nat) (w0:World) :
   Calls Tryz.prog 42 #[.pointer (some ⟨B,0,none⟩)] w0 fun e w'=>∃ V E D,e = .returned (.slice (some ⟨D,0,none⟩) 6 6) ∧
     Own w0 none w' [.blk D (VH V E) 107,.blk E [.func (.func 65) #[] #[.pointer (some ⟨V,0,none⟩)]] 133,.blk V [.pointer (some ⟨B,0,none⟩)] 105]:=by
 have H:=Own.start w0 none
 refine XE func42 rfl ntmps42 rfl (fun a F=>?_);refine cSR fun K1 hK1=>?_;refine sBx H F rfl rfl rfl ?_;clear F a H;intro b1 a w F H;refine Xa F rfl (qNK hK1 (qSR fun K2 hK2=>qFn rfl rfl rfl rfl ?_));clear hK1;clear F a;intro a F;refine sAl H zeroValue133 F rfl rfl ?_;clear F a H;intro b3 a w F H;refine sSt H 0 sizeOf133 F rfl rfl rfl rfl rfl rfl ?_;clear H;intro w H;refine nK hK2 (cSR fun K3 hK3=>sFn F rfl rfl rfl rfl (qBd (places:=[(0,1),(1,1)]) zeroValue107 underlying107 (by kernel_rfl) rfl rfl rfl rfl (qFn rfl rfl rfl rfl (qBd (places:=[(0,1),(1,1)]) zeroValue107 underlying107 (by kernel_rfl) rfl rfl rfl rfl (qFn rfl rfl rfl rfl (qBd (places:=[(0,1),(1,1)]) zeroValue107 underlying107 (by kernel_rfl) rfl rfl rfl rfl (qFn rfl rfl rfl rfl (qBd (places:=[(0,1),(1,1)]) zeroValue107 underlying107 (by kernel_rfl) rfl rfl rfl rfl (qFn rfl rfl rfl rfl (qBd (places:=[(0,1),(1,1)]) zeroValue107 underlying107 (by kernel_rfl) rfl rfl rfl rfl (qFn rfl rfl rfl rfl (qBd (places:=[(0,1),(1,1)]) zeroValue107 underlying107 (by kernel_rfl) rfl rfl rfl rfl ?_))))))))))));clear hK2;clear F a;intro a F;refine sBs H underlying103 sizeOf107 zeroValue107 rfl F rfl rfl rfl rfl rfl ?_;clear F a H;intro b17 a w F H;refine Xa F rfl (qNK hK3 ?_);clear hK3;clear F a;intro a F;refine wp_ret ?_;refine bRet results42 F rfl ?_
 exact ⟨_,_,_,rfl,H⟩
def ZE (p:Prg):Nat→Bool
 | 0=>Yu p.name
 | 1=>YI p
 | 2=>XO p
 | 3=>YC p
 | 4=>Vh p
 | 5=>Yk p.threads.length p.locs.length 20 p.cond
 | _=>true
def Z7:Nat→Int
 | 0=>70 | 1=>71 | 2=>72 | 3=>73 | 4=>75 | 5=>74 | _=>0
def YD (p:Prg):Nat→Nat→Int
 | 0,_=>0
 | n+1,k=>if ZE p k then YD p n (k+1) else Z7 k
def X5 (p:Prg):Int:=YD p 6 0
theorem DV (k V E B:Nat) (q:Int × Value) (cs:List Value) (p:Prg) (w0:World) (hP:PvAt w0 V B cs p) (hE:w0.rangeAt E 0 [.func (.func 65) #[] #[.pointer (some ⟨V,0,none⟩)]]) (hN:NeedsAt w0) (hk:(Zm V E)[k]? = some q) :
   q.1=Z7 k∧JJ Tryz.prog q.2 [] w0 (fun e w'=>e = .returned (.bool (ZE p k))∧Below w0.heap.size w0 w'):=by
 match k,hk with
 | 0,hk=>cases hk;exact ⟨rfl,_,[],[.pointer (some ⟨V,0,none⟩)],rfl,call66,Ms V B cs p w0 hP⟩
 | 1,hk=>cases hk;exact ⟨rfl,_,[],[.pointer (some ⟨V,0,none⟩)],rfl,call68,Mr V B cs p w0 hP⟩
 | 2,hk=>cases hk;exact ⟨rfl,_,[],[.pointer (some ⟨V,0,none⟩),.pointer (some ⟨E,0,none⟩)],rfl,call70,Mq E V B cs p w0 hP hE⟩
 | 3,hk=>cases hk;exact ⟨rfl,_,[],[.pointer (some ⟨E,0,none⟩),.pointer (some ⟨V,0,none⟩)],rfl,call72,Mp E V B cs p w0 hP hN hE⟩
 | 4,hk=>cases hk;exact ⟨rfl,_,[],[.pointer (some ⟨V,0,none⟩)],rfl,call74,Mo V B cs p w0 hP⟩
 | 5,hk=>cases hk;exact ⟨rfl,_,[],[.pointer (some ⟨V,0,none⟩)],rfl,call75,Mn V B cs p w0 hP⟩
 | n+6,hk=>simp [Zm] at hk
theorem Q8 (V E k:Nat) (q:Int × Value) (hk:(Zm V E)[k]? = some q):((VH V E).drop (k * 2)).take 2=[.int .i64 q.1,q.2]:=by
 match k,hk with
 | 0,hk=>cases hk;rfl
 | 1,hk=>cases hk;rfl
 | 2,hk=>cases hk;rfl
 | 3,hk=>cases hk;rfl
 | 4,hk=>cases hk;rfl
 | 5,hk=>cases hk;rfl
 | n+6,hk=>simp [Zm] at hk
theorem Ef (V E k:Nat) (q:Int × Value) (hk:(Zm V E)[k]? = some q):q.2.oneCell'=true:=by
 match k,hk with
 | 0,hk=>cases hk;rfl
 | 1,hk=>cases hk;rfl
 | 2,hk=>cases hk;rfl
 | 3,hk=>cases hk;rfl
 | 4,hk=>cases hk;rfl
 | 5,hk=>cases hk;rfl
 | n+6,hk=>simp [Zm] at hk
theorem UQ {p:Prg} {k:Nat} (hk:k < 6):YD p (6 - k) k=if ZE p k then YD p (6 - (k+1)) (k+1) else Z7 k:=by
 have:6 - k=(6 - (k+1))+1:=by omega
 rw [this];rfl
set_option maxHeartbeats 1000000 in
theorem LI (cs:List Value) (p:Prg) (w0:World) (hP:ProgAt w0 cs p) (hN:NeedsAt w0) :
   Calls Tryz.prog 27 #[.agg cs.toArray] w0 fun e w'=>e = .returned (.int .i64 (X5 p))∧Below w0.heap.size w0 w':=by
 have H:=Own.start w0 none
 refine XE func27 rfl ntmps27 rfl (fun a F=>?_);refine cSR fun K1 hK1=>?_;refine sBx H F rfl rfl rfl ?_;clear F a H;intro b1 a w F H;refine Xa F rfl (qNK hK1 ?_);clear hK1;clear F a;intro a F;refine cSeq (fun K2 hK2=>?_);refine cSR fun K3 hK3=>?_;refine Xn call42 F rfl (Mm _ _) ?_;rintro e w ⟨V,E,D,rfl,H2⟩;replace H:=H.join H2;clear H2;refine ⟨_,rfl,?_⟩;clear F a;intro a F;refine sLen underlying103 F rfl rfl rfl (Xd rfl (qNK hK3 ?_));clear hK3;clear F a;intro a F;refine wp_block ?_
 refine cLoopS [5,6] (fun m ups w=>∃ k:Nat,m=6 - k∧ups=[(7,.int .i64 (k:Int))]∧k≤6∧X5 p=YD p (6 - k) k∧Own w0 none w [.blk D (VH V E) 107,.blk E [.func (.func 65) #[] #[.pointer (some ⟨V,0,none⟩)]] 133,.blk V [.pointer (some ⟨b1,0,none⟩)] 105,.blk b1 cs 30]) F (6) [(7,.int .i64 ((0:Nat):Int))] ?_ ?_
 · exact ⟨0,rfl,rfl,by omega,rfl,H⟩
 clear F
 clear H
 intro m ups a w hI F
 obtain ⟨k,rfl,rfl,hk,ht,H⟩:=hI
 refine cSR fun K4 hK4=>Xm F rfl rfl YW (qNK hK4 ?_);clear hK4;clear F a;intro a F;refine cSeq (fun K5 hK5=>?_)
 refine cIf F rfl (fun h8=>?_) (fun h8=>?_)
 ·
  replace h8:=of_decide_eq_true h8
  have hk6:k < 6:=by omega
  obtain ⟨q,hq⟩:∃ q,(Zm V E)[k]? = some q:=⟨_,List.getElem?_eq_getElem (by simp only [Zm,List.length_cons,List.length_nil];omega)⟩
  have hqc:=Ef V E k q hq
  refine wp_skip (hK5 _ _ ?_);clear hK5;refine cSeq (fun K6 hK6=>?_);refine wp_block ?_;refine cSR fun K7 hK7=>?_
  refine sIx underlying103 sizeOf107 F rfl rfl rfl rfl ?_ ?_
  focus (omega)
  clear F a;intro a F
  refine Xo underlying107 rfl ?si F rfl (by have:=H.range 0 rfl (0+k * 2) 2;rw [Nat.zero_add] at this ⊢;rw [Q8 V E k q hq] at this;exact this) ?_
  case si=>exact XC sizeOf107
  clear F a;intro a F;refine sAl H zeroValue107 F rfl rfl ?_;clear F a H;intro b4 a w F H
  refine sSr H 0 ?si F rfl rfl rfl ?s1 rfl rfl ?_
  case si=>exact XC sizeOf107
  case s1=>(repeat (first | exact VA | (apply Wx;· first | rfl | assumption | exact VB rfl rfl)))
  clear H;intro w H;refine nK hK7 (cSR fun K8 hK8=>Xi (f:=1) (k:=1) underlying107 rfl sizeOf32 rfl rfl F rfl (Xc isAgg32 rfl (H.cell 0 rfl rfl) ?_));clear hK7;clear F a;intro a F
  obtain ⟨hq1,hq2⟩:=DV k V E b1 q cs p w ⟨H.whole 3 rfl,H.whole 4 rfl,hP.own H⟩ (H.whole 2 rfl) (hN.own H) hq
  refine EY F rfl rfl rfl rfl hq2 ?_;rintro e w ⟨rfl,hb⟩
  replace H:=H.grow hb;clear hb hq2
  refine ⟨_,rfl,?_⟩;clear F a;intro a F;refine UV F rfl rfl rfl (qNK hK8 ?_);clear hK8;clear F a;intro a F
  refine cIf F rfl (fun h14=>?_) (fun h14=>?_)
  ·
   replace h14:=ZA h14;refine cSR fun K9 hK9=>Xi (f:=0) (k:=0) underlying107 rfl sizeOf38 rfl rfl F rfl (Xc isAgg38 rfl (H.cell 0 rfl rfl) (Xh rfl (qNK hK9 ?_)));clear hK9;clear F a;intro a F;refine wp_ret ?_;refine xI ?_;refine bRet results27 F rfl ?_
   exact ⟨by rw [ht,UQ hk6,if_neg (by simp [h14]),← hq1],H.below⟩
  replace h14:=ZB h14;refine wp_skip (hK6 _ _ (cReg ?_));clear hK6
  refine Xm F rfl rfl (XJ (j:=1) ?_) ?_
  focus omega
  clear F a;intro a F;refine Xl F rfl ?_;clear F a;intro a F;refine sNil ?_
  exact ⟨6 - (k+1),by omega,_,⟨k+1,rfl,rfl,by omega,by rw [ht,UQ hk6,if_pos h14],H.tail⟩,F.tt⟩
 replace h8:=of_decide_eq_false h8;refine wp_exit ?_;refine hK2 _ _ (cSR fun K10 hK10=>Xa F rfl (qNK hK10 ?_));clear hK2 hK10;clear F a;intro a F;refine wp_ret ?_;refine bRet results27 F rfl ?_
 exact ⟨by rw [ht,(by omega:6 - k=0)];rfl,H.below⟩
end
section
open Go.Proofs.Tryz
theorem Eg:∀ k,k < 6→Z7 k ≠ 0
 | 0,_=>by decide
 | 1,_=>by decide
 | 2,_=>by decide
 | 3,_=>by decide
 | 4,_=>by decide
 | 5,_=>by decide
 | k+6,h=>by omega
theorem Vj {p:Prg}:∀ (n k:Nat),n+k≤6→YD p n k=0→∀ i,k≤i→i < k+n→ZE p i=true
 | 0,_,_,_,i,h1,h2=>by omega
 | n+1,k,hn,h,i,h1,h2=>by
   unfold YD at h
   split at h
   · rename_i hd
     rcases Nat.lt_or_ge k i with h3 | h3
     · exact Vj n (k+1) (by omega) h i (by omega) (by omega)
     · obtain rfl:k=i:=by omega
       exact hd
   · exact absurd h (Eg k (by omega))
theorem Zx {p:Prg} (h:X5 p=0) (i:Nat) (hi:i < 6):ZE p i=true:=Vj 6 0 (by omega) h i (by omega) (by omega)
structure Valid (p:Prg):Prop where
 locs1:1≤p.locs.length
 locs6:p.locs.length≤6
 init:p.init.length=p.locs.length
 thr1:1≤p.threads.length
 thr4:p.threads.length≤4
 long:∀ (t:Nat) (l:List Ins),p.threads[t]? = some l→l.length≤12
 ins:∀ (t:Nat) (l:List Ins),p.threads[t]? = some l→YP p.locs.length l.length 0 l=true
 ask:p.ask=1∨p.ask=2∨p.ask=3
theorem valid {p:Prg} (h:X5 p=0):Valid p:=by
 have h1:YI p=true:=Zx h 1 (by omega)
 have h2:XO p=true:=Zx h 2 (by omega)
 have h3:YC p=true:=Zx h 3 (by omega)
 have h4:Vh p=true:=Zx h 4 (by omega)
 simp only [YI,XO,YC,Vh,Bool.and_eq_true,decide_eq_true_eq,beq_iff_eq,Bool.or_eq_true,List.all_eq_true] at h1 h2 h3 h4
 refine ⟨h1.1.1.1,h1.1.1.2,h1.1.2,h2.1.1,h2.1.2,fun t l hl=>h2.2 l (List.mem_of_getElem? hl),fun t l hl=>?_,by rcases h4 with (h | h) | h <;> simp [h]⟩
 have:=h3 l (List.mem_of_getElem? hl)
 simp only [XH,Bool.and_eq_true] at this
 exact this.2
theorem J8 {locs:Int} {n:Nat}:∀ {l:List Ins} {i k:Nat} {x:Ins},YP locs n i l=true→l[k]? = some x→ZV x locs ((n:Int) - 1 - ((i+k:Nat):Int))=true
 | [],_,_,_,_,hk=>by simp at hk
 | y :: r,i,0,x,h,hk=>by
   simp only [YP,Bool.and_eq_true] at h
   simp only [List.getElem?_cons_zero,Option.some.injEq] at hk
   subst hk
   exact h.1
 | y :: r,i,k+1,x,h,hk=>by
   simp only [YP,Bool.and_eq_true] at h
   have:=J8 (k:=k) h.2 (by simpa using hk)
   rwa [show i+1+k=i+(k+1) by omega] at this
theorem WE {x:Ins} {locs after:Int} (h:ZV x locs after=true) (k:Nat) (hk:k < 8):Yr x locs after k=true:=by
 simp only [ZV,List.all_eq_true,List.mem_range] at h
 exact h k hk
-- AtK
end
def DO (l:List Nat):List (List Value):=l.map fun t:Nat=>[.int .i64 (t:Int)]
@[simp] theorem intRows_length (l:List Nat):(DO l).length=l.length:=by simp [DO]
section
open Go.RowKit
set_option maxRecDepth 100000
def BytesAt (w:World) (A:Option Addr) (l:List UInt8):Prop:=RowsAt w A 1 (l.map fun x=>[b8 x])
theorem BytesAt.get {w:World} {A:Option Addr} {l:List UInt8} (h:BytesAt w A l) {j:Nat} {x:UInt8} (hj:l[j]? = some x):∃ b off,A=some ⟨b,off,none⟩∧w.cell? ⟨b,off+j * 1,none⟩=some (b8 x):=by
 obtain ⟨b,off,h1,h2⟩:=h j [b8 x] (by rw [List.getElem?_map,hj];rfl)
 exact ⟨b,off,h1,by have:=h2 0 _ rfl;rwa [Nat.add_zero] at this⟩
-- PaP
set_option maxRecDepth 100000
structure Ev where
 kind:UInt8
 loc:UInt8
 val:UInt8
 mode:UInt8
 ins:UInt8
 pos:UInt8
def Ev.cells (e:Ev):List Value:=[.int .i64 0,b8 e.kind,b8 e.loc,b8 e.val,b8 e.mode,b8 e.ins,b8 e.pos]
def Ev.cell (e:Ev) (i:Nat):Value:=if i=0 then .int .i64 0 else if i=1 then b8 e.kind else if i=2 then b8 e.loc else if i=3 then b8 e.val else if i=4 then b8 e.mode else if i=5 then b8 e.ins else b8 e.pos
def zEv:Ev:=⟨0,0,0,0,0,0⟩
def YO {α:Type} (f:Nat→α) (j:Nat) (v:α):Nat→α:=fun i=>if i=j then v else f i
structure RunP where
 pc:Nat
 regs:By
 deps:Nat→Nat
 control:Nat
 many:Nat
 ev:Nat→Ev
 data:Nat→Nat
 ctrl:Nat→Nat
 att:Nat→Nat
def u32 (n:Nat):Value:=.int .u32 (n:Int)
def RunP.cell (r:RunP) (i:Nat):Value:=
 if i < 1 then .int .i64 (r.pc:Int) else if i < 9 then b8 (r.regs (i - 1)) else if i < 17 then u32 (r.deps (i - 9)) else if i < 18 then u32 r.control else if i < 19 then .int .i64 (r.many:Int)
 else if i < 187 then (r.ev ((i - 19) / 7)).cell ((i - 19) % 7) else if i < 211 then u32 (r.data (i - 187)) else if i < 235 then u32 (r.ctrl (i - 211)) else u32 (r.att (i - 235))
def RunP.cells (r:RunP):List Value:=(List.range 259).map r.cell
def zRun:RunP:=⟨0,zb,fun _=>0,0,0,fun _=>zEv,fun _=>0,fun _=>0,fun _=>0⟩
def RunP.wPc (r:RunP) (n:Nat):RunP:={ r with pc:=n }
def RunP.wReg (r:RunP) (d:Nat) (v:UInt8):RunP:={ r with regs:=put r.regs d v }
def RunP.wDep (r:RunP) (d:Nat) (n:Nat):RunP:={ r with deps:=YO r.deps d n }
def RunP.wControl (r:RunP) (n:Nat):RunP:={ r with control:=n }
def RunP.wMany (r:RunP) (n:Nat):RunP:={ r with many:=n }
def RunP.wEv (r:RunP) (k:Nat) (e:Ev):RunP:={ r with ev:=YO r.ev k e }
def RunP.wData (r:RunP) (k:Nat) (n:Nat):RunP:={ r with data:=YO r.data k n }
def RunP.wCtrl (r:RunP) (k:Nat) (n:Nat):RunP:={ r with ctrl:=YO r.ctrl k n }
def RunP.wAtt (r:RunP) (k:Nat) (n:Nat):RunP:={ r with att:=YO r.att k n }
theorem RunP.len (r:RunP):r.cells.length=259:=by simp [RunP.cells]
theorem RunP.get (r:RunP) {i:Nat} (h:i < 259):r.cells[i]? = some (r.cell i):=by
 unfold RunP.cells
 rw [List.getElem?_map,List.getElem?_range h];rfl
theorem RunP.set_of (r r':RunP) {j:Nat} {v:Value} (h:∀ i,i < 259→r'.cell i=if i=j then v else r.cell i):r.cells.set j v=r'.cells:=by
 refine List.ext_getElem? fun i=>?_
 rcases Nat.lt_or_ge i 259 with hi | hi
 · rw [r'.get hi,h i hi,List.getElem?_set]
   by_cases e:j=i
   · subst e
     rw [if_pos rfl,if_pos rfl,if_pos (by rw [r.len];exact hi)]
   · rw [if_neg e,if_neg (Ne.symm e),r.get hi]
 · rw [List.getElem?_eq_none (by rw [List.length_set,r.len];exact hi),List.getElem?_eq_none (by rw [r'.len];exact hi)]
theorem Xan (r:RunP) (n:Nat):r.cells.set 0 (.int .i64 (n:Int))=(r.wPc n).cells:=r.set_of _ fun i hi=>by
 unfold RunP.wPc
 unfold RunP.cell
 by_cases e:i=0
 · subst e;rfl
 · have h1:¬ i < 1:=by omega
   rw [if_neg e]
   simp only [h1,if_false]
theorem XaZ (r:RunP) {d:Nat} (hd:d < 8) (v:UInt8):r.cells.set (1+d) (b8 v)=(r.wReg d v).cells:=r.set_of _ fun i hi=>by
 unfold RunP.wReg
 unfold RunP.cell
 by_cases e:i=1+d
 · subst e
   rw [if_pos rfl,if_neg (by omega),if_pos (by omega),show 1+d - 1=d by omega]
   show b8 (put r.regs d v d)=_
   unfold put;rw [if_pos rfl]
 · rw [if_neg e]
   by_cases h1:i < 1
   · rw [if_pos h1,if_pos h1]
   · rw [if_neg h1,if_neg h1]
     by_cases h2:i < 9
     · rw [if_pos h2,if_pos h2]
       show b8 (put r.regs d v (i - 1))=_
       unfold put;rw [if_neg (by omega)]
     · rw [if_neg h2,if_neg h2]
theorem Xa0 (r:RunP) {d:Nat} (hd:d < 8) (n:Nat):r.cells.set (9+d) (u32 n)=(r.wDep d n).cells:=r.set_of _ fun i hi=>by
 unfold RunP.wDep
 unfold RunP.cell
 by_cases e:i=9+d
 · subst e
   rw [if_pos rfl,if_neg (by omega),if_neg (by omega),if_pos (by omega),show 9+d - 9=d by omega]
   show u32 (YO r.deps d n d)=_
   unfold YO;rw [if_pos rfl]
 · rw [if_neg e]
   by_cases h1:i < 9
   · by_cases h0:i < 1
     · rw [if_pos h0,if_pos h0]
     · rw [if_neg h0,if_neg h0,if_pos h1,if_pos h1]
   · rw [if_neg (by omega),if_neg h1,if_neg (by omega:¬ i < 1),if_neg h1]
     by_cases h2:i < 17
     · rw [if_pos h2,if_pos h2]
       show u32 (YO r.deps d n (i - 9))=_
       unfold YO;rw [if_neg (by omega)]
     · rw [if_neg h2,if_neg h2]
theorem NT (r:RunP) (n:Nat):r.cells.set 17 (u32 n)=(r.wControl n).cells:=r.set_of _ fun i hi=>by
 unfold RunP.wControl
 unfold RunP.cell
 by_cases e:i=17
 · subst e;rfl
 · rw [if_neg e]
   by_cases h1:i < 17
   · simp only [h1,if_true]
   · have h2:¬ i < 18:=by omega
     have h3:¬ i < 1:=by omega
     have h4:¬ i < 9:=by omega
     simp only [h1,h2,h3,h4,if_false]
theorem B1 (r:RunP) (n:Nat):r.cells.set 18 (.int .i64 (n:Int))=(r.wMany n).cells:=r.set_of _ fun i hi=>by
 unfold RunP.wMany
 unfold RunP.cell
 by_cases e:i=18
 · subst e;rfl
 · rw [if_neg e]
   by_cases h1:i < 18
   · simp only [h1,if_true]
   · have h2:¬ i < 19:=by omega
     have h3:¬ i < 1:=by omega
     have h4:¬ i < 9:=by omega
     have h5:¬ i < 17:=by omega
     simp only [h1,h2,h3,h4,h5,if_false]
theorem Zv (r:RunP) {i:Nat} (h:19≤i):r.cell i=if i < 187 then (r.ev ((i - 19) / 7)).cell ((i - 19) % 7) else if i < 211 then u32 (r.data (i - 187)) else if i < 235 then u32 (r.ctrl (i - 211)) else u32 (r.att (i - 235)):=by
 unfold RunP.cell
 rw [if_neg (by omega),if_neg (by omega),if_neg (by omega),if_neg (by omega),if_neg (by omega)]
theorem Qr (r r':RunP) (h1:r'.pc=r.pc) (h2:r'.regs=r.regs) (h3:r'.deps=r.deps) (h4:r'.control=r.control) (h5:r'.many=r.many) {i:Nat} (h:i < 19):r'.cell i=r.cell i:=by
 unfold RunP.cell
 rw [h1,h2,h3,h4,h5]
 simp only [h,if_true]
theorem ML (r:RunP) {k:Nat} (hk:k < 24) (n:Nat):r.cells.set (187+k) (u32 n)=(r.wData k n).cells:=r.set_of _ fun i hi=>by
 unfold RunP.wData
 rcases Nat.lt_or_ge i 19 with h | h
 · rw [if_neg (by omega)];exact Qr r { r with data:=YO r.data k n } rfl rfl rfl rfl rfl h
 · rw [Zv _ h,Zv _ h]
   by_cases e:i=187+k
   · subst e
     rw [if_pos rfl,if_neg (by omega),if_pos (by omega),show 187+k - 187=k by omega]
     show u32 (YO r.data k n k)=_
     unfold YO;rw [if_pos rfl]
   · rw [if_neg e]
     by_cases h1:i < 187
     · rw [if_pos h1,if_pos h1]
     · rw [if_neg h1,if_neg h1]
       by_cases h2:i < 211
       · rw [if_pos h2,if_pos h2]
         show u32 (YO r.data k n (i - 187))=_
         unfold YO;rw [if_neg (by omega)]
       · rw [if_neg h2,if_neg h2]
theorem MM (r:RunP) {k:Nat} (hk:k < 24) (n:Nat):r.cells.set (211+k) (u32 n)=(r.wCtrl k n).cells:=r.set_of _ fun i hi=>by
 unfold RunP.wCtrl
 rcases Nat.lt_or_ge i 19 with h | h
 · rw [if_neg (by omega)];exact Qr r { r with ctrl:=YO r.ctrl k n } rfl rfl rfl rfl rfl h
 · rw [Zv _ h,Zv _ h]
   by_cases e:i=211+k
   · subst e
     rw [if_pos rfl,if_neg (by omega),if_neg (by omega),if_pos (by omega),show 211+k - 211=k by omega]
     show u32 (YO r.ctrl k n k)=_
     unfold YO;rw [if_pos rfl]
   · rw [if_neg e]
     by_cases h1:i < 187
     · rw [if_pos h1,if_pos h1]
     · rw [if_neg h1,if_neg h1]
       by_cases h2:i < 211
       · rw [if_pos h2,if_pos h2]
       · rw [if_neg h2,if_neg h2]
         by_cases h3:i < 235
         · rw [if_pos h3,if_pos h3]
           show u32 (YO r.ctrl k n (i - 211))=_
           unfold YO;rw [if_neg (by omega)]
         · rw [if_neg h3,if_neg h3]
theorem Xa1 (r:RunP) {k:Nat} (hk:k < 24) (n:Nat):r.cells.set (235+k) (u32 n)=(r.wAtt k n).cells:=r.set_of _ fun i hi=>by
 unfold RunP.wAtt
 rcases Nat.lt_or_ge i 19 with h | h
 · rw [if_neg (by omega)];exact Qr r { r with att:=YO r.att k n } rfl rfl rfl rfl rfl h
 · rw [Zv _ h,Zv _ h]
   by_cases e:i=235+k
   · subst e
     rw [if_pos rfl,if_neg (by omega),if_neg (by omega),if_neg (by omega),show 235+k - 235=k by omega]
     show u32 (YO r.att k n k)=_
     unfold YO;rw [if_pos rfl]
   · rw [if_neg e]
     by_cases h1:i < 187
     · rw [if_pos h1,if_pos h1]
     · rw [if_neg h1,if_neg h1]
       by_cases h2:i < 211
       · rw [if_pos h2,if_pos h2]
       · rw [if_neg h2,if_neg h2]
         by_cases h3:i < 235
         · rw [if_pos h3,if_pos h3]
         · rw [if_neg h3,if_neg h3]
           show u32 (YO r.att k n (i - 235))=_
           unfold YO;rw [if_neg (by omega)]
theorem Ev.cells_at (e:Ev) {i:Nat} (h:i < 7):e.cells[i]? = some (e.cell i):=by
 match i,h with
 | 0,_ | 1,_ | 2,_ | 3,_ | 4,_ | 5,_ | 6,_=>rfl
theorem Xcb (r:RunP) {k:Nat} (hk:k < 24) (e:Ev):Ya r.cells (19+k * 7) e.cells=(r.wEv k e).cells:=by
 unfold RunP.wEv
 have hl:e.cells.length=7:=rfl
 refine List.ext_getElem? fun i=>?_
 rcases Nat.lt_or_ge i 259 with hi | hi
 · have hL:19+k * 7+e.cells.length≤r.cells.length:=by rw [hl,r.len];omega
   rw [RunP.get _ hi,ZM _ _ _ _ hL,hl]
   rcases Nat.lt_or_ge i 19 with h | h
   · rw [if_neg (by omega),r.get hi]
     exact congrArg some (Qr r { r with ev:=YO r.ev k e } rfl rfl rfl rfl rfl h).symm
   · by_cases hc:19+k * 7≤i∧i < 19+k * 7+7
     · rw [if_pos hc,e.cells_at (by omega),Zv _ h,if_pos (by omega)]
       show _=some ((YO r.ev k e ((i - 19) / 7)).cell ((i - 19) % 7))
       rw [show (i - 19) / 7=k by omega,show (i - 19) % 7=i - (19+k * 7) by omega]
       unfold YO;rw [if_pos rfl]
     · rw [if_neg hc,r.get hi,Zv _ h,Zv _ h]
       by_cases h1:i < 187
       · rw [if_pos h1,if_pos h1]
         show _=some ((YO r.ev k e ((i - 19) / 7)).cell ((i - 19) % 7))
         unfold YO;rw [if_neg (by omega)]
       · rw [if_neg h1,if_neg h1]
 · rw [List.getElem?_eq_none (by rw [VR,RunP.len];exact hi),List.getElem?_eq_none (by rw [RunP.len];exact hi)]
def Yc (isR:Bool) (n:UInt8) (r:RunP):UInt8:=if isR=true then r.regs n.toNat else n
def XY (isR:Bool) (n:UInt8) (r:RunP):Nat:=if isR=true then r.deps n.toNat else 0
def setP (d v:UInt8) (n:Nat) (r:RunP):RunP:=(r.wReg d.toNat v).wDep d.toNat n
def Yy (kind loc val mode:UInt8) (n:Nat) (r:RunP):RunP:=
 (((r.wEv r.many ⟨kind,loc,val,mode,UInt8.ofNat r.pc,UInt8.ofNat r.many⟩).wData r.many n).wCtrl r.many r.control).wMany (r.many+1)
def Y3 (k:Nat):Nat:=2 ^ k
def QU (x:Ins) (v:UInt8) (r:RunP):RunP:=setP x.dst v (Y3 r.many) (Yy 1 x.loc v x.mode 0 r)
def Ge (x:Ins) (r:RunP):RunP:=Yy 2 x.loc (Yc x.aR x.aN r) x.mode (XY x.aR x.aN r) r
def Xbm (fn a b:UInt8):UInt8:=if fn=1 then a+b else if fn=2 then a - b else a ^^^ b
def Z2 (x:Ins) (r:RunP):RunP:=setP x.dst (Xbm x.fn (Yc x.aR x.aN r) (Yc x.bR x.bN r)) (XY x.aR x.aN r ||| XY x.bR x.bN r) r
def Zu (x:Ins) (old val:UInt8) (n:Nat) (r:RunP):RunP:=
 setP x.dst old (Y3 r.many) ((Yy 2 x.loc val 3 n (Yy 1 x.loc old 3 0 r)).wAtt (r.many+1) (Y3 r.many))
def NP (x:Ins) (v:UInt8) (r:RunP):RunP:=Zu x v (Yc x.aR x.aN r) (XY x.aR x.aN r) r
def Vo (x:Ins) (v:UInt8) (r:RunP):RunP:=
 (Zu x v (v+Yc x.aR x.aN r) (XY x.aR x.aN r) r).wData (r.many+1) ((Zu x v (v+Yc x.aR x.aN r) (XY x.aR x.aN r) r).data (r.many+1) ||| (Zu x v (v+Yc x.aR x.aN r) (XY x.aR x.aN r) r).att (r.many+1))
def Nl (x:Ins) (v:UInt8) (r:RunP):RunP:=
 if v ≠ Yc x.aR x.aN r then setP x.dst v (Y3 r.many) (Yy 1 x.loc v 3 0 r)
 else (Zu x v (Yc x.bR x.bN r) (XY x.bR x.bN r) r).wCtrl (r.many+1) ((Zu x v (Yc x.bR x.bN r) (XY x.bR x.bN r) r).ctrl (r.many+1) ||| ((Zu x v (Yc x.bR x.bN r) (XY x.bR x.bN r) r).att (r.many+1) ||| XY x.aR x.aN r))
def GJ (x:Ins) (r:RunP):RunP:=Yy 3 0 0 x.mode 0 r
def NQ (fn a b:UInt8):Bool:=if fn=4 then a == b else if fn=5 then a != b else decide (a < b)
def ZX (x:Ins) (r:RunP):RunP:=
 if NQ x.fn (Yc x.aR x.aN r) (Yc x.bR x.bN r)=true then (r.wControl (r.control ||| (XY x.aR x.aN r ||| XY x.bR x.bN r))).wPc (r.pc+x.skip.toNat) else r.wControl (r.control ||| (XY x.aR x.aN r ||| XY x.bR x.bN r))
def YX (x:Ins) (v:UInt8) (r:RunP):RunP:=
 if x.op=1 then QU x v r else if x.op=2 then Ge x r else if x.op=3 then Z2 x r else if x.op=4 then NP x v r else if x.op=5 then Vo x v r else if x.op=6 then Nl x v r else if x.op=7 then GJ x r else ZX x r
def X8 (x:Ins) (v:UInt8) (r:RunP):RunP:=(YX x v r).wPc ((YX x v r).pc+1)
-- PaA
open Go.Proofs.Tryz
open Go.RowKit
set_option maxRecDepth 100000
section
variable {P:Program} {t:TypeId} {x y:Operand} {n m:Nat}
theorem Um (n:Int):IntKind.u32.wrap n=n % 4294967296:=by simp [IntKind.wrap,IntKind.signed,IntKind.bits]
theorem Nu (hn:n < 4294967296) (hm:m < 4294967296):ZF P .or t x y (.int .u32 (n:Int)) (.int .u32 (m:Int)) (.int .u32 ((n ||| m:Nat):Int)):=fun w=>by
 have h:n ||| m < 2 ^ 32:=Nat.or_lt_two_pow hn hm
 simp only [eqGuard,binOp,Op.intBits,go_sem]
 show Result.ok (Value.int .u32 (IntKind.u32.wrap ((BitVec.ofInt 32 (n:Int) ||| BitVec.ofInt 32 (m:Int)).toNat:Int))) w=_
 have e1:(BitVec.ofInt 32 (n:Int) ||| BitVec.ofInt 32 (m:Int)).toNat=n ||| m:=by
   rw [BitVec.toNat_or,BitVec.ofInt_natCast,BitVec.ofInt_natCast,BitVec.toNat_ofNat,BitVec.toNat_ofNat,Nat.mod_eq_of_lt hn,Nat.mod_eq_of_lt hm]
 rw [e1,Um]
 have:((n ||| m:Nat):Int) % 4294967296=((n ||| m:Nat):Int):=by omega
 rw [this]
theorem Xaf (hn:n < 32):ZF P .shl t x y (.int .u32 1) (.int .i64 (n:Int)) (.int .u32 ((2 ^ n:Nat):Int)):=fun w=>by
 have h2:Op.shift .shl .u32 1 .i64 (n:Int)=pure (.int .u32 (IntKind.u32.wrap (1 * 2 ^ (n:Int).toNat))):=shift_shl .u32 .i64 1 (n:Int) (by omega) (by show (n:Int)≤32;omega)
 simp only [eqGuard_shl,binOp_shl,h2]
 show Result.ok (Value.int .u32 (IntKind.u32.wrap (1 * 2 ^ n))) w=_
 have h3:2 ^ n < 2 ^ 32:=Nat.pow_lt_pow_right (by decide) hn
 have e:IntKind.u32.wrap (1 * 2 ^ n)=((2 ^ n:Nat):Int):=by
   rw [Um,Int.one_mul]
   have:((2:Int) ^ n)=((2 ^ n:Nat):Int):=by simp
   rw [this]
   generalize 2 ^ n=k at h3 ⊢
   omega
 rw [e]
end
theorem Own.startRow {w:World} {b:Nat} {cs:List Value} {t:TypeId} (h:Blk w b cs t):Own w (some b) w [.blk b cs t] where
 grown:=YR w _
 pred:=fun i r hi=>by
   cases i with
   | zero=>cases hi;exact h
   | succ i=>simp at hi
 foot:=fun i r hi c hc=>by
   cases i with
   | zero=>
     cases hi
     have hc:c=b:=hc
     subst hc
     exact ⟨.inr rfl,(Array.getElem?_eq_some_iff.1 h).1⟩
   | succ i=>simp at hi
 apart:=fun i j r s hi hj hij=>by
   cases i with
   | zero=>cases j with
     | zero=>exact absurd rfl hij
     | succ j=>simp at hj
   | succ i=>simp at hi
theorem Lm (r:RunP) {d:Nat} (hd:d < 8):r.cells[1+d]? = some (b8 (r.regs d)):=by
 rw [r.get (by omega)]
 unfold RunP.cell
 rw [if_neg (by omega),if_pos (by omega),show 1+d - 1=d by omega]
theorem Xaa (r:RunP) {d:Nat} (hd:d < 8):r.cells[9+d]? = some (u32 (r.deps d)):=by
 rw [r.get (by omega)]
 unfold RunP.cell
 rw [if_neg (by omega),if_neg (by omega),if_pos (by omega),show 9+d - 9=d by omega]
theorem Zn (r:RunP):r.cells[0]? = some (.int .i64 (r.pc:Int)):=r.get (by decide)
theorem WX (r:RunP):r.cells[17]? = some (u32 r.control):=r.get (by decide)
theorem Ub (r:RunP):r.cells[18]? = some (.int .i64 (r.many:Int)):=r.get (by decide)
theorem Uc (r:RunP) {k:Nat} (hk:k < 24):r.cells[187+k]? = some (u32 (r.data k)):=by
 rw [r.get (by omega),Zv _ (by omega),if_neg (by omega),if_pos (by omega),show 187+k - 187=k by omega]
theorem Ud (r:RunP) {k:Nat} (hk:k < 24):r.cells[211+k]? = some (u32 (r.ctrl k)):=by
 rw [r.get (by omega),Zv _ (by omega),if_neg (by omega),if_neg (by omega),if_pos (by omega),show 211+k - 211=k by omega]
theorem U6 (r:RunP) {k:Nat} (hk:k < 24):r.cells[235+k]? = some (u32 (r.att k)):=by
 rw [r.get (by omega),Zv _ (by omega),if_neg (by omega),if_neg (by omega),if_neg (by omega),show 235+k - 235=k by omega]
def Wm (w:World) (b:Nat) (r:RunP):Prop:=Blk w b r.cells 71
theorem GW {w:World} {b:Nat} {cs:List Value} {t:TypeId} (h:Blk w b cs t):w.rangeAt b 0 cs:=by
 have:=h.range 0 cs.length
 rwa [List.drop_zero,List.take_length] at this
theorem Zg (b:Nat) (r:RunP) (isR:Bool) (n:UInt8) (w0:World) (hB:Wm w0 b r) (hn:isR=true→n.toNat < 8) :
   Calls Tryz.prog 98 #[.pointer (some ⟨b,0,none⟩),.agg #[.bool isR,Go.Proofs.YtagnefpgidbhnaaGreatDoor.b8 n]] w0 fun e w'=>e = .returned (.tuple #[Go.Proofs.YtagnefpgidbhnaaGreatDoor.b8 (Yc isR n r),u32 (XY isR n r)])∧Below w0.heap.size w0 w':=by
 have H:=Own.start w0 none
 have hW:w0.rangeAt b 0 r.cells:=GW hB
 refine XE func98 rfl ntmps98 rfl (fun a F=>?_);refine cSR fun K1 hK1=>?_;refine sBx H F rfl rfl rfl ?_;clear F a H;intro b3 a w F H;refine Xa F rfl (Xh rfl (qNK hK1 ?_));clear hK1;clear F a;intro a F;refine cSeq (fun K2 hK2=>?_);refine cSR fun K3 hK3=>Xi (f:=0) (k:=0) underlying59 rfl sizeOf4 rfl rfl F rfl (Xc isAgg4 rfl (H.cell 0 rfl rfl) (qNK hK3 ?_));clear hK3;clear F a;intro a F
 refine cIf F rfl (fun h7=>?_) (fun h7=>?_)
 ·
  have hn8:=hn h7
  refine cSeq (fun K4 hK4=>?_);refine cRegRO (by kernel_rfl) H ?_;replace H:=H.drew;refine Xt 0 rfl F rfl (fun w=>rMv F rfl) H qq0 (Xu 1 rfl rfl (fun a F w=>rFa (f:=1) (k:=1) underlying59 rfl sizeOf5 rfl rfl F rfl) H qq0 (Xz 2 rfl rfl rfl (fun a F w H=>rLd isAgg5 F rfl (H.cell 0 rfl rfl)) H qq0 (Xz 3 rfl rfl rfl (fun a F w H=>rNc F rfl) H qq0 (Xu 4 rfl rfl (fun a F w=>rFa (f:=1) (k:=1) underlying71 rfl sizeOf35 rfl rfl F rfl) H qq0 ?_))));clear F a;intro a F
  refine Xv (k:=5) (i:=5) rfl F rfl (fun w=>Dh underlying35 sizeOf5 F rfl rfl ?_) H (fun _ _ _ h=>h) ?_
  focus (omega)
  clear F a;intro a F;refine Xw 6 rfl F rfl rfl (fun w H=>rLd isAgg5 F rfl (H.arg (by have:=hW _ _ (Lm r hn8);simpa using this))) H qq0 (Xu 7 rfl rfl (fun a F w=>rMv F rfl) H qq0 (Xu 8 rfl rfl (fun a F w=>rFa (f:=1) (k:=1) underlying59 rfl sizeOf5 rfl rfl F rfl) H qq0 (Xz 9 rfl rfl rfl (fun a F w H=>rLd isAgg5 F rfl (H.cell 0 rfl rfl)) H qq0 (Xz 10 rfl rfl rfl (fun a F w H=>rNc F rfl) H qq0 (Xu 11 rfl rfl (fun a F w=>rFa (f:=2) (k:=9) underlying71 rfl sizeOf67 rfl rfl F rfl) H qq0 ?_)))));clear F a;intro a F
  refine Xv (k:=12) (i:=12) rfl F rfl (fun w=>Dh underlying67 sizeOf66 F rfl rfl ?_) H (fun _ _ _ h=>h) ?_
  focus (omega)
  clear F a;intro a F;refine Xw 13 rfl F rfl rfl (fun w H=>rLd isAgg66 F rfl (H.arg (by have:=hW _ _ (Xaa r hn8);simpa using this))) H qq0 (Xu 14 rfl rfl (fun a F w=>rAs F rfl) H qq0 (Xu 15 rfl rfl (fun a F w=>rAs F rfl) H qq0 ?_));clear F a;intro a F;refine eNil (k:=16) (by kernel_rfl) ?_;refine hK4 _ _ ?_;clear hK4;refine wp_ret ?_;simp only [Exit.then];refine Zo results98 F rfl rfl ?_
  (have e:isR=true:=h7
   refine ⟨?_,H.below⟩
   unfold Yc XY
   rw [if_pos e,if_pos e])
 refine wp_skip (hK2 _ _ (cSR fun K5 hK5=>Xi (f:=1) (k:=1) underlying59 rfl sizeOf5 rfl rfl F rfl (Xc isAgg5 rfl (H.cell 0 rfl rfl) (Xh rfl (Xh rfl (qNK hK5 ?_))))));clear hK2 hK5;clear F a;intro a F;refine wp_ret ?_;refine Zo results98 F rfl rfl ?_
 (have e:isR=false:=h7
  refine ⟨?_,H.below⟩
  unfold Yc XY
  rw [if_neg (by rw [e];decide),if_neg (by rw [e];decide)]
  rfl)
theorem W4 (b:Nat) (r:RunP) (d v:UInt8) (n:Nat) (w0:World) (hB:Wm w0 b r) (hd:d.toNat < 8) :
   Calls Tryz.prog 97 #[.pointer (some ⟨b,0,none⟩),Go.Proofs.YtagnefpgidbhnaaGreatDoor.b8 d,Go.Proofs.YtagnefpgidbhnaaGreatDoor.b8 v,u32 n] w0 fun e w'=>e = .returned (.tuple #[])∧Own w0 (some b) w' [.blk b (setP d v n r).cells 71]:=by
 have H:=Own.startRow hB
 refine XE func97 rfl ntmps97 rfl (fun a F=>?_);refine cSR fun K1 hK1=>Xl F rfl (Xd rfl (Xd rfl (Xk rfl (Xb (f:=1) (k:=1) underlying71 rfl sizeOf35 rfl rfl rfl ?_))));clear F a;intro a F
 refine Xcd underlying35 sizeOf5 F rfl rfl rfl rfl ?_ ?_
 focus (omega)
 clear F a;intro a F
 refine sSt H 0 sizeOf5 F rfl rfl rfl rfl rfl (List.getElem?_eq_getElem (by simp [RunP.len];omega)) ?_
 clear H;intro w H;refine nK hK1 (cReg (Xl F rfl (Xd rfl (Xd rfl (Xk rfl (Xb (f:=2) (k:=9) underlying71 rfl sizeOf67 rfl rfl rfl ?_))))));clear hK1;clear F a;intro a F
 refine Xcd underlying67 sizeOf66 F rfl rfl rfl rfl ?_ ?_
 focus (omega)
 clear F a;intro a F
 refine sSt H 0 sizeOf66 F rfl rfl rfl rfl rfl (List.getElem?_eq_getElem (by simp [RunP.len];omega)) ?_
 clear H;intro w H;refine sNil ?_;refine bEnd results97 F ?_
 exact ⟨rfl,by rw [XaZ r hd v,Xa0 _ hd n] at H;exact H⟩
theorem Vc (b:Nat) (r:RunP) (kind loc val mode:UInt8) (n:Nat) (w0:World) (hB:Wm w0 b r) (hm:r.many < 24) (hpc:r.pc < 256) :
   Calls Tryz.prog 96 #[.pointer (some ⟨b,0,none⟩),Go.Proofs.YtagnefpgidbhnaaGreatDoor.b8 kind,Go.Proofs.YtagnefpgidbhnaaGreatDoor.b8 loc,Go.Proofs.YtagnefpgidbhnaaGreatDoor.b8 val,Go.Proofs.YtagnefpgidbhnaaGreatDoor.b8 mode,u32 n] w0 fun e w'=>e = .returned (.int .i64 (r.many:Int))∧Own w0 (some b) w' [.blk b (Yy kind loc val mode n r).cells 71]:=by
 have H:=Own.startRow hB
 refine XE func96 rfl ntmps96 rfl (fun a F=>?_);refine cSR fun K1 hK1=>Xa F rfl (qNK hK1 (qSR fun K2 hK2=>Xd rfl (Xk rfl (Xb (f:=4) (k:=18) underlying71 rfl sizeOf3 rfl rfl rfl (Xc isAgg3 rfl (H.cell 0 rfl (Ub _)) (Xh rfl (qNK hK2 ?_)))))));clear hK1 hK2;clear F a;intro a F;refine cSeq (fun K3 hK3=>?_);refine cRegRO (by kernel_rfl) H ?_;replace H:=H.drew;refine Xt 0 rfl F rfl (fun w=>rMv F rfl) H qq0 (Xu 1 rfl rfl (fun a F w=>rMv F rfl) H qq0 (Xu 2 rfl rfl (fun a F w=>rMv F rfl) H qq0 (Xu 3 rfl rfl (fun a F w=>rMv F rfl) H qq0 (Xu 4 rfl rfl (fun a F w=>rMv F rfl) H qq0 (Xu 5 rfl rfl (fun a F w=>rMv F rfl) H qq0 (Xu 6 rfl rfl (fun a F w=>rMv F rfl) H qq0 (Xz 7 rfl rfl rfl (fun a F w H=>rNc F rfl) H qq0 (Xu 8 rfl rfl (fun a F w=>rFa (f:=0) (k:=0) underlying71 rfl sizeOf3 rfl rfl F rfl) H qq0 (Xz 9 rfl rfl rfl (fun a F w H=>rLd isAgg3 F rfl (H.cell 0 rfl (Zn _))) H qq0 (Xu 10 rfl rfl (fun a F w=>rCv underlying3 underlying5 F rfl (Vr _)) H qq0 (Xu 11 rfl rfl (fun a F w=>rMv F rfl) H qq0 (Xu 12 rfl rfl (fun a F w=>rCv underlying3 underlying5 F rfl (Vr _)) H qq0 (Xz 13 rfl rfl rfl (fun a F w H=>rBd (cs:=Ev.cells ⟨kind,loc,val,mode,UInt8.ofNat r.pc,UInt8.ofNat r.many⟩) (places:=[(0,1),(1,1),(2,1),(3,1),(4,1),(5,1),(6,1)]) zeroValue45 underlying45 (by kernel_rfl) F rfl rfl) H qq0 (Xz 14 rfl rfl rfl (fun a F w H=>rNc F rfl) H qq0 (Xu 15 rfl rfl (fun a F w=>rFa (f:=5) (k:=19) underlying71 rfl sizeOf68 rfl rfl F rfl) H qq0 ?_)))))))))))))));clear F a;intro a F
 refine Xv (k:=16) (i:=16) rfl F rfl (fun w=>rIa underlying68 sizeOf45 F rfl rfl ?_) H (fun _ _ _ h=>h) ?_
 focus (omega)
 clear F a;intro a F
 refine Xx (k:=17) (i:=17) rfl (by kernel_rfl) F (oSr H 0 ?si F rfl rfl ?s1 rfl (Nat.ble_eq_true_of_le (by rw [RunP.len];show 19+r.many * 7+7≤259;omega)) ?_)
 case si=>exact XC sizeOf45
 case s1=>rfl
 clear H;intro w H;rw [Xcb r hm ⟨kind,loc,val,mode,UInt8.ofNat r.pc,UInt8.ofNat r.many⟩] at H;refine XF (by kernel_rfl) H ?_;refine eNil (k:=18) (by kernel_rfl) ?_;refine hK3 _ _ (cSR fun K4 hK4=>Xl F rfl (Xd rfl (Xd rfl (Xk rfl (Xb (f:=6) (k:=187) underlying71 rfl sizeOf69 rfl rfl rfl ?_)))));clear hK3;clear F a;intro a F
 refine Xcd underlying69 sizeOf66 F rfl rfl rfl rfl ?_ ?_
 focus (omega)
 clear F a;intro a F;refine sSt H 0 sizeOf66 F rfl rfl rfl rfl rfl (Uc _ hm) ?_;clear H;intro w H;rw [ML _ hm] at H;refine nK hK4 ?_;clear hK4;refine cSeq (fun K5 hK5=>?_);refine cRegRO (by kernel_rfl) H ?_;replace H:=H.drew;refine Xt 0 rfl F rfl (fun w=>rMv F rfl) H qq0 (Xu 1 rfl rfl (fun a F w=>rMv F rfl) H qq0 (Xu 2 rfl rfl (fun a F w=>rMv F rfl) H qq0 (Xz 3 rfl rfl rfl (fun a F w H=>rNc F rfl) H qq0 (Xu 4 rfl rfl (fun a F w=>rFa (f:=3) (k:=17) underlying71 rfl sizeOf66 rfl rfl F rfl) H qq0 (Xz 5 rfl rfl rfl (fun a F w H=>rLd isAgg66 F rfl (show _=some (u32 r.control) from H.cell 0 rfl (WX _))) H qq0 (Xz 6 rfl rfl rfl (fun a F w H=>rNc F rfl) H qq0 (Xu 7 rfl rfl (fun a F w=>rFa (f:=7) (k:=211) underlying71 rfl sizeOf69 rfl rfl F rfl) H qq0 ?_)))))));clear F a;intro a F
 refine Xv (k:=8) (i:=8) rfl F rfl (fun w=>Dh underlying69 sizeOf66 F rfl rfl ?_) H (fun _ _ _ h=>h) ?_
 focus (omega)
 clear F a;intro a F;refine Xx (k:=9) (i:=9) rfl (by kernel_rfl) F (oSt H 0 sizeOf66 F rfl rfl rfl rfl (Ud _ hm) ?_);clear H;intro w H;rw [MM _ hm] at H;refine XF (by kernel_rfl) H ?_;refine eNil (k:=10) (by kernel_rfl) ?_;refine hK5 _ _ (cSR fun K6 hK6=>Xl F rfl (Xk rfl (Xb (f:=4) (k:=18) underlying71 rfl sizeOf3 rfl rfl rfl (Xc isAgg3 rfl (show _=some (Value.int .i64 (r.many:Int)) from H.cell 0 rfl (Ub _)) ?_))));clear hK5;clear F a;intro a F
 refine Xm F rfl rfl (Z9 ?_) ?_
 focus omega
 clear F a;intro a F;refine sNc F rfl rfl rfl (Xb (f:=4) (k:=18) underlying71 rfl sizeOf3 rfl rfl rfl ?_);clear F a;intro a F;refine sSt H 0 sizeOf3 F rfl rfl rfl rfl rfl rfl ?_;clear H;intro w H;refine nK hK6 (cSR fun K7 hK7=>Xl F rfl (Xh rfl (qNK hK7 ?_)));clear hK6 hK7;clear F a;intro a F;refine wp_ret ?_;refine bRet results96 F rfl ?_
 exact ⟨rfl,by rw [show ((r.many:Int)+1)=((r.many+1:Nat):Int) from rfl,B1] at H;exact H⟩
end
end Go.Proofs.YtagnefpgidbhnaaGreatDoor
