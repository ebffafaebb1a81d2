/-
  slices.Compact of outcomes; verdict.Sort. Conditions: at most 65536 of them.
-/
import Derived.Test.YtcpehikcegoojaaGreatDoorJn10
import Derived.Test.YtcpehikcegoojaaGreatDoorJn4
set_option linter.unusedSimpArgs false
set_option linter.unusedVariables false
namespace Go.Proofs.YtcpehikcegoojaaGreatDoor
-- RnM
open Go.Proofs.Tryz
open Go.RowKit
set_option maxRecDepth 100000
theorem Xfu {w0 w:World} {row:Option Nat} {rs:List Res} {e:TypeId} {n c gb j:Nat} {arr:List By} {u:By} (H:Own w0 row w rs) (i:Nat) (hi:rs[i]? = some (.rws e 38 (.slice (some ⟨gb,0,none⟩) n c) (arr.map (bs 38)))) (hj:arr[j]? = some u) {o:Nat} (ho:o=j * 38):w.rangeAt gb o (bs 38 u):=by
 obtain ⟨b,off,h1,h2⟩:=H.rowsAt i hi (Ld arr) (by decide) j (bs 38 u) (by rw [List.getElem?_map,hj];rfl)
 simp only [Option.some.injEq,Addr.mk.injEq] at h1
 obtain ⟨rfl,rfl,_⟩:=h1
 rw [ho]
 rwa [Nat.zero_add] at h2
theorem XbJ {w0:World} {e:TypeId} {sz n c gb:Nat} {rows:List (List Value)} (hw:w0.ownsRow 0 e sz (.slice (some ⟨gb,0,none⟩) n c) rows.length rows.flatten):Own w0 (some gb) w0 [.rws e sz (.slice (some ⟨gb,0,none⟩) n c) rows] where
 grown:=Q9 _ _
 pred:=fun i r h=>by
   cases i with
   | zero=>cases h;exact hw
   | succ i=>simp at h
 foot:=fun i r h b hb=>by
   cases i with
   | zero=>
     cases h
     have hb:Value.ownBlock (.slice (some ⟨gb,0,none⟩) n c)=some b:=hb
     have hb2:=hb
     simp only [Value.ownBlock,Option.some.injEq] at hb
     subst hb
     exact ⟨.inr rfl,(hw.lt _ hb2).2⟩
   | succ i=>simp at h
 apart:=fun i j r s hi hj hij=>by
   have:i=0:=by have:=(List.getElem?_eq_some_iff.1 hi).1;simpa using this
   have:j=0:=by have:=(List.getElem?_eq_some_iff.1 hj).1;simpa using this
   omega
theorem Lv (n:Nat) (f g:By):same n f g=same n g f:=by
 rw [Bool.eq_iff_iff,same_iff,same_iff]
 exact ⟨fun h i hi=>(h i hi).symm,fun h i hi=>(h i hi).symm⟩
def tl (l:List By):List (List UInt8):=l.map (toL 38)
theorem Xao {l:List By} {j:Nat} {u:By} (h:l[j]? = some u):tl (l.take (j+1))=tl (l.take j)++[toL 38 u]:=by
 unfold tl
 rw [List.take_add_one,h,List.map_append];rfl
theorem XiW {l:List By} {j:Nat} {u:By} (h1:1≤j) (h:l[j - 1]? = some u):(tl (l.take j)).getLast? = some (toL 38 u):=by
 obtain ⟨j,rfl⟩:∃ i,j=i+1:=⟨j - 1,by omega⟩
 have h:l[j]? = some u:=h
 rw [Xao h];simp
theorem Xfh {l:List By} {j:Nat} {u v:By} (h1:1≤j) (hv:l[j - 1]? = some v) (hu:l[j]? = some u):JQ (tl (l.take (j+1)))=if toL 38 v=toL 38 u then JQ (tl (l.take j)) else JQ (tl (l.take j))++[toL 38 u]:=by
 rw [Xao hu,DO (XiW h1 hv)]
theorem Xhe {l:List By} (h:l.length < 2):tl l=JQ (tl l):=by
 match l,h with
 | [],_=>rfl
 | [_],_=>rfl
theorem Xdv (gb c:Nat) (l:List By) (hl:l.length≤65536) (w0:World) (hw:w0.ownsRow 0 34 38 (.slice (some ⟨gb,0,none⟩) l.length c) (l.map (bs 38)).length (l.map (bs 38)).flatten) :
   Calls Tryz.prog 53 #[.slice (some ⟨gb,0,none⟩) l.length c] w0 fun e w'=>∃ l2:List By,tl l2=JQ (tl l)∧e = .returned (.slice (some ⟨gb,0,none⟩) l2.length c)∧Own w0 (some gb) w' [.rws 34 38 (.slice (some ⟨gb,0,none⟩) l2.length c) (l2.map (bs 38))]:=by
 have H:=XbJ hw
 refine JF func53 rfl ntmps53 rfl (fun a F=>?_);refine cSR fun K1 hK1=>Xa F rfl (qNK hK1 ?_);clear hK1;clear F a;intro a F;refine JD (fun K2 hK2=>?_);refine cSR fun K3 hK3=>Xf F rfl (Xx XU rfl (Xe rfl rfl QF (qNK hK3 ?_)));clear hK3;clear F a;intro a F
 refine cIf F rfl (fun h8=>?_) (fun h8=>?_)
 ·
  replace h8:=of_decide_eq_true h8;refine cSR fun K4 hK4=>Xf F rfl (Xd rfl (qNK hK4 ?_));clear hK4;clear F a;intro a F;refine wp_ret ?_;simp only [Exit.then];refine JI results53 F rfl ?_
  exact ⟨l,Xhe (by omega),rfl,H.pick 0 rfl⟩
 replace h8:=of_decide_eq_false h8;refine wp_skip (hK2 _ _ ?_);clear hK2;refine JD (fun K5 hK5=>?_);refine cSR fun K6 hK6=>Xa F rfl (qNK hK6 ?_);clear hK6;clear F a;intro a F;refine wp_block ?_
 refine JN [0] (fun m ups w=>∃ k:Nat,m=l.length - k∧ups=[(3,.int .i64 ((k:Nat):Int))]∧1≤k∧k≤l.length∧JQ (tl (l.take k))=tl (l.take k)∧Own w0 (some gb) w [.rws 34 38 (.slice (some ⟨gb,0,none⟩) l.length c) (l.map (bs 38))]) F (l.length - 1) [(3,.int .i64 ((1:Nat):Int))] ?_ ?_
 · exact ⟨1,rfl,rfl,by omega,by omega,(by match l with | []=>rfl | _ :: _=>rfl),H.sel [0] rfl rfl⟩
 clear F
 clear H
 intro m ups a w hI F
 obtain ⟨k,rfl,rfl,hk1,hkn,hcm,H⟩:=hI
 have hlc:=(H.rwsLen 0 rfl).2.1
 refine JD (fun K7 hK7=>?_);refine cSR fun K8 hK8=>Xf F rfl (Xh rfl (Xx XU rfl (Xe rfl rfl QF (qNK hK8 ?_))));clear hK8;clear F a;intro a F
 refine cIf F rfl (fun h13=>?_) (fun h13=>?_)
 ·
  replace h13:=of_decide_eq_true h13
  have hkl:k < l.length:=by omega
  obtain ⟨u,hu⟩:∃ u,l[k]? = some u:=⟨_,List.getElem?_eq_getElem hkl⟩
  obtain ⟨v,hv⟩:∃ v,l[k - 1]? = some v:=⟨_,List.getElem?_eq_getElem (by omega)⟩
  have hst:=Xfh hk1 hv hu
  refine wp_skip (hK7 _ _ ?_);clear hK7;refine JD (fun K9 hK9=>?_);refine wp_block ?_;refine JD (fun K10 hK10=>?_);refine B6 (by kernel_rfl) H ?_;replace H:=H.drew;refine XD F rfl (fun w H=>rMv F rfl) H qq0 (XE rfl (fun a F w H=>rMv F rfl) H qq0 ?_);clear F a;intro a F
  refine XD (k:=2) F rfl (fun w H=>rIx XU X0 F rfl rfl ?_) H (fun _ _ _ h=>h) ?_
  focus exact hkl
  clear F a;intro a F;refine XD F rfl (fun w H=>Nt X5 rfl X0 F rfl (Xfu H 0 rfl hu (by omega))) H qq0 (XE rfl (fun a F w H=>rMv F rfl) H qq0 (XE rfl (fun a F w H=>rMv F rfl) H qq0 ?_));clear F a;intro a F
  refine XD (k:=6) F rfl (fun w H=>Q0 F rfl rfl (Es (j:=1) ?_ ?_)) H (fun _ _ _ h=>h) ?_
  focus omega
  focus omega
  clear F a;intro a F
  refine XD (k:=7) F rfl (fun w H=>rIx XU X0 F rfl rfl ?_) H (fun _ _ _ h=>h) ?_
  focus omega
  clear F a;intro a F;refine XD F rfl (fun w H=>Nt X5 rfl X0 F rfl (Xfu H 0 rfl hv (by omega))) H qq0 (XE rfl (fun a F w H=>Q0 F rfl rfl (XjT Xky Xkr rfl)) H qq0 ?_);clear F a;intro a F
  refine Xe5 (k:=10) ?_ rfl
  refine hK10 _ _ ?_;clear hK10
  refine cIf F rfl (fun h25=>?_) (fun h25=>?_)
  ·
   have heq:toL 38 v=toL 38 u:=by rw [toL_eq,Lv];exact h25
   refine cSR fun K11 hK11=>Xf F rfl (Xh rfl ?_);clear F a;intro a F
   refine sSlL XU X0 F rfl rfl rfl rfl ?_ ?_ ?_
   focus (omega)
   focus (omega)
   clear F a;intro a F;refine Xa F rfl (qNK hK11 ?_);clear hK11;clear F a;intro a F;refine JD (fun K12 hK12=>?_);refine cSR fun K13 hK13=>Xa F rfl (qNK hK13 ?_);clear hK13;clear F a;intro a F;refine wp_block ?_
   refine JN [0,4] (fun m ups w=>∃ (q kk:Nat) (arr:List By),m=l.length - (k+q)∧ups=[(3,.int .i64 ((kk:Nat):Int)),(5,.int .i64 ((q:Nat):Int))]∧1≤q∧k+q≤l.length∧1≤kk∧kk+1≤k+q∧arr.length=l.length∧tl (arr.take kk)=JQ (tl (l.take (k+q)))∧(∀ t,kk≤t→arr[t]? = l[t]?)∧Own w0 (some gb) w [.rws 34 38 (.slice (some ⟨gb,0,none⟩) l.length c) (arr.map (bs 38))]) F (l.length - (k+1)) [(3,.int .i64 ((k:Nat):Int)),(5,.int .i64 ((1:Nat):Int))] ?_ ?_
   · exact ⟨1,k,l,rfl,rfl,by omega,by omega,by omega,by omega,rfl,(by rw [hst,if_pos heq,hcm]),fun _ _=>rfl,H.sel [0] rfl rfl⟩
   clear F
   clear H
   intro m ups a w hI F
   obtain ⟨q,kk,arr,rfl,rfl,hq1,hqn,hkk1,hkk,har,htl,hup,H⟩:=hI
   refine JD (fun K14 hK14=>?_);refine cSR fun K15 hK15=>Xf F rfl (Xh rfl (Xx XU rfl (Xe rfl rfl QF (qNK hK15 ?_))));clear hK15;clear F a;intro a F
   refine cIf F rfl (fun h32=>?_) (fun h32=>?_)
   ·
    replace h32:=of_decide_eq_true h32
    have hql:k+q < l.length:=by omega
    obtain ⟨x,hx⟩:∃ x,l[k+q]? = some x:=⟨_,List.getElem?_eq_getElem hql⟩
    obtain ⟨y,hy⟩:∃ y,l[k+q - 1]? = some y:=⟨_,List.getElem?_eq_getElem (by omega)⟩
    have hst2:=Xfh (by omega) hy hx
    have hx2:arr[k+q]? = some x:=by rw [hup _ (by omega)];exact hx
    have hy2:arr[k+q - 1]? = some y:=by rw [hup _ (by omega)];exact hy
    refine wp_skip (hK14 _ _ ?_);clear hK14;refine JD (fun K16 hK16=>?_);refine wp_block ?_;refine JD (fun K17 hK17=>?_);refine B6 (by kernel_rfl) H ?_;replace H:=H.drew;refine XD F rfl (fun w H=>rMv F rfl) H qq0 (XE rfl (fun a F w H=>rMv F rfl) H qq0 ?_);clear F a;intro a F
    refine XD (k:=2) F rfl (fun w H=>rIx XU X0 F rfl rfl ?_) H (fun _ _ _ h=>h) ?_
    focus omega
    clear F a;intro a F;refine XD F rfl (fun w H=>Nt X5 rfl X0 F rfl (Xfu H 0 rfl hx2 (by omega))) H qq0 (XE rfl (fun a F w H=>rMv F rfl) H qq0 (XE rfl (fun a F w H=>rMv F rfl) H qq0 ?_));clear F a;intro a F
    refine XD (k:=6) F rfl (fun w H=>Q0 F rfl rfl (Es (j:=1) ?_ ?_)) H (fun _ _ _ h=>h) ?_
    focus omega
    focus omega
    clear F a;intro a F
    refine XD (k:=7) F rfl (fun w H=>rIx XU X0 F rfl rfl ?_) H (fun _ _ _ h=>h) ?_
    focus omega
    clear F a;intro a F;refine XD F rfl (fun w H=>Nt X5 rfl X0 F rfl (Xfu H 0 rfl hy2 (by omega))) H qq0 (XE rfl (fun a F w H=>Q0 F rfl rfl (XjD Xky Xkr rfl)) H qq0 ?_);clear F a;intro a F
    refine Xe5 (k:=10) ?_ rfl
    refine hK17 _ _ ?_;clear hK17
    refine cIf F rfl (fun h44=>?_) (fun h44=>?_)
    ·
     replace h44:=N1 h44;refine cSR fun K18 hK18=>Xf F rfl (Xh rfl (Xh rfl (Xh rfl ?_)));clear F a;intro a F
     refine sIx XU X0 F rfl rfl rfl rfl ?_ ?_
     focus omega
     clear F a;intro a F;refine Xs X5 rfl X0 F rfl (Xfu H 0 rfl hx2 (by omega)) ?_;clear F a;intro a F
     refine sIx XU X0 F rfl rfl rfl rfl ?_ ?_
     focus omega
     clear F a;intro a F;refine sStR H 0 X0 F rfl rfl rfl (rfl) ((show _=kk * 38 by omega)) ((by rw [List.length_map];omega)) (Ld arr) (bs_length _ _) (Xa6 [x] (bs 38 x) (by simp)) ?_;clear H;intro w H;rw [← List.map_set] at H;refine nK hK18 (JY (Xf F rfl ?_));clear hK18;clear F a;intro a F
     refine Xg F rfl rfl (JJ (j:=1) ?_) ?_
     focus omega
     clear F a;intro a F;refine Xa F rfl (qNK hK16 (Ef (Xh rfl ?_)));clear hK16;clear F a;intro a F
     refine Xg F rfl rfl (JJ (j:=1) ?_) ?_
     focus omega
     clear F a;intro a F;refine Xa F rfl ?_;clear F a;intro a F;refine J4 ?_
     (have hne:¬ toL 38 y=toL 38 x:=fun he=>by
       rw [toL_eq,Lv] at he
       exact absurd he (by simpa using h44)
      exact ⟨_,by omega,_,⟨q+1,kk+1,arr.set kk x,rfl,rfl,by omega,by omega,by omega,by omega,(by rw [List.length_set];exact har),(by
       rw [show k+(q+1)=k+q+1 by omega,hst2,if_neg hne,← htl]
       rw [Xao (u:=x) (by rw [List.getElem?_set,if_pos rfl,if_pos (by omega)]),List.take_set_of_le (Nat.le_refl _)]),fun t ht=>(by rw [List.getElem?_set,if_neg (by omega)];exact hup t (by omega)),H.sel [0] rfl rfl⟩,F.tt⟩)
    replace h44:=N2 h44;refine wp_skip (hK16 _ _ (JY (Xf F rfl ?_)));clear hK16;clear F a;intro a F
    refine Xg F rfl rfl (JJ (j:=1) ?_) ?_
    focus omega
    clear F a;intro a F;refine Xa F rfl ?_;clear F a;intro a F;refine J4 ?_
    (have heq2:toL 38 y=toL 38 x:=by
      rw [toL_eq,Lv];simpa using h44
     exact ⟨_,by omega,_,⟨q+1,kk,arr,rfl,rfl,by omega,by omega,by omega,by omega,har,(by rw [show k+(q+1)=k+q+1 by omega,hst2,if_pos heq2];exact htl),hup,H.sel [0] rfl rfl⟩,F.tt⟩)
   replace h32:=of_decide_eq_false h32
   have hqe:k+q=l.length:=by omega
   refine wp_exit ?_;refine hK12 _ _ (cSR fun K19 hK19=>Xf F rfl (Xh rfl ?_));clear hK12;clear F a;intro a F
   refine sSlL XU X0 F rfl rfl rfl rfl ?_ ?_ ?_
   focus (omega)
   focus (omega)
   clear F a;intro a F;refine sClr H 0 XU YZ rfl rfl F rfl rfl rfl ((show _=kk * 38 by omega)) ((by omega)) (Ld arr) ?_;clear H;intro w H;refine nK hK19 (cSR fun K20 hK20=>Xf F rfl (Xh rfl ?_));clear hK19;clear F a;intro a F
   refine sSlH XU (fun w=>⟨_,X0 w⟩) F rfl rfl rfl rfl ?_ ?_
   focus (omega)
   clear F a;intro a F;refine Xa F rfl (qNK hK20 ?_);clear hK20;clear F a;intro a F;refine wp_ret ?_;refine xI ?_;refine JI results53 F rfl ?_
   (rw [← List.map_take] at H
    have el:(arr.take kk).length=kk:=by rw [List.length_take];omega
    have et:l.take (k+q)=l:=List.take_of_length_le (by omega)
    rw [et] at htl
    exact ⟨arr.take kk,htl,by rw [el],by rw [el];exact H.pick 0 rfl⟩)
  refine wp_skip (hK9 _ _ (JY (Xf F rfl ?_)));clear hK9;clear F a;intro a F
  refine Xg F rfl rfl (JJ (j:=1) ?_) ?_
  focus omega
  clear F a;intro a F;refine Xa F rfl ?_;clear F a;intro a F;refine J4 ?_
  (have hne:¬ toL 38 v=toL 38 u:=fun he=>by
    rw [toL_eq,Lv] at he
    rw [h25] at he;cases he
   exact ⟨_,by omega,_,⟨k+1,rfl,rfl,by omega,by omega,(by rw [hst,if_neg hne,hcm,Xao hu]),H.sel [0] rfl rfl⟩,F.tt⟩)
 replace h13:=of_decide_eq_false h13;refine wp_exit ?_;refine hK5 _ _ (cSR fun K21 hK21=>Xf F rfl (Xd rfl (qNK hK21 ?_)));clear hK5 hK21;clear F a;intro a F;refine wp_ret ?_;refine JI results53 F rfl ?_
 (obtain rfl:k=l.length:=by omega
  rw [List.take_length] at hcm
  exact ⟨l,hcm.symm,rfl,H.pick 0 rfl⟩)
theorem Cy (l:List By):(tl l).length=l.length:=List.length_map _
theorem B4:∀ l:List (List UInt8),(JQ l).length≤l.length
 | []=>Nat.le_refl _
 | [_]=>Nat.le_refl _
 | a :: b :: r=>by
   have:=B4 (b :: r)
   rw [JQ]
   split
   · simp only [List.length_cons] at this ⊢;omega
   · simp only [List.length_cons] at this ⊢;omega
theorem Xdu {w0 w:World} {row:Option Nat} {rs:List Res} {A:Option Addr} {c:Nat} {l:List By} (H:Own w0 row w rs) (i:Nat) (hi:rs[i]? = some (.rws 34 38 (.slice A l.length c) (l.map (bs 38)))) (hn:l.length≤65536) (h0:l ≠ []) :
   Calls Tryz.prog 53 #[.slice A l.length c] w fun e w'=>∃ l2:List By,tl l2=JQ (tl l)∧e = .returned (.slice A l2.length c)∧Own w0 row w' (rs.set i (.rws 34 38 (.slice A l2.length c) (l2.map (bs 38)))):=by
 have hw:w.ownsRow 0 34 38 (.slice A l.length c) (l.map (bs 38)).length (l.map (bs 38)).flatten:=H.pred i _ hi
 have hw2:=hw
 rw [List.length_map] at hw2
 obtain ⟨_,⟨h1,h2⟩ | ⟨g,cap,cur,h1,_,hg,_⟩⟩:=hw2
 · exact absurd (List.eq_nil_of_length_eq_zero h2) h0
 · have hA:A=some ⟨g,0,none⟩:=by simp only [Value.slice.injEq] at h1;exact h1.1
   subst hA;refine (Xdv g c l hn w hw).mono ?_;rintro e w' ⟨l2,h3,rfl,H2⟩
   exact ⟨l2,h3,rfl,Bl H i hi H2.grown (H2.pred 0 _ rfl)⟩
theorem Xhk (A:Option Addr) (C:Nat) (l:List By) (w0:World) (hR:RowsAt w0 A 38 (l.map (bs 38))) (hl:l.length≤65536) (h0:l ≠ []) :
   Calls Tryz.prog 25 #[.slice A l.length C] w0 fun e w'=>∃ (A2:Option Addr) (c2:Nat) (l2:List By),e = .returned (.slice A2 l2.length c2)∧l2.length≤l.length∧MO (tl l2)∧(∀ x,x ∈ tl l2 ↔ x ∈ tl l)∧Own w0 none w' [.rws 34 38 (.slice A2 l2.length c2) (l2.map (bs 38))]:=by
 have H:=Own.start w0 none
 refine JF func25 rfl ntmps25 rfl (fun a F=>?_);refine cSR fun K1 hK1=>Xa F rfl (qNK hK1 (qSR fun K2 hK2=>Xh rfl ?_));clear hK1;clear F a;intro a F;refine sBs H Y1 sizeOf43 zeroValue43 rfl F rfl rfl rfl rfl rfl ?_;clear F a H;intro b5 a w F H;refine Xu call50 F rfl (XeU b5 0 1 A C l _ (H.whole 0 rfl) (hR.own H) hl) ?_;rintro e w ⟨A1,c1,rfl,H2⟩;replace H:=H.join H2;clear H2;refine ⟨_,rfl,?_⟩;clear F a;intro a F;refine Xa F rfl (qNK hK2 (qSR fun K3 hK3=>Xh rfl ?_));clear hK2;clear F a;intro a F;refine Xu call51 F rfl (Xhj H 0 rfl hl h0) ?_;rintro e w ⟨rfl,l',hl',hm',hp',H2⟩
 replace H:=H2;clear H2;rw [hl'] at H
 refine ⟨_,rfl,?_⟩;clear F a;intro a F;refine nK hK3 (cSR fun K4 hK4=>Xf F rfl ?_);clear hK3;clear F a;intro a F;refine Xu call53 F rfl ((by have:=Xdu (l:=l') H 0 (by rw [hl'];rfl) (by omega) (by intro e;rw [e] at hl';exact h0 (List.eq_nil_of_length_eq_zero hl'.symm));rw [hl'] at this;exact this)) ?_;rintro e w ⟨l2,h2,rfl,H2⟩
 replace H:=H2;clear H2
 refine ⟨_,rfl,?_⟩;clear F a;intro a F;refine Xa F rfl (qNK hK4 ?_);clear hK4;clear F a;intro a F;refine wp_ret ?_;refine JI results25 F rfl ?_
 have hris:MO (tl l2):=by
  rw [h2]
  exact L2 (by unfold tl;rw [List.pairwise_map];exact hp')
 have hmem:∀ x,x ∈ tl l2 ↔ x ∈ tl l:=fun x=>by
  rw [h2,Eo]
  unfold tl
  rw [List.mem_map,List.mem_map]
  exact ⟨fun ⟨y,hy,e⟩=>⟨y,(hm' y).1 hy,e⟩,fun ⟨y,hy,e⟩=>⟨y,(hm' y).2 hy,e⟩⟩
 have hle:l2.length≤l.length:=by
  have:=B4 (tl l')
  rw [← h2,Cy,Cy] at this
  omega
 exact ⟨A1,c1,l2,rfl,hle,hris,hmem,H.pick 0 rfl⟩
-- RnA
open Go.Proofs.Tryz
open Go.RowKit
set_option maxRecDepth 100000
theorem kT30:CkT Tryz.prog 2 30 8 true:=XeW (D:=1) (n:=1) (m:=8) X9 XH XJ (fun _=>rfl) (XeV (P:=Tryz.prog) XO)
theorem kT52:CkT Tryz.prog 3 52 9 true:=Xa4 (D:=2) XK ⟨by kernel_rfl,⟨1,false,XH,XJ,fun _=>rfl,by decide,((XeV (P:=Tryz.prog) XO)).up 1⟩,by kernel_rfl,⟨8,true,X1,isAgg30,fun h=>(by cases h),by decide,(kT30).up 0⟩,trivial⟩
theorem kT53:CkT Tryz.prog 4 53 36 true:=XeW (D:=3) (n:=9) (m:=4) XW XN isAgg52 (fun h=>(by cases h)) kT52
theorem kT32:CkT Tryz.prog 2 32 6 true:=XeW (D:=1) (n:=1) (m:=6) Yj XH XJ (fun _=>rfl) (XeV (P:=Tryz.prog) XO)
theorem kT55:CkT Tryz.prog 2 55 2 true:=Xa4 (D:=1) XQ ⟨by kernel_rfl,⟨1,false,XH,XJ,fun _=>rfl,by decide,((XeV (P:=Tryz.prog) XO)).up 0⟩,by kernel_rfl,⟨1,false,XH,XJ,fun _=>rfl,by decide,((XeV (P:=Tryz.prog) XO)).up 0⟩,trivial⟩
theorem kT56:CkT Tryz.prog 3 56 24 true:=XeW (D:=2) (n:=2) (m:=12) X2 XS isAgg55 (fun h=>(by cases h)) kT55
theorem kT57:CkT Tryz.prog 4 57 96 true:=XeW (D:=3) (n:=24) (m:=4) XZ Yi isAgg56 (fun h=>(by cases h)) kT56
theorem kT58:CkT Tryz.prog 2 58 4 true:=XeW (D:=1) (n:=1) (m:=4) X8 XH XJ (fun _=>rfl) (XeV (P:=Tryz.prog) XO)
theorem kT60:CkT Tryz.prog 5 60 142 true:=Xa4 (D:=4) XG ⟨by kernel_rfl,⟨36,true,Yc,isAgg53,fun h=>(by cases h),by decide,(kT53).up 0⟩,by kernel_rfl,⟨6,true,Yg,isAgg32,fun h=>(by cases h),by decide,(kT32).up 2⟩,by kernel_rfl,⟨96,true,Yb,isAgg57,fun h=>(by cases h),by decide,(kT57).up 0⟩,by kernel_rfl,⟨4,true,Yh,isAgg58,fun h=>(by cases h),by decide,(kT58).up 2⟩,trivial⟩
theorem kyS:KeyS Tryz.prog 60 142:=keyS XG eT60 rfl kT60 rfl
def lkC (q:Int × Pss):List Value:=[.int .i64 q.1,b8 q.2.t,.bool q.2.d,b8 q.2.l]
def enC (k:Nat):List Value:=[.int .i64 (k:Int)]
theorem Own.blkRws {w0 w:World} {row:Option Nat} {rs:List Res} (H:Own w0 row w rs) (i:Nat) {b n sz:Nat} {cs:List Value} {e:TypeId} (rows:List (List Value)) (hi:rs[i]? = some (.blk b cs e)) (hr:rows.flatten=cs) (hn:rows.length=n) (hl:cs.length=n * sz) (hm:n≤maxLen) :
   Own w0 row w (rs.set i (.rws e sz (.slice (some ⟨b,0,.none⟩) n n) rows)):=by
 have hB:=H.blk i hi
 refine H.turn i hi _ H.grown (Nat.le_refl _) (fun _ _ _=>rfl) ?_ (fun c hc=>?_)
 · show w.ownsRow 0 e sz _ rows.length rows.flatten
   rw [hr,hn]
   refine ⟨hl,.inr ⟨b,n,cs.toArray,rfl,Nat.zero_le _,hB,Nat.le_refl _,hm,by simpa using hl,?_⟩⟩
   rw [← hl];simp
 · have:b=c:=by simpa [Res.rws,Res.arr,Value.ownBlock] using hc
   subst this
   exact ⟨.inl rfl,(H.foot i _ hi b rfl).2⟩
def Xks (A1 A2 A3:Option Addr) (c1 c2 c3:Nat) (a:Fnd):List Res:=[.rws 60 142 (.slice A1 a.list.length c1) (a.list.map (bs 142)),.rws 122 4 (.slice A2 a.links.length c2) (a.links.map lkC),.rws 3 1 (.slice A3 a.ends.length c3) (a.ends.map enC)]
def fo (o:Option Fnd):Fnd:=o.getD ⟨[],[],[]⟩
def Xef (o:Option Fnd) (v:Value) (w0:World) (e:Ending) (w':World):Prop:=∃ A1 c1 A2 c2 A3 c3,e = .returned (.tuple #[.agg #[.slice A1 (fo o).list.length c1,.slice A2 (fo o).links.length c2,.slice A3 (fo o).ends.length c3],v])∧Own w0 none w' (Xks A1 A2 A3 c1 c2 c3 (fo o))
theorem XaX {w0 w:World} {rs:List Res} {v:Value} (H:Own w0 none w rs):Xef none v w0 (.returned (.tuple #[.agg #[.slice none 0 0,.slice none 0 0,.slice none 0 0],v])) w:=
 ⟨none,0,none,0,none,0,rfl,(((H.none.nilRws 3 1).nilRws 122 4).nilRws 60 142)⟩
theorem My (l:List By):∀ r ∈ l.map (bs 142),r.length=142:=fun r hr=>by
 obtain ⟨s,_,rfl⟩:=List.mem_map.1 hr
 exact bs_length _ _
set_option maxHeartbeats 4000000 in
theorem Xde (p:Prg) (mc:UInt8) (mst:Nat) (fm fs:Value) (w0:World) (hp:JH p=0) (hk:QS mc=true) (h1:1≤mst) (h2:mst≤65536)
   (hMv:∀ (w:World),w0.grownBy w none→∀ s,Fine p mc s→L4 Tryz.prog fm [.agg (bs 142 s).toArray] w (fun e w'=>∃ A c,e = .returned (.slice A (JG p mc s).length c)∧Own w none w' [.rws 73 3 (.slice A (JG p mc s).length c) ((JG p mc s).map Pss.cells)]))
   (hSt:∀ (w:World),w0.grownBy w none→∀ s x,Fine p mc s→x ∈ JG p mc s→L4 Tryz.prog fs [.agg (bs 142 s).toArray,.agg x.cells.toArray] w (fun e w'=>e = .returned (.agg (bs 142 (J5 p mc s x)).toArray)∧Below w.heap.size w w')) :
   Calls Tryz.prog 45 #[.agg (bs 142 (Qr p)).toArray,.int .i64 (mst:Int),fm,fs] w0 fun e w'=>Xef (QX p mc mst) (.bool (QX p mc mst).isSome) w0 e w':=by
 have H:=Own.start w0 none
 refine JF func45 rfl ntmps45 rfl (fun a F=>?_);refine cSR fun K1 hK1=>?_;refine Mg H F rfl rfl rfl ?_;clear F a H;intro b4 a w F H;refine sAl H YT F rfl rfl ?_;clear F a H;intro b8 a w F H;refine Xa F rfl (qNK hK1 (qSR fun K2 hK2=>Nu XG rfl XL rfl rfl rfl (H.whole 1 rfl) ?_));clear hK1;clear F a;intro a F;refine Cf H YK XL zeroValue60 rfl F rfl rfl rfl rfl rfl ?_;clear F a H;intro b18 a w F H;refine sBd (cs:=[.int .i64 (-1),YtcpehikcegoojaaGreatDoor.b8 0,.bool false,YtcpehikcegoojaaGreatDoor.b8 0]) (places:=[(0,1),(1,3)]) Zj underlying122 (by kernel_rfl) F rfl rfl rfl rfl ?_;clear F a;intro a F;refine Cf H underlying80 sizeOf122 Zj rfl F rfl rfl rfl rfl rfl ?_;clear F a H;intro b20 a w F H;refine sBd (cs:=[.slice (some ⟨b18,0,none⟩) 1 1,.slice (some ⟨b20,0,none⟩) 1 1,.slice none 0 0]) (places:=[(0,1),(1,1),(2,1)]) YT Yf (by kernel_rfl) F rfl rfl rfl rfl ?_;clear F a;intro a F;refine sAl H YT F rfl rfl ?_;clear F a H;intro b10 a w F H
 refine sSr H 0 ?si F rfl rfl rfl ?s1 rfl rfl ?_
 case si=>exact Jz Yq
 case s1=>rfl
 clear H;intro w H;refine nK hK2 (cSR fun K3 hK3=>?_);clear hK2;refine sMkS 142 H F rfl rfl ?_;clear F a H;intro b22 a w F H;refine Xs XG rfl XL F rfl (H.whole 5 rfl) ?_;clear F a;intro a F;refine sInsS H 0 underlying136 kyS F rfl rfl rfl rfl rfl (rfl) ?_;clear H;intro w H;refine Xf F rfl (Xd rfl (qNK hK3 ?_));clear hK3;clear F a;intro a F;refine JD (fun K4 hK4=>?_);refine cSR fun K5 hK5=>Xa F rfl (qNK hK5 ?_);clear hK5;clear F a;intro a F;refine wp_block ?_
 replace H:=(((H.blkRws 3 (n:=1) (sz:=142) [bs 142 (Qr p)] rfl rfl rfl rfl (by decide)).blkRws 2 (n:=1) (sz:=4) [lkC (-1,⟨0,false,0⟩)] rfl rfl rfl rfl (by decide)).nilRws 3 1)
 refine JN [1,2,3,8,10,11] (fun m ups w=>∃ (k:Nat) (fd:Fnd) (A1:Option Addr) (c1:Nat) (A2:Option Addr) (c2:Nat) (A3:Option Addr) (c3:Nat),m=mst+1 - k∧ups=[(12,.int .i64 ((k:Nat):Int))]∧FndI p mc mst k fd∧QX p mc mst=Qa p mc mst (mst+1 - k) k fd∧Own w0 none w [.mpS b22 142 fd.list,.blk b10 [.slice A1 fd.list.length c1,.slice A2 fd.links.length c2,.slice A3 fd.ends.length c3] 83,.rws 60 142 (.slice A1 fd.list.length c1) (fd.list.map (bs 142)),.rws 122 4 (.slice A2 fd.links.length c2) (fd.links.map lkC),.rws 3 1 (.slice A3 fd.ends.length c3) (fd.ends.map enC),.blk b8 [.slice none 0 0,.slice none 0 0,.slice none 0 0] 83,.blk b4 (bs 142 (Qr p)) 60]) F (mst+1) [(12,.int .i64 ((0:Nat):Int))] ?_ ?_
 · exact ⟨0,EW p,_,_,_,_,none,0,rfl,rfl,BM hp hk h1,rfl,H.sel [0+1,1+1,3+1,2+1,0,4+1,5+1] rfl rfl⟩
 clear F
 clear H
 intro m ups a w hI F
 obtain ⟨k,fd,A1,c1,A2,c2,A3,c3,rfl,rfl,hI1,hreach,H⟩:=hI
 have hmany:=hI1.many
 have hkle:=hI1.kle
 refine JD (fun K6 hK6=>?_);refine cSR fun K7 hK7=>Xf F rfl (Xr (f:=0) (k:=0) Yf rfl Y8 rfl rfl rfl (Xc isAgg39 rfl (H.cell 1 rfl rfl) (Xx YK rfl (Xe rfl rfl QF (qNK hK7 ?_)))));clear hK7;clear F a;intro a F
 refine cIf F rfl (fun h29=>?_) (fun h29=>?_)
 ·
  replace h29:=of_decide_eq_true h29
  have hkl:k < fd.list.length:=by omega
  obtain ⟨s,hs⟩:∃ s,fd.list[k]? = some s:=⟨_,List.getElem?_eq_getElem hkl⟩
  have hF:=hI1.fine s (List.mem_of_getElem? hs)
  obtain ⟨bS,oS,rfl,_⟩:=H.rowsAt 2 rfl (My _) (by decide) k (bs 142 s) (by rw [List.getElem?_map,hs];rfl)
  refine wp_skip (hK6 _ _ ?_);clear hK6;refine JD (fun K8 hK8=>?_);refine wp_block ?_;refine cSR fun K9 hK9=>Xf F rfl (Xr (f:=0) (k:=0) Yf rfl Y8 rfl rfl rfl (Xc isAgg39 rfl (H.cell 1 rfl rfl) (Xh rfl ?_)));clear F a;intro a F
  refine sIx YK XL F rfl rfl rfl rfl ?_ ?_
  focus exact hkl
  clear F a;intro a F
  refine Xs XG rfl XL F rfl (by obtain ⟨b',o',g1,g2⟩:=H.rowsAt 2 rfl (My _) (by decide) k (bs 142 s) (by rw [List.getElem?_map,hs];rfl);cases g1;exact g2) ?_;clear F a;intro a F
  refine XdO F rfl rfl rfl rfl ((hMv _ H.grown s hF)) ?_;rintro e w ⟨AM,cM,rfl,H2⟩;replace H:=H.join H2;clear H2;refine ⟨_,rfl,?_⟩;clear F a;intro a F;refine Xa F rfl (qNK hK9 ?_);clear hK9;clear F a;intro a F
  refine Mx [1,2,3,8,10,11,12,13] (fun ups w=>∃ (A4:Option Addr) (c4:Nat) (en:List Nat),ups=[]∧en=(if JG p mc s=[] then fd.ends++[k] else fd.ends)∧Own w0 none w [.rws 73 3 (.slice AM (JG p mc s).length cM) ((JG p mc s).map Pss.cells),.mpS b22 142 fd.list,.blk b10 [.slice (some ⟨bS,oS,none⟩) fd.list.length c1,.slice A2 fd.links.length c2,.slice A4 en.length c4] 83,.rws 60 142 (.slice (some ⟨bS,oS,none⟩) fd.list.length c1) (fd.list.map (bs 142)),.rws 122 4 (.slice A2 fd.links.length c2) (fd.links.map lkC),.rws 3 1 (.slice A4 en.length c4) (en.map enC),.blk b8 [.slice none 0 0,.slice none 0 0,.slice none 0 0] 83,.blk b4 (bs 142 (Qr p)) 60]) F ?_ ?_
  ·
   refine cSR fun K10 hK10=>Xf F rfl (Xx XX rfl (Xe rfl rfl Mp (qNK hK10 ?_)));clear hK10;clear F a;intro a F
   refine cIf F rfl (fun h41=>?_) (fun h41=>?_)
   ·
    replace h41:=J1 h41
    have he:JG p mc s=[]:=List.eq_nil_of_length_eq_zero (by omega)
    refine JY (Xb (f:=2) (k:=2) Yf rfl sizeOf81 rfl rfl F rfl (Xc isAgg81 rfl (H.cell 2 rfl rfl) (Xh rfl ?_)));clear F a;intro a F;refine sBs1 H YU YW zeroValue3 rfl F rfl rfl rfl rfl ?_;clear F a H;intro b45 a w F H
    refine Mq (bytes:=8) H 6 YU typeInfo3 rfl rfl rfl rfl rfl rfl F rfl rfl rfl rfl rfl (H.whole 0 rfl) rfl ?s1 ?s2 ?_
    case s1=>rfl
    case s2=>(rw [List.length_map];have:=hI1.ends ▸ List.length_filter_le (fun i=>match fd.list[i]? with | some s=>(JG p mc s).isEmpty | none=>false) (List.range k);rw [List.length_range] at this;omega)
    clear F a H;intro A46 c46 a w F H;refine Xb (f:=2) (k:=2) Yf rfl sizeOf81 rfl rfl F rfl ?_;clear F a;intro a F;refine sSt H 3 sizeOf81 F rfl rfl rfl rfl rfl rfl ?_;clear H;intro w H;refine J4 ?_
    (have e2:fd.ends.map enC++[[Value.int .i64 (k:Int)]]=(fd.ends++[k]).map enC:=by rw [List.map_append];rfl
     have e3:(fd.ends.map enC++[[Value.int .i64 (k:Int)]]).length=(fd.ends++[k]).length:=by rw [e2,List.length_map]
     refine ⟨_,⟨A46,c46,fd.ends++[k],rfl,(if_pos he).symm,?_⟩,F.tt⟩
     have H3:=H.sel [1,2,3,4,5,6,7,8] rfl rfl
     rw [← e2,← e3]
     exact H3)
   replace h41:=J2 h41
   have he:JG p mc s ≠ []:=fun h0=>by rw [h0] at h41;exact h41 rfl
   refine wp_skip ?_
   exact ⟨_,⟨A3,c3,fd.ends,rfl,(if_neg he).symm,H.sel [0,1,2,3,4,5,6,7] rfl rfl⟩,F.tt⟩
  clear F H
  intro ups a w hI F
  obtain ⟨A4,c4,en,rfl,hen,H⟩:=hI
  refine cSR fun K11 hK11=>Xf F rfl (Xx XX rfl (Xh rfl (qNK hK11 ?_)));clear hK11;clear F a;intro a F;refine wp_block ?_
  refine JN [1,2,3,8,10,11,12,48,49] (fun m ups w=>∃ (i:Nat) (l:List By) (q:List (Int × Pss)) (A1:Option Addr) (c1:Nat) (A2:Option Addr) (c2:Nat),m=(JG p mc s).length - i∧ups=[(50,.int .i64 ((i:Nat):Int))]∧i≤(JG p mc s).length∧VisI p mc mst k s fd.list ((JG p mc s).take i) l q∧Qd p mc mst k s (JG p mc s) fd.list fd.links=Qd p mc mst k s ((JG p mc s).drop i) l q∧Own w0 none w [.rws 73 3 (.slice AM (JG p mc s).length cM) ((JG p mc s).map Pss.cells),.mpS b22 142 l,.blk b10 [.slice A1 l.length c1,.slice A2 q.length c2,.slice A4 en.length c4] 83,.rws 60 142 (.slice A1 l.length c1) (l.map (bs 142)),.rws 122 4 (.slice A2 q.length c2) (q.map lkC),.rws 3 1 (.slice A4 en.length c4) (en.map enC),.blk b8 [.slice none 0 0,.slice none 0 0,.slice none 0 0] 83,.blk b4 (bs 142 (Qr p)) 60]) F ((JG p mc s).length) [(50,.int .i64 ((0:Nat):Int))] ?_ ?_
  · exact ⟨0,fd.list,fd.links,_,_,_,_,rfl,rfl,by omega,Bk hI1 hs,rfl,H.sel [0,1,2,3,4,5,6,7] rfl rfl⟩
  clear F
  clear H
  intro m ups a w hI F
  obtain ⟨i,l,q,A5,c5,A6,c6,rfl,rfl,hi,hV,hvis,H⟩:=hI
  have hml:=(H.rwsLen 0 rfl).2
  simp only [maxLen] at hml
  have hlm:=hV.many
  have hll:=hV.len
  refine cSR fun K12 hK12=>Xg F rfl rfl QF (qNK hK12 ?_);clear hK12;clear F a;intro a F;refine JD (fun K13 hK13=>?_)
  refine cIf F rfl (fun h51=>?_) (fun h51=>?_)
  ·
   replace h51:=of_decide_eq_true h51
   have hil:i < (JG p mc s).length:=by omega
   obtain ⟨x,hx⟩:∃ x,(JG p mc s)[i]? = some x:=⟨_,List.getElem?_eq_getElem hil⟩
   have hxm:x ∈ JG p mc s:=List.mem_of_getElem? hx
   have hdr:(JG p mc s).drop i=x :: (JG p mc s).drop (i+1):=by
    obtain ⟨hj,rfl⟩:=List.getElem?_eq_some_iff.1 hx
    exact List.drop_eq_getElem_cons hj
   have htk:(JG p mc s).take (i+1)=(JG p mc s).take i++[x]:=by rw [List.take_add_one,hx];rfl
   rw [hdr] at hvis
   obtain ⟨bM,oM,rfl,_⟩:=H.rowsAt 0 rfl (Xax _) (by decide) _ _ (by rw [List.getElem?_map,hx];rfl)
   obtain ⟨bS2,oS2,rfl,_⟩:=H.rowsAt 3 rfl (My _) (by decide) k (bs 142 s) (by rw [List.getElem?_map,hV.here];rfl)
   have hkl2:k < l.length:=(List.getElem?_eq_some_iff.1 hV.here).1
   refine wp_skip (hK13 _ _ ?_);clear hK13;refine JD (fun K14 hK14=>?_);refine wp_block ?_;refine cSR fun K15 hK15=>?_
   refine sIx XX Yd F rfl rfl rfl rfl ?_ ?_
   focus (omega)
   clear F a;intro a F
   refine Xw X6 rfl ?si F rfl (by obtain ⟨b',o',g1,g2⟩:=H.rowsAt 0 rfl (Xax _) (by decide) _ _ (by rw [List.getElem?_map,hx];rfl);cases g1;exact g2) ?_
   case si=>exact Jz Yd
   clear F a;intro a F;refine sAl H Ym F rfl rfl ?_;clear F a H;intro b15 a w F H
   refine sSr H 0 ?si F rfl rfl rfl ?s1 rfl rfl ?_
   case si=>exact Jz Yd
   case s1=>rfl
   clear H;intro w H;refine nK hK15 ?_;clear hK15;refine JD (fun K16 hK16=>?_);refine Xi H ?_;replace H:=H.drew;refine Xj 0 rfl F rfl (fun w=>rMv F rfl) H qq0 (Xm 1 rfl rfl (fun a F w=>rFa (f:=0) (k:=0) Yf rfl Y8 rfl rfl F rfl) H qq0 (Xl 2 rfl rfl rfl (fun a F w H=>rLd isAgg39 F rfl (H.cell 3 rfl rfl)) H qq0 (Xm 3 rfl rfl (fun a F w=>rMv F rfl) H qq0 ?_)));clear F a;intro a F
   refine Xq (k:=4) (i:=4) rfl F rfl (fun w=>rIx YK XL F rfl rfl ?_) H (fun _ _ _ h=>h) ?_
   focus exact hkl2
   clear F a;intro a F
   refine Xk (k:=5) (i:=5) rfl F rfl rfl (fun w H=>Nt XG rfl XL F rfl (by obtain ⟨b',o',g1,g2⟩:=H.rowsAt 4 rfl (My _) (by decide) k (bs 142 s) (by rw [List.getElem?_map,hV.here];rfl);cases g1;exact g2)) H (fun _ _ _ h=>h) ?_;clear F a;intro a F
   refine Xk (k:=6) (i:=6) rfl F rfl rfl (fun w H=>rLr X6 rfl ?si F rfl (H.whole 0 rfl)) H (fun _ _ _ h=>h) ?_
   case si=>exact Jz Yd
   clear F a;intro a F
   refine XaZ F H [1,2,3,8,10,11,12,15,48,49,50] 9 [true,true,true,true,true,true,true,true,true,false] (fun rs ups w=>∃ b16,ups=[(61,.agg (bs 142 (J5 p mc s x)).toArray),(16,.pointer (some ⟨b16,0,none⟩))]∧Own w0 none w ((.blk b16 (bs 142 zb) 60) :: rs)) (by repeat (first | exact SubR.nil | (apply SubR.cons;· rfl))) ?_ (fun hJ=>?_)
   rotate_left
   ·
    refine Xdl (k:=7) (i:=7) (j:=8) (by kernel_rfl) F rfl rfl rfl rfl ?_ ?_
    ·
     refine XfU F rfl rfl rfl ((hSt _ H.grown s x hF hxm)) (gG H ?_);clear F a H;intro a w F H;refine JR H ?_;refine Xn (k:=8) (i:=8) rfl F (Cj H N3 F rfl ?_);clear F a H;intro b16 a w F H;refine JR H.tail ?_
     exact eGo hJ (by kernel_rfl) _ ⟨b16,rfl,H.sel [0,1,2,3,4,5,6,7,8,9] rfl rfl⟩ F.tt
    refine Cj H N3 F rfl ?_;clear F a H;intro b16 a w F H;refine JR H.tail ?_;refine Xn (k:=8) (i:=7) rfl F (XfU F rfl rfl rfl ((hSt _ H.grown s x hF hxm)) (gG H ?_));clear F a H;intro a w F H;refine JR H.tail ?_
    exact eGo hJ (by kernel_rfl) _ ⟨b16,rfl,H.sel [0,1,2,3,4,5,6,7,8,9] rfl rfl⟩ F.tt
   clear F H;intro ups a w hI F
   obtain ⟨b16,rfl,H⟩:=hI
   refine Xn (k:=9) (i:=9) rfl F (DV H 0 XL F rfl rfl rfl (by omega) ?_);clear H;intro w H;rw [JE] at H;refine Xo H ?_;refine Xp (k:=10) ?_;refine hK16 _ _ ?_;clear hK16;refine JD (fun K17 hK17=>?_);refine cSR fun K18 hK18=>Xf F rfl (Nu XG rfl XL rfl rfl rfl (H.whole 0 rfl) (qLkS H 3 underlying136 kyS (fun w=>rfl) rfl rfl rfl rfl rfl (qNK hK18 ?_)));clear hK18;clear F a;intro a F
   refine cIf F rfl (fun h64=>?_) (fun h64=>?_)
   ·
    refine wp_exit ?_;refine hK14 _ _ (JY ?_);clear hK14
    refine Xg F rfl rfl (JJ (j:=1) ?_) ?_
    focus omega
    clear F a;intro a F;refine Xf F rfl ?_;clear F a;intro a F;refine J4 ?_
    exact ⟨_,by omega,_,⟨i+1,l,q,_,_,_,_,rfl,rfl,by omega,htk ▸ Xir hV hxm h64,hvis.trans (Xbm h64),H.sel [2,3,4,5,6,7,8,9] rfl rfl⟩,F.tt⟩
   refine wp_skip (hK17 _ _ ?_);clear hK17;refine JD (fun K19 hK19=>?_);refine cSR fun K20 hK20=>Xb (f:=0) (k:=0) Yf rfl Y8 rfl rfl F rfl (Xc isAgg39 rfl (H.cell 4 rfl rfl) (Xx YK rfl (Xh rfl (Xe rfl rfl Cb (qNK hK20 ?_)))));clear hK20;clear F a;intro a F
   refine cIf F rfl (fun h69=>?_) (fun h69=>?_)
   ·
    replace h69:=of_decide_eq_true h69
    have hno:QX p mc mst=none:=by
     rw [hreach,show mst+1 - k=(mst - k)+1 by omega]
     exact Xbv hs (hvis.trans (Bi h64 (by omega)))
    refine cSR fun K21 hK21=>sBd (cs:=[.slice none 0 0,.slice none 0 0,.slice none 0 0]) (places:=[(0,1),(1,1),(2,1)]) YT Yf (by kernel_rfl) F rfl rfl rfl rfl ?_;clear F a;intro a F
    refine sSr H 8 ?si F rfl rfl rfl ?s1 rfl rfl ?_
    case si=>exact Jz Yq
    case s1=>rfl
    clear H;intro w H;refine Xa F rfl (qNK hK21 ?_);clear hK21;clear F a;intro a F;refine wp_ret ?_;refine xI ?_;refine E3 results45 F rfl rfl Yf rfl H 8 rfl Yq rfl ?_
    (rw [hno]
     exact XaX H)
   replace h69:=of_decide_eq_false h69;refine wp_skip (hK19 _ _ (cSR fun K22 hK22=>Xf F rfl (Nu XG rfl XL rfl rfl rfl (H.whole 0 rfl) ?_)));clear hK19;clear F a;intro a F;refine sUpdS H 3 underlying136 kyS F rfl rfl rfl rfl rfl (h64) ?_;clear H;intro w H;refine nK hK22 (cSR fun K23 hK23=>Xb (f:=0) (k:=0) Yf rfl Y8 rfl rfl F rfl (Xc isAgg39 rfl (H.cell 4 rfl rfl) (Nu XG rfl XL rfl rfl rfl (H.whole 0 rfl) ?_)));clear hK22;clear F a;intro a F;refine Cf H YK XL zeroValue60 rfl F rfl rfl rfl rfl rfl ?_;clear F a H;intro b76 a w F H
   refine Mq (bytes:=142) H 6 YK typeInfo60 rfl rfl rfl rfl rfl rfl F rfl rfl rfl rfl rfl (H.whole 0 rfl) rfl ?s1 ?s2 ?_
   case s1=>rfl
   case s2=>(rw [List.length_map];omega)
   clear F a H;intro A77 c77 a w F H;refine Xb (f:=0) (k:=0) Yf rfl Y8 rfl rfl F rfl ?_;clear F a;intro a F;refine sSt H 5 Y8 F rfl rfl rfl rfl rfl rfl ?_;clear H;intro w H;refine nK hK23 (JY (Xb (f:=1) (k:=1) Yf rfl sizeOf80 rfl rfl F rfl (Xc isAgg80 rfl (H.cell 5 rfl rfl) (Xh rfl ?_))));clear hK23;clear F a;intro a F
   refine Xw X6 rfl ?si F rfl (H.whole 2 rfl) ?_
   case si=>exact Jz Yd
   clear F a;intro a F;refine sBd (cs:=[.int .i64 (k:Int),YtcpehikcegoojaaGreatDoor.b8 x.t,.bool x.d,YtcpehikcegoojaaGreatDoor.b8 x.l]) (places:=[(0,1),(1,3)]) Zj underlying122 (by kernel_rfl) F rfl rfl rfl rfl ?_;clear F a;intro a F;refine Cf H underlying80 sizeOf122 Zj rfl F rfl rfl rfl rfl rfl ?_;clear F a H;intro b84 a w F H
   refine Mq (bytes:=16) H 8 underlying80 typeInfo122 rfl rfl rfl rfl rfl rfl F rfl rfl rfl rfl rfl (H.whole 0 rfl) rfl ?s1 ?s2 ?_
   case s1=>rfl
   case s2=>(rw [List.length_map];omega)
   clear F a H;intro A85 c85 a w F H;refine Xb (f:=1) (k:=1) Yf rfl sizeOf80 rfl rfl F rfl ?_;clear F a;intro a F;refine sSt H 6 sizeOf80 F rfl rfl rfl rfl rfl rfl ?_;clear H;intro w H;refine nK hK14 (JY ?_);clear hK14
   refine Xg F rfl rfl (JJ (j:=1) ?_) ?_
   focus omega
   clear F a;intro a F;refine Xf F rfl ?_;clear F a;intro a F;refine J4 ?_
   (have e2:l.map (bs 142)++[bs 142 (J5 p mc s x)]=(l++[J5 p mc s x]).map (bs 142):=by rw [List.map_append];rfl
    have e3:(l.map (bs 142)++[bs 142 (J5 p mc s x)]).length=(l++[J5 p mc s x]).length:=by rw [e2,List.length_map]
    have e4:q.map lkC++[[Value.int .i64 (k:Int),YtcpehikcegoojaaGreatDoor.b8 x.t,.bool x.d,YtcpehikcegoojaaGreatDoor.b8 x.l]]=(q++[((k:Int),x)]).map lkC:=by rw [List.map_append];rfl
    have e5:(q.map lkC++[[Value.int .i64 (k:Int),YtcpehikcegoojaaGreatDoor.b8 x.t,.bool x.d,YtcpehikcegoojaaGreatDoor.b8 x.l]]).length=(q++[((k:Int),x)]).length:=by rw [e4,List.length_map]
    refine ⟨_,by omega,_,⟨i+1,l++[J5 p mc s x],q++[((k:Int),x)],A77,c77,A85,c85,rfl,rfl,by omega,htk ▸ Xfc hV hxm h64 (by omega),hvis.trans (Cq h64 (by omega)),?_⟩,F.tt⟩
    have H3:=H.sel [4,5,6,7,8,9,10,11] rfl rfl
    rw [← e2,← e3,← e4,← e5]
    exact H3)
  replace h51:=of_decide_eq_false h51
  obtain rfl:i=(JG p mc s).length:=by omega
  rw [List.drop_length] at hvis
  have hvis:Qd p mc mst k s (JG p mc s) fd.list fd.links=some (l,q):=hvis
  refine wp_exit ?_;refine hK8 _ _ (JY (Xf F rfl ?_));clear hK8;clear F a;intro a F
  refine Xg F rfl rfl (JJ (j:=1) ?_) ?_
  focus omega
  clear F a;intro a F;refine Xa F rfl ?_;clear F a;intro a F;refine J4 ?_;subst hen
  exact ⟨_,by omega,_,⟨k+1,⟨l,q,_⟩,A5,c5,A6,c6,A4,c4,rfl,rfl,Ea hI1 hs hvis,hreach.trans (by rw [show mst+1 - k=(mst+1 - (k+1))+1 by omega];exact Xbw hs hvis),H.sel [1,2,3,4,5,6,7] rfl rfl⟩,F.tt⟩
 replace h29:=of_decide_eq_false h29;refine wp_exit ?_;refine hK4 _ _ (cSR fun K24 hK24=>?_);clear hK4
 refine Xw Yf rfl ?si F rfl (H.whole 1 rfl) ?_
 case si=>exact Jz Yq
 clear F a;intro a F
 refine sSr H 5 ?si F rfl rfl rfl ?s1 rfl rfl ?_
 case si=>exact Jz Yq
 case s1=>rfl
 clear H;intro w H;refine Xa F rfl (qNK hK24 ?_);clear hK24;clear F a;intro a F;refine wp_ret ?_;refine E3 results45 F rfl rfl Yf rfl H 5 rfl Yq rfl ?_
 (rw [hreach,CI (by omega)]
  exact ⟨_,_,_,_,_,_,rfl,H.sel [2,3,4] rfl rfl⟩)
-- RnB
open Go.Proofs.Tryz
open Go.RowKit
set_option maxRecDepth 100000
def NX (p:Prg):Prg:={ p with name:=⟨#[97]⟩,ask:=1,cond:=.mk 0 0 0 0 [] }
theorem DK (p:Prg) (m:UInt8) (s:By):∀ n,QZ (NX p) m s n=QZ p m s n
 | 0=>rfl
 | n+1=>by rw [QZ,QZ,DK p m s n];rfl
theorem XbE (p:Prg) (m:UInt8) (s:By):JG (NX p) m s=JG p m s:=DK p m s _
theorem Eg (p:Prg) (m:UInt8) (most k:Nat) (s:By):∀ r l q,Qd (NX p) m most k s r l q=Qd p m most k s r l q
 | [],_,_=>rfl
 | x :: r,l,q=>by
   rw [Qd,Qd,Eg p m most k s r,Eg p m most k s r]
   rfl
theorem DJ (p:Prg) (m:UInt8) (most:Nat):∀ f k a,Qa (NX p) m most f k a=Qa p m most f k a
 | 0,_,_=>rfl
 | f+1,k,a=>by
   rw [Qa,Qa]
   cases a.list[k]? with
   | none=>rfl
   | some s=>
     simp only [XbE,Eg]
     cases Qd p m most k s (JG p m s) a.list a.links with
     | none=>rfl
     | some lq=>exact DJ p m most f (k+1) _
theorem BA (p:Prg) (m:UInt8) (most:Nat):QX (NX p) m most=QX p m most:=DJ p m most _ _ _
theorem Xa0 {p:Prg} (h:∀ i,i < 6→Q6 p i=true):JH p=0:=by
 unfold JH
 simp [QH,h]
theorem XkM:QC ⟨#[97]⟩=true:=by kernel_rfl
theorem XcT {p:Prg} (h:JH p=0):JH (NX p)=0:=Xa0 fun i hi=>by
 have h1:=Ng h 1 (by omega)
 have h2:=Ng h 2 (by omega)
 have h3:=Ng h 3 (by omega)
 rcases (by omega:i=0∨i=1∨i=2∨i=3∨i=4∨i=5) with e | e | e | e | e | e <;> rw [e]
 · rw [Q6];exact XkM
 · rw [Q6] at h1 ⊢;exact h1
 · rw [Q6] at h2 ⊢;exact h2
 · rw [Q6] at h3 ⊢;exact h3
 · rw [Q6];rfl
 · rw [Q6];rfl
def MW (p:Prg) (m:UInt8) (n:Int):Prop:=QS m=true∧1≤n∧n≤65536∧JH p=0
instance (p:Prg) (m:UInt8) (n:Int):Decidable (MW p m n):=by unfold MW;infer_instance
def J7 (p:Prg) (m:UInt8) (n:Int):Option Fnd:=if MW p m n then QX p m n.toNat else none
def J8 (p:Prg) (m:UInt8) (n:Int):Int:=if MW p m n then (if (QX p m n.toNat).isSome=true then 0 else 5) else 2
theorem MA {p:Prg} {m:UInt8} {n:Int} (h:¬ MW p m n) {w0 w:World} {rs:List Res} (H:Own w0 none w rs):Xef (J7 p m n) (.int .i64 (J8 p m n)) w0 (.returned (.tuple #[.agg #[.slice none 0 0,.slice none 0 0,.slice none 0 0],.int .i64 2])) w:=by
 rw [J7,J8,if_neg h,if_neg h]
 exact XaX H
theorem Ms {w w':World} (hg:w.grownBy w' none):Own w none w' []:=⟨hg,fun i r h=>by simp at h,fun i r h=>by simp at h,fun i j r s h=>by simp at h⟩
theorem XgT (p:Prg) (mc:UInt8) (b3 b4:Nat) (c0 c1 c2 c3 c4 c5 c6 c7 c8 c9:Value) (w0:World) (h3:w0.rangeAt b3 0 [c0,c1,c2,c3,c4,c5,c6,c7,c8,c9]) (h4:w0.rangeAt b4 0 [YtcpehikcegoojaaGreatDoor.b8 mc]) (hP:ProgAt w0 [c0,c1,c2,c3,c4,c5,c6,c7,c8,c9] p) (hN:NeedsAt w0) (s:By) (hF:Fine p mc s) :
   L4 Tryz.prog (.func (.func 46) #[] #[.pointer (some ⟨b3,0,none⟩),.pointer (some ⟨b4,0,none⟩)]) [.agg (bs 142 s).toArray] w0 (fun e w'=>∃ A c,e = .returned (.slice A (JG p mc s).length c)∧Own w0 none w' [.rws 73 3 (.slice A (JG p mc s).length c) ((JG p mc s).map Pss.cells)]):=by
 refine ⟨_,[],[.pointer (some ⟨b3,0,none⟩),.pointer (some ⟨b4,0,none⟩)],rfl,call46,?_⟩
 have H:=Own.start w0 none
 have eR:Qj p mc s=JG p mc s:=ER hF.r
 refine JF func46 rfl ntmps46 rfl (fun a F=>?_);refine cSR fun K1 hK1=>?_;refine Mg H F rfl rfl rfl ?_;clear F a H;intro b3 a w F H;refine Xa F rfl (qNK hK1 (qSR fun K2 hK2=>?_));clear hK1;clear F a;intro a F
 refine Xw XM rfl ?si F rfl (H.argR (Xit h3 0 10)) ?_
 case si=>exact Jz Ya
 clear F a;intro a F;refine sLd XJ F rfl rfl rfl (H.arg (h4 0 _ rfl)) (Nu XG rfl XL rfl rfl rfl (H.whole 0 rfl) ?_);clear F a;intro a F;refine Xu call47 F rfl ((by have:=CS _ p _ (hP.own H) (hN.own H) mc s;rw [eR] at this;exact this)) ?_;rintro e w ⟨A,c,rfl,H2⟩;replace H:=H.join H2;clear H2;refine ⟨_,rfl,?_⟩;clear F a;intro a F;refine Xa F rfl (qNK hK2 ?_);clear hK2;clear F a;intro a F;refine wp_ret ?_;refine JI results46 F rfl ?_
 exact ⟨A,c,rfl,H.pick 0 rfl⟩
theorem XgS (p:Prg) (mc:UInt8) (b3 b4:Nat) (c0 c1 c2 c3 c4 c5 c6 c7 c8 c9:Value) (w0:World) (h3:w0.rangeAt b3 0 [c0,c1,c2,c3,c4,c5,c6,c7,c8,c9]) (h4:w0.rangeAt b4 0 [YtcpehikcegoojaaGreatDoor.b8 mc]) (hP:ProgAt w0 [c0,c1,c2,c3,c4,c5,c6,c7,c8,c9] p) (hN:NeedsAt w0) (s:By) (x:Pss) (hF:Fine p mc s) (hx:x ∈ JG p mc s) :
   L4 Tryz.prog (.func (.func 48) #[] #[.pointer (some ⟨b3,0,none⟩),.pointer (some ⟨b4,0,none⟩)]) [.agg (bs 142 s).toArray,.agg x.cells.toArray] w0 (fun e w'=>e = .returned (.agg (bs 142 (J5 p mc s x)).toArray)∧Below w0.heap.size w0 w'):=by
 refine ⟨_,[],[.pointer (some ⟨b3,0,none⟩),.pointer (some ⟨b4,0,none⟩)],rfl,call48,?_⟩
 have H:=Own.start w0 none
 have hxr:x ∈ Qj p mc s:=by rw [ER hF.r];exact hx
 have eS:Ll p mc s x=J5 p mc s x:=if_pos hxr
 refine JF func48 rfl ntmps48 rfl (fun a F=>?_);refine cSR fun K1 hK1=>?_;refine Mg H F rfl rfl rfl ?_;clear F a H;intro b4 a w F H;refine sBx H F rfl rfl rfl ?_;clear F a H;intro b5 a w F H;refine Mo H N3 F rfl rfl ?_;clear F a H;intro b6 a w F H;refine nK hK1 (cSR fun K2 hK2=>?_);clear hK1
 refine Xw XM rfl ?si F rfl (H.argR (Xit h3 0 10)) ?_
 case si=>exact Jz Ya
 clear F a;intro a F;refine sLd XJ F rfl rfl rfl (H.arg (h4 0 _ rfl)) (Nu XG rfl XL rfl rfl rfl (H.whole 2 rfl) ?_);clear F a;intro a F
 refine Xw X6 rfl ?si F rfl (H.whole 1 rfl) ?_
 case si=>exact Jz Yd
 clear F a;intro a F;refine Xu call49 F rfl ((by have:=XfZ _ p _ (hP.own H) (hN.own H) mc s x;rw [eS] at this;exact this)) (gG H ?_);clear F a H;intro a w F H;refine Xf F rfl (NU rfl rfl rfl rfl (NU rfl rfl rfl rfl ?_));clear F a;intro a F;refine Mo H N3 F rfl rfl ?_;clear F a H;intro b7 a w F H;refine Xt H 0 XL F rfl rfl rfl ?_;clear H;intro w H;rw [JE] at H;refine Xa F rfl (qNK hK2 (qSR fun K3 hK3=>Nu XG rfl XL rfl rfl rfl (H.whole 0 rfl) ?_));clear hK2;clear F a;intro a F;refine Xt H 1 XL F rfl rfl rfl ?_;clear H;intro w H;rw [JE] at H;refine nK hK3 ?_;clear hK3;refine wp_ret ?_;refine NE results48 F rfl XG rfl XL H 1 rfl ?_
 exact ⟨rfl,H.below⟩
theorem LG (cs:List Value) (p:Prg) (w0:World) (hP:ProgAt w0 cs p) (hN:NeedsAt w0) (mc:UInt8) (n:Int) (hlo : -9223372036854775808≤n) (hhi:n≤9223372036854775807) :
   Calls Tryz.prog 23 #[.agg cs.toArray,YtcpehikcegoojaaGreatDoor.b8 mc,.int .i64 n] w0 fun e w'=>Xef (J7 p mc n) (.int .i64 (J8 p mc n)) w0 e w':=by
 have H:=Own.start w0 none
 have hP0:=hP
 obtain ⟨LA,LC,IA,IC,TA,TC,h,ccs,hp⟩:=hP
 obtain ⟨c1,c2,c3,c4,c5,rfl⟩:=DM (JT hp.cond)
 have hcs:=hp.cs
 subst hcs
 have hkn:QS mc=true ↔ (1:UInt8)≤mc∧mc≤3:=by unfold QS;simp
 refine JF func23 rfl ntmps23 rfl (fun a F=>?_);refine cSR fun K1 hK1=>?_;refine sBx H F rfl rfl rfl ?_;clear F a H;intro b3 a w F H;refine sBx H F rfl rfl rfl ?_;clear F a H;intro b4 a w F H;refine sAl H YT F rfl rfl ?_;clear F a H;intro b6 a w F H;refine Xa F rfl (qNK hK1 (qSR fun K2 hK2=>?_));clear hK1;clear F a;intro a F;refine sAl H YT F rfl rfl ?_;clear F a H;intro b8 a w F H;refine nK hK2 ?_;clear hK2;refine JD (fun K3 hK3=>?_);refine cSR fun K4 hK4=>sLd XJ F rfl rfl rfl (H.cell 2 rfl rfl) (Xe rfl rfl (Eu (y:=1)) (Xh rfl ?_));clear F a;intro a F
 refine F.split 15 rfl ?_ ?_ <;> (clear F;intro h15 F)
 ·
  replace h15:=of_decide_eq_true h15;refine XB F (XC (Xy rfl rfl (Xh rfl (XC (XC (Xy rfl rfl (Xh rfl (XC (XC (Xy rfl rfl (qNK hK4 ?_)))))))))));clear hK4;clear F a;intro a F;refine MQ F rfl ?_;refine cSR fun K5 hK5=>?_
  refine Xw Yf rfl ?si F rfl (H.whole 0 rfl) ?_
  case si=>exact Jz Yq
  clear F a;intro a F
  refine sSr H 1 ?si F rfl rfl rfl ?s1 rfl rfl ?_
  case si=>exact Jz Yq
  case s1=>rfl
  clear H;intro w H;refine Xa F rfl (qNK hK5 ?_);clear hK5;clear F a;intro a F;refine wp_ret ?_;simp only [Exit.then];refine E3 Y4 F rfl rfl Yf rfl H 1 rfl Yq rfl ?_
  (refine MA ?_ H
   intro hC
   obtain ⟨q1,q2,q3,q4⟩:=hC
   have q5:=hkn.1 q1
   exact absurd h15 (UInt8.not_lt.2 q5.1))
 replace h15:=of_decide_eq_false h15;refine sLd XJ F rfl rfl rfl (H.cell 2 rfl rfl) (Xe rfl rfl (DY (y:=3)) (Xy rfl rfl (Xh rfl ?_)));clear F a;intro a F
 refine F.split 19 rfl ?_ ?_ <;> (clear F;intro h19 F)
 ·
  replace h19:=of_decide_eq_true h19;refine XB F (XC (Xy rfl rfl (Xh rfl (XC (XC (Xy rfl rfl (qNK hK4 ?_)))))));clear hK4;clear F a;intro a F;refine MQ F rfl ?_;refine cSR fun K6 hK6=>?_
  refine Xw Yf rfl ?si F rfl (H.whole 0 rfl) ?_
  case si=>exact Jz Yq
  clear F a;intro a F
  refine sSr H 1 ?si F rfl rfl rfl ?s1 rfl rfl ?_
  case si=>exact Jz Yq
  case s1=>rfl
  clear H;intro w H;refine Xa F rfl (qNK hK6 ?_);clear hK6;clear F a;intro a F;refine wp_ret ?_;simp only [Exit.then];refine E3 Y4 F rfl rfl Yf rfl H 1 rfl Yq rfl ?_
  (refine MA ?_ H
   intro hC
   obtain ⟨q1,q2,q3,q4⟩:=hC
   have q5:=hkn.1 q1
   exact absurd h19 (UInt8.not_lt.2 q5.2))
 replace h19:=of_decide_eq_false h19;refine Xf F rfl (Xe rfl rfl QF (Xy rfl rfl (Xh rfl ?_)));clear F a;intro a F
 refine F.split 23 rfl ?_ ?_ <;> (clear F;intro h23 F)
 ·
  replace h23:=of_decide_eq_true h23;refine XB F (XC (Xy rfl rfl (qNK hK4 ?_)));clear hK4;clear F a;intro a F;refine MQ F rfl ?_;refine cSR fun K7 hK7=>?_
  refine Xw Yf rfl ?si F rfl (H.whole 0 rfl) ?_
  case si=>exact Jz Yq
  clear F a;intro a F
  refine sSr H 1 ?si F rfl rfl rfl ?s1 rfl rfl ?_
  case si=>exact Jz Yq
  case s1=>rfl
  clear H;intro w H;refine Xa F rfl (qNK hK7 ?_);clear hK7;clear F a;intro a F;refine wp_ret ?_;simp only [Exit.then];refine E3 Y4 F rfl rfl Yf rfl H 1 rfl Yq rfl ?_
  (refine MA ?_ H
   intro hC
   obtain ⟨q1,q2,q3,q4⟩:=hC
   have q5:=hkn.1 q1
   exact absurd h23 (by omega))
 replace h23:=of_decide_eq_false h23;refine Xf F rfl (Xe rfl rfl L3 (Xy rfl rfl (qNK hK4 ?_)));clear hK4;clear F a;intro a F
 refine cIf F rfl (fun h26=>?_) (fun h26=>?_)
 ·
  replace h26:=of_decide_eq_true h26;refine cSR fun K8 hK8=>?_
  refine Xw Yf rfl ?si F rfl (H.whole 0 rfl) ?_
  case si=>exact Jz Yq
  clear F a;intro a F
  refine sSr H 1 ?si F rfl rfl rfl ?s1 rfl rfl ?_
  case si=>exact Jz Yq
  case s1=>rfl
  clear H;intro w H;refine Xa F rfl (qNK hK8 ?_);clear hK8;clear F a;intro a F;refine wp_ret ?_;simp only [Exit.then];refine E3 Y4 F rfl rfl Yf rfl H 1 rfl Yq rfl ?_
  (refine MA ?_ H
   intro hC
   obtain ⟨q1,q2,q3,q4⟩:=hC
   have q5:=hkn.1 q1
   exact absurd h23 (by omega))
 replace h26:=of_decide_eq_false h26;refine wp_skip (hK3 _ _ (cSR fun K9 hK9=>?_));clear hK3
 refine Xw XM rfl ?si F rfl (H.whole 3 rfl) ?_
 case si=>exact Jz Ya
 clear F a;intro a F;refine Xu call44 F rfl (Xfl _ p _ (hP0.own H) (hN.own H)) (gG H ?_);clear F a H;intro a w F H;refine Xf F rfl (NU rfl rfl rfl rfl (NU rfl rfl rfl rfl ?_));clear F a;intro a F;refine Mo H N3 F rfl rfl ?_;clear F a H;intro b9 a w F H;refine Xt H 0 XL F rfl rfl rfl ?_;clear H;intro w H;rw [JE] at H;refine Xa F rfl (qNK hK9 ?_);clear hK9;clear F a;intro a F;refine JD (fun K10 hK10=>?_);refine cSR fun K11 hK11=>Xf F rfl (Xe rfl rfl DR (qNK hK11 ?_));clear hK11;clear F a;intro a F
 refine cIf F rfl (fun h34=>?_) (fun h34=>?_)
 ·
  replace h34:=Ep h34
  have hv:JH p ≠ 0:=fun h=>h34 (if_pos h)
  have eE:DD p=2:=if_neg hv
  simp only [eE] at F
  refine cSR fun K12 hK12=>?_
  refine Xw Yf rfl ?si F rfl (H.whole 1 rfl) ?_
  case si=>exact Jz Yq
  clear F a;intro a F;refine Xf F rfl ?_;clear F a;intro a F
  refine sSr H 2 ?si F rfl rfl rfl ?s1 rfl rfl ?_
  case si=>exact Jz Yq
  case s1=>rfl
  clear H;intro w H;refine Xa F rfl (qNK hK12 ?_);clear hK12;clear F a;intro a F;refine wp_ret ?_;simp only [Exit.then];refine E3 Y4 F rfl rfl Yf rfl H 2 rfl Yq rfl ?_
  (refine MA ?_ H
   intro hC
   obtain ⟨q1,q2,q3,q4⟩:=hC
   have q5:=hkn.1 q1
   exact absurd h23 (by omega))
 replace h34:=Er h34
 have hv:JH p=0:=by
  apply Decidable.byContradiction
  intro hh
  rw [DD,if_neg hh] at h34
  cases h34
 have hv2:=XcT hv
 have eS:EE p=Qr (NX p):=if_pos hv
 have hk:QS mc=true:=hkn.2 ⟨UInt8.not_lt.1 h15,UInt8.not_lt.1 h19⟩
 have hC:MW p mc n:=⟨hk,by omega,by omega,hv⟩
 have en:((n.toNat:Nat):Int)=n:=by omega
 rw [eS] at H;refine wp_skip (hK10 _ _ (cSR fun K13 hK13=>sBd (cs:=[YtcpehikcegoojaaGreatDoor.b8 0,YtcpehikcegoojaaGreatDoor.b8 0,YtcpehikcegoojaaGreatDoor.b8 0,YtcpehikcegoojaaGreatDoor.b8 0,.slice none 0 0]) (places:=[(0,1),(1,1),(2,1),(3,1),(4,1)]) zeroValue27 X3 (by kernel_rfl) F rfl rfl rfl rfl (Xr (f:=0) (k:=0) XM rfl YL rfl rfl rfl ?_)));clear hK10;clear F a;intro a F;refine sSt H 4 YL F rfl rfl rfl rfl rfl rfl ?_;clear H;intro w H;refine Xb (f:=4) (k:=4) XM rfl XH rfl rfl F rfl ?_;clear F a;intro a F;refine sSt H 4 XH F rfl rfl rfl rfl rfl rfl ?_;clear H;intro w H;refine Xb (f:=5) (k:=5) XM rfl YP rfl rfl F rfl ?_;clear F a;intro a F
 refine sSr H 4 ?si F rfl rfl rfl ?s1 rfl rfl ?_
 case si=>exact Jz YP
 case s1=>rfl
 clear H;intro w H;refine nK hK13 (cSR fun K14 hK14=>Xs XG rfl XL F rfl (H.whole 0 rfl) (Xh rfl (qFn rfl rfl rfl rfl (qFn rfl rfl rfl rfl ?_))));clear hK13;clear F a;intro a F
 refine Xu call45 F rfl ((by
   have hPl:ProgAt _ _ (NX p):=⟨LA,LC,IA,IC,TA,TC,1,[YtcpehikcegoojaaGreatDoor.b8 0,YtcpehikcegoojaaGreatDoor.b8 0,YtcpehikcegoojaaGreatDoor.b8 0,YtcpehikcegoojaaGreatDoor.b8 0,.slice none 0 0],rfl,(by show 1≤maxLen;decide),(hp.own H).locs,hp.locsN,hp.locsC,hp.locsS,(hp.own H).init,hp.initN,(hp.own H).threads,hp.threadsN,⟨none,0,rfl,by simp [NX],fun j kid h=>by simp at h⟩⟩
   have hE:=Xde (NX p) mc n.toNat _ _ _ hv2 hk (by omega) (by omega)
    (fun w' hg s hF=>XgT (NX p) mc b3 b4 _ _ _ _ _ _ _ _ _ _ w' ((Ms hg).argR (H.whole 4 rfl)) ((Ms hg).argR (H.whole 3 rfl)) (hPl.own (Ms hg)) ((hN.own H).own (Ms hg)) s hF)
    (fun w' hg s x hF hx=>XgS (NX p) mc b3 b4 _ _ _ _ _ _ _ _ _ _ w' ((Ms hg).argR (H.whole 4 rfl)) ((Ms hg).argR (H.whole 3 rfl)) (hPl.own (Ms hg)) ((hN.own H).own (Ms hg)) s x hF hx)
   rw [en] at hE
   exact hE)) ?_
 rintro e w ⟨A1,k1,A2,k2,A3,k3,rfl,H2⟩;replace H:=H.join H2;clear H2;refine ⟨_,rfl,?_⟩;clear F a;intro a F;refine Xf F rfl (NU rfl rfl rfl rfl (NU rfl rfl rfl rfl ?_));clear F a;intro a F;refine sAl H YT F rfl rfl ?_;clear F a H;intro b11 a w F H
 refine sSr H 0 ?si F rfl rfl rfl ?s1 rfl rfl ?_
 case si=>exact Jz Yq
 case s1=>rfl
 clear H;intro w H;refine Xa F rfl (qNK hK14 ?_);clear hK14;clear F a;intro a F;refine JD (fun K15 hK15=>?_);refine cSR fun K16 hK16=>Xf F rfl (Cc rfl rfl rfl (qNK hK16 ?_));clear hK16;clear F a;intro a F
 refine cIf F rfl (fun h50=>?_) (fun h50=>?_)
 ·
  replace h50:=N1 h50;refine cSR fun K17 hK17=>?_
  refine Xw Yf rfl ?si F rfl (H.whole 5 rfl) ?_
  case si=>exact Jz Yq
  clear F a;intro a F
  refine sSr H 6 ?si F rfl rfl rfl ?s1 rfl rfl ?_
  case si=>exact Jz Yq
  case s1=>rfl
  clear H;intro w H;refine Xa F rfl (qNK hK17 ?_);clear hK17;clear F a;intro a F;refine wp_ret ?_;simp only [Exit.then];refine E3 Y4 F rfl rfl Yf rfl H 6 rfl Yq rfl ?_
  (simp only [BA] at h50
   have e:QX p mc n.toNat=none:=Option.not_isSome_iff_eq_none.1 (by rw [h50];simp)
   rw [J7,J8,if_pos hC,if_pos hC,e]
   exact XaX H)
 replace h50:=N2 h50;refine wp_skip (hK15 _ _ (cSR fun K18 hK18=>?_));clear hK15
 refine Xw Yf rfl ?si F rfl (H.whole 0 rfl) ?_
 case si=>exact Jz Yq
 clear F a;intro a F
 refine sSr H 6 ?si F rfl rfl rfl ?s1 rfl rfl ?_
 case si=>exact Jz Yq
 case s1=>rfl
 clear H;intro w H;refine Xa F rfl (qNK hK18 ?_);clear hK18;clear F a;intro a F;refine wp_ret ?_;refine E3 Y4 F rfl rfl Yf rfl H 6 rfl Yq rfl ?_
 (simp only [BA] at h50 H ⊢
  rw [J7,J8,if_pos hC,if_pos hC,if_pos h50]
  exact ⟨_,_,_,_,_,_,rfl,H.sel [1,2,3] rfl rfl⟩)
-- RnC
open Go.RowKit
set_option maxRecDepth 100000
section
variable {P:Program} {N:Nat} {a:Act} {env:List (Nat × Value)} {w:World}
theorem bRet3 {fn:Func} {R:Ending→World→Prop} {t s r:Tmp} {u v x:Value} (hres:fn.results = #[.tmp t,.tmp s,.tmp r]) (F:Has N a env) (hu:lk env t=some u) (hv:lk env s=some v) (hx:lk env r=some x) (h:R (.returned (.tuple #[u,v,x])) w):bodyPost P fn R .ret a w:=by
 exact bodyPost_ret (v:=.tuple #[u,v,x]) (by rw [results_tmp3 hres,F.get t u hu,F.get s v hv,F.get r x hx]) F.nod h
end
theorem NR {p:Prg} {m:UInt8} {n:Int} {a:Fnd} (h:J7 p m n=some a):a.list.length≤65536∧a.ends.length≤65536:=by
 unfold J7 at h
 split at h
 · rename_i hC
   obtain ⟨h1,h2,h3,h4⟩:=hC
   have hI:=D4 h4 h1 (by omega) h
   have:=hI.many
   refine ⟨by omega,?_⟩
   rw [hI.ends];refine Nat.le_trans (List.length_filter_le _ _) ?_
   rw [List.length_range];omega
 · cases h
theorem Bo (p:Prg) (m:UInt8) (n:Int):(fo (J7 p m n)).list.length≤65536∧(fo (J7 p m n)).ends.length≤65536:=by
 cases h:J7 p m n with
 | none=>exact ⟨Nat.zero_le _,Nat.zero_le _⟩
 | some a=>exact NR h
theorem B2 (cs:List Value) (p:Prg) (w0:World) (hP:ProgAt w0 cs p) (hN:NeedsAt w0) (mc:UInt8) (n:Int) (hlo : -9223372036854775808≤n) (hhi:n≤9223372036854775807) :
   Calls Tryz.prog 8 #[.agg cs.toArray,YtcpehikcegoojaaGreatDoor.b8 mc,.int .i64 n] w0 fun e w'=>e = .returned (.tuple #[.int .i64 ((fo (J7 p mc n)).list.length:Int),.int .i64 ((fo (J7 p mc n)).ends.length:Int),.int .i64 (J8 p mc n)])∧Below w0.heap.size w0 w':=by
 have H:=Own.start w0 none
 have hP0:=hP
 obtain ⟨LA,LC,IA,IC,TA,TC,h,ccs,hp⟩:=hP
 obtain ⟨c1,c2,c3,c4,c5,rfl⟩:=DM (JT hp.cond)
 have hcs:=hp.cs
 subst hcs
 have hm:=Bo p mc n
 refine JF Tryz.func8 rfl Tryz.ntmps8 rfl (fun a F=>?_);refine cSR fun K1 hK1=>?_;refine sBx H F rfl rfl rfl ?_;clear F a H;intro b3 a w F H;refine Xa F rfl (Xd rfl (Xd rfl (qNK hK1 (qSR fun K2 hK2=>?_))));clear hK1;clear F a;intro a F
 refine Xw Tryz.underlying29 rfl ?si F rfl (H.whole 0 rfl) ?_
 case si=>exact Jz Tryz.sizeOf29
 clear F a;intro a F;refine Xf F rfl (Xh rfl ?_);clear F a;intro a F;refine Xu Tryz.call23 F rfl (LG _ p _ (hP0.own H) (hN.own H) mc n hlo hhi) ?_;rintro e w ⟨A1,k1,A2,k2,A3,k3,rfl,H2⟩;replace H:=H.join H2;clear H2;refine ⟨_,rfl,?_⟩;clear F a;intro a F;refine Xf F rfl (NU rfl rfl rfl rfl (NU rfl rfl rfl rfl ?_));clear F a;intro a F;refine sAl H Tryz.zeroValue83 F rfl rfl ?_;clear F a H;intro b9 a w F H
 refine sSr H 0 ?si F rfl rfl rfl ?s1 rfl rfl ?_
 case si=>exact Jz Tryz.sizeOf83
 case s1=>rfl
 clear H;intro w H;refine Xa F rfl (qNK hK2 ?_);clear hK2;clear F a;intro a F;refine JD (fun K3 hK3=>?_);refine Xi H ?_;replace H:=H.drew;refine Xj 0 rfl F rfl (fun w=>rFa (f:=0) (k:=0) Tryz.underlying83 rfl Tryz.sizeOf39 rfl rfl F rfl) H qq0 (Xl 1 rfl rfl rfl (fun a F w H=>rLd Tryz.isAgg39 F rfl (H.cell 0 rfl rfl)) H qq0 (Xl 2 rfl rfl rfl (fun a F w H=>Bw Tryz.underlying39 F rfl) H qq0 (Xm 3 rfl rfl (fun a F w=>rFa (f:=2) (k:=2) Tryz.underlying83 rfl Tryz.sizeOf81 rfl rfl F rfl) H qq0 (Xl 4 rfl rfl rfl (fun a F w H=>rLd Tryz.isAgg81 F rfl (H.cell 0 rfl rfl)) H qq0 (Xl 5 rfl rfl rfl (fun a F w H=>Bw Tryz.underlying81 F rfl) H qq0 (Xm 6 rfl rfl (fun a F w=>rMv F rfl) H qq0 (Xm 7 rfl rfl (fun a F w=>rAs F rfl) H qq0 (Xm 8 rfl rfl (fun a F w=>rAs F rfl) H qq0 (Xm 9 rfl rfl (fun a F w=>rAs F rfl) H qq0 ?_)))))))));clear F a;intro a F;refine Xp (k:=10) ?_;refine hK3 _ _ ?_;clear hK3;refine wp_ret ?_;refine bRet3 Tryz.results8 F rfl rfl rfl ?_
 exact ⟨rfl,H.below⟩
theorem XcR (cs:List Value) (p:Prg) (w0:World) (hP:ProgAt w0 cs p) (hN:NeedsAt w0) (mc:UInt8) (n:Int) (hlo : -9223372036854775808≤n) (hhi:n≤9223372036854775807) :
   Calls Tryz.prog 6 #[.agg cs.toArray,YtcpehikcegoojaaGreatDoor.b8 mc,.int .i64 n] w0 fun e w'=>∃ A1 c1,e = .returned (.tuple #[.slice A1 (fo (J7 p mc n)).list.length c1,.int .i64 (J8 p mc n)])∧Own w0 none w' [.rws 60 142 (.slice A1 (fo (J7 p mc n)).list.length c1) ((fo (J7 p mc n)).list.map (bs 142))]:=by
 have H:=Own.start w0 none
 have hP0:=hP
 obtain ⟨LA,LC,IA,IC,TA,TC,h,ccs,hp⟩:=hP
 obtain ⟨c1,c2,c3,c4,c5,rfl⟩:=DM (JT hp.cond)
 have hcs:=hp.cs
 subst hcs;refine JF Tryz.func6 rfl Tryz.ntmps6 rfl (fun a F=>?_);refine cSR fun K1 hK1=>?_;refine sBx H F rfl rfl rfl ?_;clear F a H;intro b3 a w F H;refine Xa F rfl (Xd rfl (qNK hK1 (qSR fun K2 hK2=>?_)));clear hK1;clear F a;intro a F
 refine Xw Tryz.underlying29 rfl ?si F rfl (H.whole 0 rfl) ?_
 case si=>exact Jz Tryz.sizeOf29
 clear F a;intro a F;refine Xf F rfl (Xh rfl ?_);clear F a;intro a F;refine Xu Tryz.call23 F rfl (LG _ p _ (hP0.own H) (hN.own H) mc n hlo hhi) ?_;rintro e w ⟨A1,k1,A2,k2,A3,k3,rfl,H2⟩;replace H:=H.join H2;clear H2;refine ⟨_,rfl,?_⟩;clear F a;intro a F;refine Xf F rfl (NU rfl rfl rfl rfl (NU rfl rfl rfl rfl ?_));clear F a;intro a F;refine sAl H Tryz.zeroValue83 F rfl rfl ?_;clear F a H;intro b8 a w F H
 refine sSr H 0 ?si F rfl rfl rfl ?s1 rfl rfl ?_
 case si=>exact Jz Tryz.sizeOf83
 case s1=>rfl
 clear H;intro w H;refine Xa F rfl (qNK hK2 (qSR fun K3 hK3=>Xr (f:=0) (k:=0) Tryz.underlying83 rfl Tryz.sizeOf39 rfl rfl rfl (Xc Tryz.isAgg39 rfl (H.cell 0 rfl rfl) (Xh rfl (Xd rfl (Xd rfl (qNK hK3 ?_)))))));clear hK2 hK3;clear F a;intro a F;refine wp_ret ?_;refine Et Tryz.results6 F rfl rfl ?_
 exact ⟨_,_,rfl,H.pick 1 rfl⟩
end Go.Proofs.YtcpehikcegoojaaGreatDoor
