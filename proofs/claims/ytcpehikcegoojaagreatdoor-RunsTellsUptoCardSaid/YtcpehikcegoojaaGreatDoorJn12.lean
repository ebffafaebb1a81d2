/-
  WALK2. Package runs: the way to a state. Conditions: the search has come to its end.
-/
import Derived.Test.YtcpehikcegoojaaGreatDoorJn11
import Derived.Test.YtcpehikcegoojaaGreatDoorJn9
import Derived.Test.YtcpehikcegoojaaGreatDoorJn10
import Derived.Test.YtcpehikcegoojaaGreatDoorJn4
set_option linter.unusedSimpArgs false
set_option linter.unusedVariables false
namespace Go.Proofs.YtcpehikcegoojaaGreatDoor
-- RnD
open Go.RowKit Go.Sort
set_option maxRecDepth 100000
instance:Inhabited Pss:=⟨⟨0,false,0⟩⟩
theorem Xa8 (q:List (Int × Pss)):∀ f k,(NM q f k).length≤f
 | 0,_=>Nat.le_refl _
 | f+1,k=>by
   rw [NM]
   split
   · exact Nat.zero_le _
   · split
     · have:=Xa8 q f
       rw [List.length_append]
       exact Nat.succ_le_succ (this _)
     · exact Nat.zero_le _
theorem XeH {w:World} {b o:Nat} {g:Int} {x:Pss} (h:w.rangeAt b o (lkC (g,x))):w.cell? ⟨b,o,none⟩=some (.int .i64 g)∧w.rangeAt b (o+1) x.cells:=by
 refine ⟨by simpa using h 0 _ rfl,fun j v hv=>?_⟩
 have:=h (j+1) v (by unfold lkC;exact hv)
 rwa [show o+(j+1)=o+1+j by omega] at this
theorem Xi6 (b c:Nat) (l:List Pss) (w:World) (hw:w.ownsRow 0 73 3 (.slice (some ⟨b,0,none⟩) l.length c) l.length (l.map Pss.cells).flatten) (hn:l.length≤9223372036854775807) :
   Calls Tryz.prog 54 #[.slice (some ⟨b,0,none⟩) l.length c] w fun e w'=>e = .returned (.tuple #[])∧w.grownBy w' (some b)∧w'.ownsRow 0 73 3 (.slice (some ⟨b,0,none⟩) l.length c) l.reverse.length (l.reverse.map Pss.cells).flatten:=by
 have hk:∀ x:Pss,x.cells.length=3:=fun _=>rfl
 have hH:=Xgr (enc:=Pss.cells) hk (d:=l.toArray) (by simpa using hw)
 have hcon:=AnyQ.slices_Reverse XfB 3 Tryz.isAgg73 Tryz.sizeOf73 Pss.cells hk (fun x v hv=>by simp [Pss.cells] at hv;rcases hv with rfl | rfl | rfl <;> rfl) b 0 c l.toArray w hH (by simpa using hn)
 change Calls Tryz.prog 54 _ _ _ at hcon
 rw [List.size_toArray] at hcon;refine hcon.mono ?_;rintro e w' ⟨rfl,n,rfl⟩
 have hp:=Xj8 (enc:=Pss.cells) hk (d:=l.toArray) (d':=l.toArray.reverse) (by simpa using hw) (by simp) n #[]
 have hg:=CC Pss.cells 3 w b n l.toArray.reverse #[]
 unfold sortWorldK at hp hg
 rw [grow_empty] at hp hg
 exact ⟨rfl,hg,by simpa using hp⟩
theorem Xi5 {w0 w:World} {row:Option Nat} {rs:List Res} {A:Option Addr} {c:Nat} {l:List Pss} (H:Own w0 row w rs) (i:Nat) (hi:rs[i]? = some (.rws 73 3 (.slice A l.length c) (l.map Pss.cells))) (hn:l.length≤9223372036854775807) :
   Calls Tryz.prog 54 #[.slice A l.length c] w fun e w'=>e = .returned (.tuple #[])∧Own w0 row w' (rs.set i (.rws 73 3 (.slice A l.length c) (l.reverse.map Pss.cells))):=by
 have hw:w.ownsRow 0 73 3 (.slice A l.length c) (l.map Pss.cells).length (l.map Pss.cells).flatten:=H.pred i _ hi
 rw [List.length_map] at hw
 have hw2:=hw
 obtain ⟨_,⟨h1,h2⟩ | ⟨g,cap,cur,h1,_⟩⟩:=hw2
 · have hA:A=none:=by simp only [Value.slice.injEq] at h1;exact h1.1
   have hl:l=[]:=List.eq_nil_of_length_eq_zero h2
   subst hA;subst hl;refine (AnyQ.slices_Reverse_empty XfB none c w).mono ?_;rintro e w' ⟨rfl,rfl⟩
   refine ⟨rfl,?_⟩
   have e:rs.set i (.rws 73 3 (.slice none ([]:List Pss).length c) (([]:List Pss).reverse.map Pss.cells))=rs:=by
     apply List.ext_getElem?
     intro j
     rw [List.getElem?_set]
     split
     · rename_i hj
       subst hj
       rw [if_pos (List.getElem?_eq_some_iff.1 hi).1,hi];rfl
     · rfl
   rw [e];exact H
 · have hA:A=some ⟨g,0,none⟩:=by simp only [Value.slice.injEq] at h1;exact h1.1
   subst hA;refine (Xi6 g c l w hw hn).mono ?_;rintro e w' ⟨rfl,hg,hp⟩
   exact ⟨rfl,Bl H i hi hg (by simpa using hp)⟩
theorem XiS (fd:Fnd) (k:Nat):(E8 fd k).length≤k:=Xa8 _ _ _
theorem Xi4 (p:Prg) (mc:UInt8) (most:Nat) (fd:Fnd) (hF:FndI p mc most fd.list.length fd) (hm:most≤65536) (k:Nat) (hk:k < fd.list.length) (A1:Option Addr) (C1:Nat) (A2:Option Addr) (C2:Nat) (A3:Option Addr) (C3:Nat) (w0:World) (hA:RowsAt w0 A2 4 (fd.links.map lkC)) :
   Calls Tryz.prog 26 #[.agg #[.slice A1 fd.list.length C1,.slice A2 fd.links.length C2,.slice A3 fd.ends.length C3],.int .i64 (k:Int)] w0 fun e w'=>∃ A c,e = .returned (.slice A (E8 fd k).length c)∧Own w0 none w' [.rws 73 3 (.slice A (E8 fd k).length c) ((E8 fd k).map Pss.cells)]:=by
 have H:=Own.start w0 none
 have hlen:=hF.len
 have hmany:=hF.many
 have hwl:=XiS fd k
 refine JF Tryz.func26 rfl Tryz.ntmps26 rfl (fun a F=>?_);refine cSR fun K1 hK1=>?_;refine sBx H F rfl rfl rfl ?_;clear F a H;intro b2 a w F H;refine Xa F rfl (qNK hK1 (qSR fun K2 hK2=>Xd rfl ?_));clear hK1;clear F a;intro a F
 replace H:=H.nilRws 73 3
 refine nK hK2 ?_;clear hK2;refine JD (fun K3 hK3=>?_);refine wp_block ?_
 refine JN [2] (fun m ups w=>∃ (j:Nat) (A:Option Addr) (c:Nat) (o:List Pss),m=j+1∧ups=[(1,.int .i64 ((j:Nat):Int)),(5,.slice A o.length c)]∧j≤k∧E8 fd k=E8 fd j++o.reverse∧Own w0 none w [.rws 73 3 (.slice A o.length c) (o.map Pss.cells),.blk b2 [.slice A1 fd.list.length C1,.slice A2 fd.links.length C2,.slice A3 fd.ends.length C3] 83]) F (k+1) [(1,.int .i64 ((k:Nat):Int)),(5,.slice none 0 0)] ?_ ?_
 · exact ⟨k,none,0,[],rfl,rfl,Nat.le_refl _,by simp,H.sel [0,1] rfl rfl⟩
 clear F
 clear H
 intro m ups a w hI F
 obtain ⟨j,A,c,o,rfl,rfl,hj,hway,H⟩:=hI
 refine JD (fun K4 hK4=>?_);refine cSR fun K5 hK5=>Xf F rfl (Xe rfl rfl L3 (qNK hK5 ?_));clear hK5;clear F a;intro a F
 refine cIf F rfl (fun h7=>?_) (fun h7=>?_)
 ·
  replace h7:=of_decide_eq_true h7
  have hj0:0 < j:=by omega
  obtain ⟨⟨g,x⟩,hq⟩:∃ q,fd.links[j]? = some q:=⟨_,List.getElem?_eq_getElem (by omega)⟩
  obtain ⟨i,rfl,hij,_⟩:=hF.link j g x hj0 hq
  obtain ⟨bL,oL,rfl,hL⟩:=hA j (lkC ((i:Int),x)) (by rw [List.getElem?_map,hq];rfl)
  have hL2:=XeH hL
  have hol:o.length≤k:=by have:=congrArg List.length hway;simp at this;omega
  have hws:=EA hF hj0 hq
  refine wp_skip (hK4 _ _ ?_);clear hK4;refine JD (fun K6 hK6=>?_);refine wp_block ?_;refine JY (Xf F rfl (Xr (f:=1) (k:=1) Tryz.underlying83 rfl Tryz.sizeOf80 rfl rfl rfl (Xc Tryz.isAgg80 rfl (H.cell 1 rfl rfl) (Xh rfl ?_))));clear F a;intro a F
  refine sIx Tryz.underlying80 Tryz.sizeOf122 F rfl rfl rfl rfl ?_ ?_
  focus omega
  clear F a;intro a F;refine Xb (f:=1) Tryz.underlying122 rfl Tryz.sizeOf73 rfl rfl F rfl ?_;clear F a;intro a F
  refine Xw Tryz.underlying73 rfl ?si F rfl (H.argR hL2.2) ?_
  case si=>exact Jz Tryz.sizeOf73
  clear F a;intro a F;refine Cf H Tryz.underlying48 Tryz.sizeOf73 Tryz.zeroValue73 rfl F rfl rfl rfl rfl rfl ?_;clear F a H;intro b21 a w F H
  refine Mq (bytes:=3) H 1 Tryz.underlying48 Tryz.typeInfo73 rfl rfl rfl rfl rfl rfl F rfl rfl rfl rfl rfl (H.whole 0 rfl) rfl ?s1 ?s2 ?_
  case s1=>rfl
  case s2=>(rw [List.length_map];omega)
  clear F a H;intro A22 c22 a w F H;refine Xa F rfl (qNK hK6 (Ef (Xr (f:=1) (k:=1) Tryz.underlying83 rfl Tryz.sizeOf80 rfl rfl rfl (Xc Tryz.isAgg80 rfl (H.cell 2 rfl rfl) (Xh rfl ?_)))));clear hK6;clear F a;intro a F
  refine sIx Tryz.underlying80 Tryz.sizeOf122 F rfl rfl rfl rfl ?_ ?_
  focus omega
  clear F a;intro a F;refine Xb (f:=0) Tryz.underlying122 rfl Tryz.sizeOf3 rfl rfl F rfl (Xc Tryz.isAgg3 rfl (H.arg hL2.1) (Xd rfl ?_));clear F a;intro a F;refine J4 ?_
  have e2:o.map Pss.cells++[x.cells]=(o++[x]).map Pss.cells:=by rw [List.map_append];rfl
  have e3:(o.map Pss.cells++[x.cells]).length=(o++[x]).length:=by rw [e2,List.length_map]
  rw [e3] at F H;rw [e2] at H
  exact ⟨_,by omega,_,⟨i,A22,c22,o++[x],rfl,rfl,by omega,(by rw [hway,hws];simp),H.sel [1,2] rfl rfl⟩,F.tt⟩
 replace h7:=of_decide_eq_false h7
 obtain rfl:j=0:=by omega
 rw [DZ,List.nil_append] at hway;refine wp_exit ?_;refine hK3 _ _ (cSR fun K7 hK7=>Xf F rfl ?_);clear hK3;clear F a;intro a F;refine Xu Tryz.call54 F rfl (Xi5 H 0 rfl (by have:=congrArg List.length hway;simp at this;omega)) ?_;rintro e w ⟨rfl,H2⟩
 replace H:=H2;clear H2
 refine ⟨_,rfl,?_⟩;clear F a;intro a F;refine nK hK7 (cSR fun K8 hK8=>Xf F rfl (Xd rfl (qNK hK8 ?_)));clear hK7 hK8;clear F a;intro a F;refine wp_ret ?_;refine JI Tryz.results26 F rfl ?_
 have ew:o.reverse=E8 fd k:=hway.symm
 have el:o.length=(E8 fd k).length:=by rw [← ew,List.length_reverse]
 rw [ew,el] at H
 exact ⟨A,c,by rw [el],H.pick 0 rfl⟩
-- RnH
open Go.RowKit
set_option maxRecDepth 100000
theorem L6 {p:Prg} {m:UInt8} {n:Int} (h:J8 p m n=0):∃ fd,J7 p m n=some fd∧FndI p m n.toNat fd.list.length fd∧n.toNat≤65536∧JH p=0∧QS m=true:=by
 unfold J8 at h
 split at h
 · rename_i hC
   have hR:J7 p m n=QX p m n.toNat:=if_pos hC
   obtain ⟨h1,h2,h3,h4⟩:=hC
   split at h
   · rename_i hs
     obtain ⟨fd,hf⟩:=Option.isSome_iff_exists.1 hs
     exact ⟨fd,by rw [hR,hf],D4 h4 h1 (by omega) hf,by omega,h4,h1⟩
   · cases h
 · cases h
def D9 (fd:Fnd) (f:By):Option Nat:=fd.ends.find? fun k=>same 38 (Qh (fd.list.getD k zb)) f
def Xak (p:Prg) (m:UInt8) (f:By) (n:Int):List Pss:=match J7 p m n with
 | none=>[]
 | some fd=>match D9 fd f with
   | none=>[]
   | some k=>E8 fd k
def Xeh (p:Prg) (m:UInt8) (f:By) (n:Int):Int:=if J8 p m n=0 then (match D9 (fo (J7 p m n)) f with | none=>6 | some _=>0) else J8 p m n
theorem L7 {p:Prg} {m:UInt8} {n:Int} (h:J8 p m n ≠ 0):J7 p m n=none:=by
 unfold J8 at h
 unfold J7
 split
 · rename_i hC
   rw [if_pos hC] at h
   cases hr:QX p m n.toNat with
   | none=>rfl
   | some fd=>rw [hr] at h;exact absurd rfl h
 · rfl
theorem Xkq {fd:Fnd} {f:By} {i k:Nat} (hi:fd.ends[i]? = some k) (hno:∀ j k,j < i→fd.ends[j]? = some k→same 38 (Qh (fd.list.getD k zb)) f=false) (h:same 38 (Qh (fd.list.getD k zb)) f=true):D9 fd f=some k:=by
 unfold D9
 obtain ⟨hl,rfl⟩:=List.getElem?_eq_some_iff.1 hi
 refine List.find?_eq_some_iff_getElem.2 ⟨h,i,hl,rfl,fun j hj=>?_⟩
 have:=hno j _ hj (List.getElem?_eq_getElem (by omega))
 rw [this];rfl
theorem XhV {fd:Fnd} {f:By} (hno:∀ j k,j < fd.ends.length→fd.ends[j]? = some k→same 38 (Qh (fd.list.getD k zb)) f=false):D9 fd f=none:=by
 unfold D9
 refine List.find?_eq_none.2 fun k hk=>?_
 obtain ⟨j,hj⟩:=List.mem_iff_getElem?.1 hk
 have:=hno j k (List.getElem?_eq_some_iff.1 hj).1 hj
 rw [this];decide
theorem Bg (cs:List Value) (p:Prg) (w0:World) (hP:ProgAt w0 cs p) (hN:NeedsAt w0) (mc:UInt8) (f:By) (n:Int) (hlo : -9223372036854775808≤n) (hhi:n≤9223372036854775807) :
   Calls Tryz.prog 9 #[.agg cs.toArray,YtcpehikcegoojaaGreatDoor.b8 mc,.agg (bs 38 f).toArray,.int .i64 n] w0 fun e w'=>∃ A c,e = .returned (.tuple #[.slice A (Xak p mc f n).length c,.int .i64 (Xeh p mc f n)])∧Own w0 none w' [.rws 73 3 (.slice A (Xak p mc f n).length c) ((Xak p mc f n).map Pss.cells)]:=by
 have H:=Own.start w0 none
 have hP0:=hP
 obtain ⟨LA,LC,IA,IC,TA,TC,h,ccs,hp⟩:=hP
 obtain ⟨c1,c2,c3,c4,c5,rfl⟩:=DM (JT hp.cond)
 have hcs:=hp.cs
 subst hcs;refine JF Tryz.func9 rfl Tryz.ntmps9 rfl (fun a F=>?_);refine cSR fun K1 hK1=>?_;refine sBx H F rfl rfl rfl ?_;clear F a H;intro b4 a w F H;refine Mg H F rfl rfl rfl ?_;clear F a H;intro b6 a w F H;refine Xa F rfl (Xd rfl (qNK hK1 (qSR fun K2 hK2=>?_)));clear hK1;clear F a;intro a F
 refine Xw Tryz.underlying29 rfl ?si F rfl (H.whole 1 rfl) ?_
 case si=>exact Jz Tryz.sizeOf29
 clear F a;intro a F;refine Xf F rfl (Xh rfl ?_);clear F a;intro a F;refine Xu Tryz.call23 F rfl (LG _ p _ (hP0.own H) (hN.own H) mc n hlo hhi) ?_;rintro e w ⟨A1,k1,A2,k2,A3,k3,rfl,H2⟩;replace H:=H.join H2;clear H2;refine ⟨_,rfl,?_⟩;clear F a;intro a F;refine Xf F rfl (NU rfl rfl rfl rfl (NU rfl rfl rfl rfl ?_));clear F a;intro a F;refine sAl H Tryz.zeroValue83 F rfl rfl ?_;clear F a H;intro b10 a w F H
 refine sSr H 0 ?si F rfl rfl rfl ?s1 rfl rfl ?_
 case si=>exact Jz Tryz.sizeOf83
 case s1=>rfl
 clear H;intro w H;refine Xa F rfl (qNK hK2 ?_);clear hK2;clear F a;intro a F;refine JD (fun K3 hK3=>?_);refine cSR fun K4 hK4=>Xf F rfl (Xe rfl rfl DR (qNK hK4 ?_));clear hK4;clear F a;intro a F
 refine cIf F rfl (fun h22=>?_) (fun h22=>?_)
 ·
  replace h22:=Ep h22;refine cSR fun K5 hK5=>Xf F rfl (Xd rfl (Xd rfl (qNK hK5 ?_)));clear hK5;clear F a;intro a F;refine wp_ret ?_;simp only [Exit.then];refine Et Tryz.results9 F rfl rfl ?_
  (have hE:J8 p mc n ≠ 0:=h22
   have e1:Xak p mc f n=[]:=by unfold Xak;rw [L7 hE]
   have e2:Xeh p mc f n=J8 p mc n:=if_neg hE
   rw [e1,e2]
   exact ⟨none,0,rfl,(H.nilRws 73 3).pick 0 rfl⟩)
 replace h22:=Er h22
 have hE:J8 p mc n=0:=h22
 obtain ⟨fd,hfd,hF,hn65,_,_⟩:=L6 hE
 rw [hfd] at H F
 have hml:=(NR hfd).2
 have hfo:fo (some fd)=fd:=rfl
 rw [hfo] at H F;refine wp_skip (hK3 _ _ ?_);clear hK3;refine JD (fun K6 hK6=>?_);refine cSR fun K7 hK7=>Xb (f:=2) (k:=2) Tryz.underlying83 rfl Tryz.sizeOf81 rfl rfl F rfl (Xc Tryz.isAgg81 rfl (H.cell 0 rfl rfl) (Xx Tryz.underlying81 rfl (Xh rfl (qNK hK7 ?_))));clear hK7;clear F a;intro a F;refine wp_block ?_
 refine JN [6,10,25,26] (fun m ups w=>∃ i:Nat,m=fd.ends.length - i∧ups=[(27,.int .i64 ((i:Nat):Int))]∧i≤fd.ends.length∧(∀ j k,j < i→fd.ends[j]? = some k→same 38 (Qh (fd.list.getD k zb)) f=false)∧Own w0 none w [.rws 60 142 (.slice A1 fd.list.length k1) (fd.list.map (bs 142)),.rws 122 4 (.slice A2 fd.links.length k2) (fd.links.map lkC),.rws 3 1 (.slice A3 fd.ends.length k3) (fd.ends.map enC),.blk b10 [.slice A1 fd.list.length k1,.slice A2 fd.links.length k2,.slice A3 fd.ends.length k3] 83,.blk b6 (bs 38 f) 34]) F (fd.ends.length) [(27,.int .i64 ((0:Nat):Int))] ?_ ?_
 · exact ⟨0,rfl,rfl,by omega,fun j k hj=>absurd hj (by omega),H.sel [1,2,3,0,4] rfl rfl⟩
 clear F
 clear H
 intro m ups a w hI F
 obtain ⟨i,rfl,rfl,hi,hno,H⟩:=hI
 refine cSR fun K8 hK8=>Xg F rfl rfl QF (qNK hK8 ?_);clear hK8;clear F a;intro a F;refine JD (fun K9 hK9=>?_)
 refine cIf F rfl (fun h28=>?_) (fun h28=>?_)
 ·
  replace h28:=of_decide_eq_true h28
  have hil:i < fd.ends.length:=by omega
  obtain ⟨k,hk⟩:∃ k,fd.ends[i]? = some k:=⟨_,List.getElem?_eq_getElem hil⟩
  obtain ⟨s,hs,_⟩:=(La hF).1 (List.mem_of_getElem? hk)
  have hkl:k < fd.list.length:=(List.getElem?_eq_some_iff.1 hs).1
  have hgd:fd.list.getD k zb=s:=by rw [List.getD_eq_getElem?_getD,hs];rfl
  obtain ⟨bE,oE,rfl,hRE⟩:=H.rowsAt 2 rfl (fun r hr=>by obtain ⟨x,_,rfl⟩:=List.mem_map.1 hr;rfl) (by decide) i (enC k) (by rw [List.getElem?_map,hk];rfl)
  obtain ⟨bS,oS,rfl,hRS⟩:=H.rowsAt 0 rfl (My _) (by decide) k (bs 142 s) (by rw [List.getElem?_map,hs];rfl)
  refine wp_skip (hK9 _ _ ?_);clear hK9;refine JD (fun K10 hK10=>?_);refine wp_block ?_;refine cSR fun K11 hK11=>?_
  refine sIx Tryz.underlying81 Tryz.sizeOf3 F rfl rfl rfl rfl ?_ ?_
  focus (omega)
  clear F a;intro a F;refine sLd Tryz.isAgg3 F rfl rfl rfl (by simpa using hRE 0 _ rfl) (Xd rfl (qNK hK11 ?_));clear hK11;clear F a;intro a F;refine JD (fun K12 hK12=>?_);refine Xi H ?_;replace H:=H.drew;refine Xj 0 rfl F rfl (fun w=>rFa (f:=0) (k:=0) Tryz.underlying83 rfl Tryz.sizeOf39 rfl rfl F rfl) H qq0 (Xl 1 rfl rfl rfl (fun a F w H=>rLd Tryz.isAgg39 F rfl (H.cell 3 rfl rfl)) H qq0 (Xm 2 rfl rfl (fun a F w=>rMv F rfl) H qq0 ?_));clear F a;intro a F
  refine Xq (k:=3) (i:=3) rfl F rfl (fun w=>rIx Tryz.underlying39 Tryz.sizeOf60 F rfl rfl ?_) H (fun _ _ _ h=>h) ?_
  focus exact hkl
  clear F a;intro a F
  refine Xk (k:=4) (i:=4) rfl F rfl rfl (fun w H=>Nt Tryz.underlying60 rfl Tryz.sizeOf60 F rfl (by obtain ⟨b',o',g1,g2⟩:=H.rowsAt 0 rfl (My _) (by decide) k (bs 142 s) (by rw [List.getElem?_map,hs];rfl);cases g1;exact g2)) H (fun _ _ _ h=>h) ?_;clear F a;intro a F
  refine Xv 6 rfl F rfl rfl (fun w H=>Nt Tryz.underlying34 rfl Tryz.sizeOf34 F rfl (H.whole 4 rfl)) H qq0 ?_;clear F a;intro a F;refine Xn (k:=6) (i:=5) rfl F (J3 Tryz.call24 F rfl rfl (Xb6 s _) (gG H ?_));clear F a H;intro a w F H;refine JR H ?_;refine Xj 7 rfl F rfl (fun w=>Q0 F rfl rfl (XjT Xky Xkr rfl)) H qq0 ?_;clear F a;intro a F;refine Xp (k:=8) ?_;refine hK12 _ _ ?_;clear hK12
  refine cIf F rfl (fun h38=>?_) (fun h38=>?_)
  ·
   refine cSR fun K13 hK13=>?_
   refine Xw Tryz.underlying83 rfl ?si F rfl (H.whole 3 rfl) ?_
   case si=>exact Jz Tryz.sizeOf83
   clear F a;intro a F;refine Xf F rfl ?_;clear F a;intro a F;refine Xu Tryz.call26 F rfl (Xi4 p mc n.toNat fd hF hn65 k hkl _ _ _ _ _ _ _ (H.rowsAt 1 rfl (fun r hr=>by obtain ⟨x,_,rfl⟩:=List.mem_map.1 hr;rfl) (by decide))) ?_;rintro e w ⟨AW,cW,rfl,H2⟩;replace H:=H.join H2;clear H2;refine ⟨_,rfl,?_⟩;clear F a;intro a F;refine Xa F rfl (Xd rfl (qNK hK13 ?_));clear hK13;clear F a;intro a F;refine wp_ret ?_;refine xI ?_;refine Et Tryz.results9 F rfl rfl ?_
   (have hh:=Xkq hk hno (by rw [hgd];exact h38)
    have e1:Xak p mc f n=E8 fd k:=by unfold Xak;rw [hfd];simp only [hh]
    have e2:Xeh p mc f n=0:=by unfold Xeh;rw [if_pos hE,hfd];simp only [hfo,hh]
    rw [e1,e2]
    exact ⟨AW,cW,rfl,H.pick 0 rfl⟩)
  refine wp_skip (hK10 _ _ (JY ?_));clear hK10
  refine Xg F rfl rfl (JJ (j:=1) ?_) ?_
  focus omega
  clear F a;intro a F;refine Xf F rfl ?_;clear F a;intro a F;refine J4 ?_
  exact ⟨_,by omega,_,⟨i+1,rfl,rfl,by omega,fun j k' hj hk'=>(by
   rcases Nat.lt_or_ge j i with h | h
   · exact hno j k' h hk'
   · obtain rfl:j=i:=by omega
     rw [hk] at hk';cases hk'
     rw [hgd];exact h38),H.sel [0,1,2,3,4] rfl rfl⟩,F.tt⟩
 replace h28:=of_decide_eq_false h28;refine wp_exit ?_;refine hK6 _ _ (cSR fun K14 hK14=>Xa F rfl (Xd rfl (qNK hK14 ?_)));clear hK6 hK14;clear F a;intro a F;refine wp_ret ?_;refine Et Tryz.results9 F rfl rfl ?_
 (have hh:D9 fd f=none:=XhV (fun j k hj=>hno j k (by omega))
  have e1:Xak p mc f n=[]:=by unfold Xak;rw [hfd];simp only [hh]
  have e2:Xeh p mc f n=6:=by unfold Xeh;rw [if_pos hE,hfd];simp only [hfo,hh]
  rw [e1,e2]
  exact ⟨none,0,rfl,(H.nilRws 73 3).pick 0 rfl⟩)
-- RnF
open Go.RowKit
set_option maxRecDepth 100000
def Cl (fd:Fnd):List By:=fd.ends.map fun k=>Qh (fd.list.getD k zb)
theorem Xkt (fd:Fnd):tl (Cl fd)=Xda fd:=by
 unfold tl Cl Xda
 rw [List.map_map];rfl
def XiM (p:Prg) (m:UInt8) (n:Int) (l:List By):Prop:=(J8 p m n ≠ 0→l=[])∧(J8 p m n=0→l ≠ []∧l.length≤65536∧MO (tl l)∧∀ x,x ∈ tl l ↔ OutM p m x)
theorem C6 (cs:List Value) (p:Prg) (w0:World) (hP:ProgAt w0 cs p) (hN:NeedsAt w0) (mc:UInt8) (n:Int) (hlo : -9223372036854775808≤n) (hhi:n≤9223372036854775807) :
   Calls Tryz.prog 7 #[.agg cs.toArray,YtcpehikcegoojaaGreatDoor.b8 mc,.int .i64 n] w0 fun e w'=>∃ (A:Option Addr) (c:Nat) (l2:List By),e = .returned (.tuple #[.slice A l2.length c,.int .i64 (J8 p mc n)])∧XiM p mc n l2∧Own w0 none w' [.rws 34 38 (.slice A l2.length c) (l2.map (bs 38))]:=by
 have H:=Own.start w0 none
 have hP0:=hP
 obtain ⟨LA,LC,IA,IC,TA,TC,h,ccs,hp⟩:=hP
 obtain ⟨c1,c2,c3,c4,c5,rfl⟩:=DM (JT hp.cond)
 have hcs:=hp.cs
 subst hcs;refine JF Tryz.func7 rfl Tryz.ntmps7 rfl (fun a F=>?_);refine cSR fun K1 hK1=>?_;refine sBx H F rfl rfl rfl ?_;clear F a H;intro b3 a w F H;refine Xa F rfl (Xd rfl (qNK hK1 (qSR fun K2 hK2=>?_)));clear hK1;clear F a;intro a F
 refine Xw Tryz.underlying29 rfl ?si F rfl (H.whole 0 rfl) ?_
 case si=>exact Jz Tryz.sizeOf29
 clear F a;intro a F;refine Xf F rfl (Xh rfl ?_);clear F a;intro a F;refine Xu Tryz.call23 F rfl (LG _ p _ (hP0.own H) (hN.own H) mc n hlo hhi) ?_;rintro e w ⟨A1,k1,A2,k2,A3,k3,rfl,H2⟩;replace H:=H.join H2;clear H2;refine ⟨_,rfl,?_⟩;clear F a;intro a F;refine Xf F rfl (NU rfl rfl rfl rfl (NU rfl rfl rfl rfl ?_));clear F a;intro a F;refine sAl H Tryz.zeroValue83 F rfl rfl ?_;clear F a H;intro b8 a w F H
 refine sSr H 0 ?si F rfl rfl rfl ?s1 rfl rfl ?_
 case si=>exact Jz Tryz.sizeOf83
 case s1=>rfl
 clear H;intro w H;refine Xa F rfl (qNK hK2 ?_);clear hK2;clear F a;intro a F;refine JD (fun K3 hK3=>?_);refine cSR fun K4 hK4=>Xf F rfl (Xe rfl rfl DR (qNK hK4 ?_));clear hK4;clear F a;intro a F
 refine cIf F rfl (fun h21=>?_) (fun h21=>?_)
 ·
  replace h21:=Ep h21;refine cSR fun K5 hK5=>Xf F rfl (Xd rfl (Xd rfl (qNK hK5 ?_)));clear hK5;clear F a;intro a F;refine wp_ret ?_;simp only [Exit.then];refine Et Tryz.results7 F rfl rfl ?_
  (have hE:J8 p mc n ≠ 0:=h21
   exact ⟨none,0,[],rfl,⟨fun _=>rfl,fun h=>absurd h hE⟩,(H.nilRws 34 38).pick 0 rfl⟩)
 replace h21:=Er h21
 have hE:J8 p mc n=0:=h21
 obtain ⟨fd,hfd,hF,hn65,_,_⟩:=L6 hE
 rw [hfd] at H F
 have hml:=(NR hfd).2
 have hfo:fo (some fd)=fd:=rfl
 rw [hfo] at H F
 have hfl:∀ i,i≤fd.ends.length→((Cl fd).take i).length=i:=fun i hi=>by rw [List.length_take];unfold Cl;rw [List.length_map];omega
 refine wp_skip (hK3 _ _ (cSR fun K6 hK6=>Xa F rfl ?_));clear hK3;clear F a;intro a F
 replace H:=H.nilRws 34 38
 refine nK hK6 ?_;clear hK6;refine JD (fun K7 hK7=>?_);refine cSR fun K8 hK8=>Xb (f:=2) (k:=2) Tryz.underlying83 rfl Tryz.sizeOf81 rfl rfl F rfl (Xc Tryz.isAgg81 rfl (H.cell 1 rfl rfl) (Xx Tryz.underlying81 rfl (Xh rfl (qNK hK8 ?_))));clear hK8;clear F a;intro a F;refine wp_block ?_
 refine JN [8,24,25] (fun m ups w=>∃ (i:Nat) (A4:Option Addr) (c4:Nat),m=fd.ends.length - i∧ups=[(10,.slice A4 ((Cl fd).take i).length c4),(26,.int .i64 ((i:Nat):Int))]∧i≤fd.ends.length∧Own w0 none w [.rws 34 38 (.slice A4 ((Cl fd).take i).length c4) (((Cl fd).take i).map (bs 38)),.rws 60 142 (.slice A1 fd.list.length k1) (fd.list.map (bs 142)),.rws 3 1 (.slice A3 fd.ends.length k3) (fd.ends.map enC),.blk b8 [.slice A1 fd.list.length k1,.slice A2 fd.links.length k2,.slice A3 fd.ends.length k3] 83]) F (fd.ends.length) [(10,.slice none 0 0),(26,.int .i64 ((0:Nat):Int))] ?_ ?_
 · exact ⟨0,none,0,rfl,rfl,by omega,H.sel [0,2,4,1] rfl rfl⟩
 clear F
 clear H
 intro m ups a w hI F
 obtain ⟨i,A4,c4,rfl,rfl,hi,H⟩:=hI
 refine cSR fun K9 hK9=>Xg F rfl rfl QF (qNK hK9 ?_);clear hK9;clear F a;intro a F;refine JD (fun K10 hK10=>?_)
 refine cIf F rfl (fun h27=>?_) (fun h27=>?_)
 ·
  replace h27:=of_decide_eq_true h27
  have hil:i < fd.ends.length:=by omega
  obtain ⟨k,hk⟩:∃ k,fd.ends[i]? = some k:=⟨_,List.getElem?_eq_getElem hil⟩
  obtain ⟨s,hs,_⟩:=(La hF).1 (List.mem_of_getElem? hk)
  have hkl:k < fd.list.length:=(List.getElem?_eq_some_iff.1 hs).1
  have hgd:fd.list.getD k zb=s:=by rw [List.getD_eq_getElem?_getD,hs];rfl
  obtain ⟨bE,oE,rfl,hRE⟩:=H.rowsAt 2 rfl (fun r hr=>by obtain ⟨x,_,rfl⟩:=List.mem_map.1 hr;rfl) (by decide) i (enC k) (by rw [List.getElem?_map,hk];rfl)
  obtain ⟨bS,oS,rfl,hRS⟩:=H.rowsAt 1 rfl (My _) (by decide) k (bs 142 s) (by rw [List.getElem?_map,hs];rfl)
  have hsn:(Cl fd).take (i+1)=(Cl fd).take i++[Qh s]:=by
   rw [List.take_add_one]
   unfold Cl
   rw [List.getElem?_map,hk]
   show _++[Qh (fd.list.getD k zb)]=_
   rw [hgd]
  refine wp_skip (hK10 _ _ ?_);clear hK10;refine JD (fun K11 hK11=>?_);refine wp_block ?_;refine cSR fun K12 hK12=>?_
  refine sIx Tryz.underlying81 Tryz.sizeOf3 F rfl rfl rfl rfl ?_ ?_
  focus (omega)
  clear F a;intro a F;refine sLd Tryz.isAgg3 F rfl rfl rfl (by simpa using hRE 0 _ rfl) (Xd rfl (qNK hK12 (Ef (Xh rfl (Xr (f:=0) (k:=0) Tryz.underlying83 rfl Tryz.sizeOf39 rfl rfl rfl (Xc Tryz.isAgg39 rfl (H.cell 3 rfl rfl) (Xh rfl ?_)))))));clear hK12;clear F a;intro a F
  refine sIx Tryz.underlying39 Tryz.sizeOf60 F rfl rfl rfl rfl ?_ ?_
  focus exact hkl
  clear F a;intro a F
  refine Xs Tryz.underlying60 rfl Tryz.sizeOf60 F rfl (by obtain ⟨b',o',g1,g2⟩:=H.rowsAt 1 rfl (My _) (by decide) k (bs 142 s) (by rw [List.getElem?_map,hs];rfl);cases g1;exact g2) ?_;clear F a;intro a F
  refine Xu Tryz.call24 F rfl (Xb6 s _) (gG H ?_);clear F a H;intro a w F H;refine Cf H Tryz.underlying43 Tryz.sizeOf34 Tryz.zeroValue34 rfl F rfl rfl rfl rfl rfl ?_;clear F a H;intro b37 a w F H
  refine Mq (bytes:=38) H 1 Tryz.underlying43 Tryz.typeInfo34 rfl rfl rfl rfl rfl rfl F rfl rfl rfl rfl rfl (H.whole 0 rfl) rfl ?s1 ?s2 ?_
  case s1=>rfl
  case s2=>(rw [List.length_map,hfl i hi];omega)
  clear F a H;intro A38 c38 a w F H;refine Xa F rfl (qNK hK11 (Ef ?_));clear hK11;clear F a;intro a F
  refine Xg F rfl rfl (JJ (j:=1) ?_) ?_
  focus omega
  clear F a;intro a F;refine Xf F rfl ?_;clear F a;intro a F;refine J4 ?_
  have e2:((Cl fd).take i).map (bs 38)++[bs 38 (Qh s)]=((Cl fd).take (i+1)).map (bs 38):=by rw [hsn,List.map_append];rfl
  have e3:(((Cl fd).take i).map (bs 38)++[bs 38 (Qh s)]).length=((Cl fd).take (i+1)).length:=by rw [e2,List.length_map]
  rw [e3] at F H;rw [e2] at H
  exact ⟨_,by omega,_,⟨i+1,A38,c38,rfl,rfl,by omega,H.sel [1,2,3,4] rfl rfl⟩,F.tt⟩
 replace h27:=of_decide_eq_false h27
 have hei:i=fd.ends.length:=by omega
 have hall:(Cl fd).take i=Cl fd:=List.take_of_length_le (by unfold Cl;rw [List.length_map];omega)
 rw [hall] at F H
 have hlf:(Cl fd).length=fd.ends.length:=by unfold Cl;rw [List.length_map]
 have hne:Cl fd ≠ []:=fun e=>by
  have:fd.ends=[]:=List.eq_nil_of_length_eq_zero (by rw [← hlf,e];rfl)
  exact Xh3 hF this
 refine wp_exit ?_;refine hK7 _ _ (cSR fun K13 hK13=>Xf F rfl ?_);clear hK7;clear F a;intro a F;refine Xu Tryz.call25 F rfl (Xhk A4 c4 (Cl fd) _ (H.rowsAt 0 rfl (Ld _) (by decide)) (by omega) hne) ?_;rintro e w ⟨A5,c5,l2,rfl,hle2,hris,hmem,H2⟩;replace H:=H.join H2;clear H2;refine ⟨_,rfl,?_⟩;clear F a;intro a F;refine Xa F rfl (Xd rfl (qNK hK13 ?_));clear hK13;clear F a;intro a F;refine wp_ret ?_;refine Et Tryz.results7 F rfl rfl ?_
 (rw [hE]
  refine ⟨A5,c5,l2,rfl,⟨fun h=>absurd hE h,fun _=>⟨?_,?_,hris,fun x=>?_⟩⟩,H.pick 0 rfl⟩
  · intro e
    obtain ⟨y,hy⟩:=List.exists_mem_of_ne_nil _ hne
    have:=(hmem (toL 38 y)).2 (List.mem_map.2 ⟨y,hy,rfl⟩)
    rw [e] at this;cases this
  · omega
  · rw [hmem,Xkt]
    exact XaU hF)
-- BwA
open Go.Proofs.Tryz
open Go.RowKit
set_option maxRecDepth 100000
theorem RowsAt.ofRange {w:World} {b sz:Nat}:∀ {rows:List (List Value)} {o:Nat},w.rangeAt b o rows.flatten→(∀ r ∈ rows,r.length=sz)→RowsAt w (some ⟨b,o,none⟩) sz rows:=by
 intro rows o h hr j cs hj
 refine ⟨b,o,rfl,fun k v hk=>?_⟩
 have key:∀ (rows:List (List Value)),(∀ r ∈ rows,r.length=sz)→∀ j cs,rows[j]? = some cs→∀ k v,cs[k]? = some v→rows.flatten[j * sz+k]? = some v:=by
   intro rows hr
   induction rows with
   | nil=>intro j cs hj;simp at hj
   | cons r0 rest ih=>
     intro j cs hj k v hk
     have h0:r0.length=sz:=hr r0 (by simp)
     cases j with
     | zero=>
       simp at hj;subst hj
       have:k < r0.length:=(List.getElem?_eq_some_iff.1 hk).1
       rw [List.flatten_cons,List.getElem?_append_left (by omega)];simpa using hk
     | succ j=>
       rw [List.flatten_cons,List.getElem?_append_right (by rw [h0,Nat.add_mul];omega),h0]
       have e1:(j+1) * sz+k - sz=j * sz+k:=by rw [Nat.add_mul];omega
       rw [e1]
       exact ih (fun r hm=>hr r (by simp [hm])) j cs (by simpa using hj) k v hk
 have:=h (j * sz+k) v (key rows hr j cs hj k v hk)
 rwa [Nat.add_assoc]
def sbP:Prg where
 name:=⟨#[115,98]⟩
 locs:=[⟨#[120]⟩,⟨#[121]⟩]
 init:=[0,0]
 threads:=[[⟨2,0,0,false,1,false,0,0,0,0⟩,⟨1,0,1,false,0,false,0,0,0,0⟩],[⟨2,0,1,false,1,false,0,0,0,0⟩,⟨1,0,0,false,0,false,0,0,0,0⟩]]
 ask:=1
 cond:=.mk 0 0 0 0 []
def Xfq (b1 b2 b3:Nat):List Value:=[.string ⟨#[115,98]⟩,.slice (some ⟨b1,0,none⟩) 2 2,.slice (some ⟨b2,0,none⟩) 2 2,.slice (some ⟨b3,0,none⟩) 2 2,b8 1,b8 0,b8 0,b8 0,b8 0,.slice none 0 0]
def Xj1 (b1 b2 b3 b4 b5:Nat):List Res:=[.blk b3 [.slice (some ⟨b4,0,none⟩) 2 2,.slice (some ⟨b5,0,none⟩) 2 2] 93,.blk b5 ((sbP.threads.getD 1 []).map Ins.cells).flatten 92,.blk b4 ((sbP.threads.getD 0 []).map Ins.cells).flatten 92,.blk b2 [b8 0,b8 0] 5,.blk b1 [.string ⟨#[120]⟩,.string ⟨#[121]⟩] 9]
theorem Xa5 (w0:World) :
   Calls Tryz.prog 15 #[] w0 fun e w'=>∃ b1 b2 b3 b4 b5,e = .returned (.agg (Xfq b1 b2 b3).toArray)∧Own w0 none w' (Xj1 b1 b2 b3 b4 b5):=by
 have H:=Own.start w0 none
 refine JF func15 rfl ntmps15 rfl (fun a F=>?_);refine cSR fun K1 hK1=>?_;refine sAl H zeroValue29 F rfl rfl ?_;clear F a H;intro b0 a w F H;refine nK hK1 (cSR fun K2 hK2=>?_);clear hK1;refine sBs H Yk YL zeroValue9 rfl F rfl rfl rfl rfl rfl ?_;clear F a H;intro b1 a w F H;refine sBs H Yt XH zeroValue5 rfl F rfl rfl rfl rfl rfl ?_;clear F a H;intro b2 a w F H;refine sBd (places:=[(0,1),(1,1)]) zeroValue90 XV (by kernel_rfl) F rfl rfl rfl rfl (qBd (places:=[(0,1),(1,1),(2,1),(3,2),(5,2),(7,1),(8,1),(9,1)]) Yu XI (by kernel_rfl) rfl rfl rfl rfl (qBd (places:=[(0,1),(1,1),(2,1),(3,2),(5,2),(7,1),(8,1),(9,1)]) Yu XI (by kernel_rfl) rfl rfl rfl rfl ?_));clear F a;intro a F;refine sBs H Yl XP Yu rfl F rfl rfl rfl rfl rfl ?_;clear F a H;intro b6 a w F H;refine sBd (places:=[(0,1),(1,1)]) zeroValue90 XV (by kernel_rfl) F rfl rfl rfl rfl (qBd (places:=[(0,1),(1,1),(2,1),(3,2),(5,2),(7,1),(8,1),(9,1)]) Yu XI (by kernel_rfl) rfl rfl rfl rfl (qBd (places:=[(0,1),(1,1),(2,1),(3,2),(5,2),(7,1),(8,1),(9,1)]) Yu XI (by kernel_rfl) rfl rfl rfl rfl ?_));clear F a;intro a F;refine sBs H Yl XP Yu rfl F rfl rfl rfl rfl rfl ?_;clear F a H;intro b10 a w F H;refine sBs H X7 YB zeroValue93 rfl F rfl rfl rfl rfl rfl ?_
 clear F a H;intro b11 a w F H;refine sBd (places:=[(0,1),(1,1),(2,1),(3,1),(4,1),(5,5)]) zeroValue29 XM (by kernel_rfl) F rfl rfl rfl rfl ?_;clear F a;intro a F
 refine sSr H 5 ?si F rfl rfl rfl ?s1 rfl rfl ?_
 case si=>exact Jz Ya
 case s1=>rfl
 clear H;intro w H;refine nK hK2 ?_;clear hK2;refine wp_ret ?_;refine XjC results15 F rfl XM rfl H 5 rfl Ya rfl ?_
 exact ⟨_,_,_,_,_,rfl,H.sel [0,1,2,3,4] rfl rfl⟩
theorem Di {w0 w:World} {row:Option Nat} {b1 b2 b3 b4 b5:Nat} (H:Own w0 row w (Xj1 b1 b2 b3 b4 b5)):ProgAt w (Xfq b1 b2 b3) sbP:=by
 refine ⟨some ⟨b1,0,none⟩,2,some ⟨b2,0,none⟩,2,some ⟨b3,0,none⟩,2,1,[b8 0,b8 0,b8 0,b8 0,.slice none 0 0],?_⟩
 have h3:=H.blk 0 rfl
 have h5:=H.whole 1 rfl
 have h4:=H.whole 2 rfl
 have h2:=H.whole 3 rfl
 have h1:=H.whole 4 rfl
 have hone:∀ (l:List Ins) (r:List Value),r ∈ l.map Ins.cells→r.length=10:=fun l r hr=>by
   obtain ⟨x,_,rfl⟩:=List.mem_map.1 hr;rfl
 refine ⟨rfl,by decide,RowsAt.ofRange (sz:=1) (rows:=[[_],[_]]) h1 (by simp),by decide,by decide,?_,RowsAt.ofRange (sz:=1) (rows:=[[_],[_]]) h2 (by simp),by decide,?_,by decide,none,0,rfl,by decide,fun j kid hj=>by simp at hj⟩
 · intro s hs
   have:s=⟨#[120]⟩∨s=⟨#[121]⟩:=by simpa [sbP] using hs
   rcases this with rfl | rfl <;> decide
 · intro j t hj
   match j,hj with
   | 0,hj=>cases hj;exact ⟨b3,0,some ⟨b4,0,none⟩,2,rfl,h3.cell 0 rfl,RowsAt.ofRange h4 (hone _),by decide⟩
   | 1,hj=>cases hj;exact ⟨b3,0,some ⟨b5,0,none⟩,2,rfl,h3.cell 1 rfl,RowsAt.ofRange h5 (hone _),by decide⟩
   | n+2,hj=>simp [sbP] at hj
theorem Xji {a:Bool} (h:a=true) (h2:a=false) {G:Prop}:G:=by rw [h] at h2;cases h2
theorem Xkv {α:Type} {l q:List α} (hl:l.length=q.length) (h:∀ i,i < l.length→l[i]? = q[i]?):l=q:=by
 refine List.ext_getElem? fun i=>?_
 rcases Nat.lt_or_ge i l.length with h1 | h1
 · exact h i h1
 · rw [List.getElem?_eq_none h1,List.getElem?_eq_none (by omega)]
theorem Do (A B:Option Addr) (CA CB:Nat) (l q:List Pss) (w0:World) (hA:RowsAt w0 A 3 (l.map Pss.cells)) (hB:RowsAt w0 B 3 (q.map Pss.cells)) (hl:l.length≤9223372036854775807) (hq:q.length≤9223372036854775807) :
   Calls Tryz.prog 14 #[.slice A l.length CA,.slice B q.length CB] w0 fun e w'=>e = .returned (.bool (decide (l=q)))∧Below w0.heap.size w0 w':=by
 have H:=Own.start w0 none
 refine JF func14 rfl ntmps14 rfl (fun a F=>?_);refine cSR fun K1 hK1=>Xa F rfl (qNK hK1 ?_);clear hK1;clear F a;intro a F;refine JD (fun K2 hK2=>?_);refine cSR fun K3 hK3=>Xf F rfl (Xx XX rfl (Xh rfl (Xx XX rfl (Xe rfl rfl DR (qNK hK3 ?_)))));clear hK3;clear F a;intro a F
 refine cIf F rfl (fun h10=>?_) (fun h10=>?_)
 ·
  replace h10:=Ep h10;refine cSR fun K4 hK4=>Xa F rfl (qNK hK4 ?_);clear hK4;clear F a;intro a F;refine wp_ret ?_;simp only [Exit.then];refine JI results14 F rfl ?_
  refine ⟨JZ ?_,H.below⟩
  clear F H
  exact (decide_eq_false (fun e=>by subst e;omega)).symm
 replace h10:=Er h10;refine wp_skip (hK2 _ _ ?_);clear hK2;refine JD (fun K5 hK5=>?_);refine cSR fun K6 hK6=>Xf F rfl (Xx XX rfl (Xh rfl (qNK hK6 ?_)));clear hK6;clear F a;intro a F;refine wp_block ?_
 refine JN [0,1,12] (fun m ups w=>∃ j:Nat,m=l.length - j∧ups=[(13,.int .i64 ((j:Nat):Int))]∧j≤l.length∧(∀ i,i < j→l[i]? = q[i]?)∧Own w0 none w []) F (l.length) [(13,.int .i64 ((0:Nat):Int))] ?_ ?_
 · exact ⟨0,rfl,rfl,by omega,fun i hi=>absurd hi (by omega),H.sel [] rfl rfl⟩
 clear F
 clear H
 intro m ups a w hI F
 obtain ⟨j,rfl,rfl,hj,ht,H⟩:=hI
 refine cSR fun K7 hK7=>Xg F rfl rfl QF (qNK hK7 ?_);clear hK7;clear F a;intro a F;refine JD (fun K8 hK8=>?_)
 refine cIf F rfl (fun h14=>?_) (fun h14=>?_)
 ·
  replace h14:=of_decide_eq_true h14
  obtain ⟨x,hx⟩:∃ x,l[j]? = some x:=⟨_,List.getElem?_eq_getElem (by omega)⟩
  obtain ⟨y,hy⟩:∃ y,q[j]? = some y:=⟨_,List.getElem?_eq_getElem (by omega)⟩
  obtain ⟨bA,oA,rfl,hAx⟩:=hA j x.cells (by rw [List.getElem?_map,hx];rfl)
  obtain ⟨bB,oB,rfl,hBy⟩:=hB j y.cells (by rw [List.getElem?_map,hy];rfl)
  refine wp_skip (hK8 _ _ ?_);clear hK8;refine JD (fun K9 hK9=>?_);refine wp_block ?_;refine cSR fun K10 hK10=>Xf F rfl (Xd rfl (qNK hK10 ?_));clear hK10;clear F a;intro a F;refine JD (fun K11 hK11=>?_);refine Xi H ?_;replace H:=H.drew;refine Xj 0 rfl F rfl (fun w=>rMv F rfl) H qq0 (Xm 1 rfl rfl (fun a F w=>rMv F rfl) H qq0 ?_);clear F a;intro a F
  refine Xq (k:=2) (i:=2) rfl F rfl (fun w=>rIx XX Yd F rfl rfl ?_) H (fun _ _ _ h=>h) ?_
  focus (omega)
  clear F a;intro a F
  refine Xk (k:=3) (i:=3) rfl F rfl rfl (fun w H=>rLr X6 rfl ?si F rfl (H.argR hAx)) H (fun _ _ _ h=>h) ?_
  case si=>exact Jz Yd
  clear F a;intro a F;refine Xj 4 rfl F rfl (fun w=>rMv F rfl) H qq0 (Xm 5 rfl rfl (fun a F w=>rMv F rfl) H qq0 ?_);clear F a;intro a F
  refine Xq (k:=6) (i:=6) rfl F rfl (fun w=>rIx XX Yd F rfl rfl ?_) H (fun _ _ _ h=>h) ?_
  focus (omega)
  clear F a;intro a F
  refine Xk (k:=7) (i:=7) rfl F rfl rfl (fun w H=>rLr X6 rfl ?si F rfl (H.argR hBy)) H (fun _ _ _ h=>h) ?_
  case si=>exact Jz Yd
  clear F a;intro a F;refine Xj 8 rfl F rfl (fun w=>Q0 F rfl rfl (bNeX (x:=x) (y:=y))) H qq0 ?_;clear F a;intro a F;refine Xp (k:=9) ?_;refine hK11 _ _ ?_;clear hK11
  refine cIf F rfl (fun h24=>?_) (fun h24=>?_)
  ·
   refine cSR fun K12 hK12=>Xa F rfl (qNK hK12 ?_);clear hK12;clear F a;intro a F;refine wp_ret ?_;refine xI ?_;refine JI results14 F rfl ?_
   refine ⟨JZ ?_,H.below⟩
   clear F H
   exact (decide_eq_false (fun e=>by subst e;rw [hx] at hy;cases hy;simp at h24)).symm
  refine wp_skip (hK9 _ _ (JY ?_));clear hK9
  refine Xg F rfl rfl (JJ (j:=1) ?_) ?_
  focus omega
  clear F a;intro a F;refine Xf F rfl ?_;clear F a;intro a F;refine J4 ?_
  (have hxy:x=y:=by simpa using h24
   have hs:∀ i,i < j+1→l[i]? = q[i]?:=fun i hi=>by
    rcases Nat.lt_or_ge i j with h1 | h1
    · exact ht i h1
    · obtain rfl:i=j:=by omega
      rw [hx,hy,hxy]
   exact ⟨_,by omega,_,⟨j+1,rfl,rfl,by omega,hs,H.sel [] rfl rfl⟩,F.tt⟩)
 replace h14:=of_decide_eq_false h14;refine wp_exit ?_;refine hK5 _ _ (cSR fun K13 hK13=>Xa F rfl (qNK hK13 ?_));clear hK5 hK13;clear F a;intro a F;refine wp_ret ?_;refine JI results14 F rfl ?_
 refine ⟨JZ ?_,H.below⟩
 clear F H
 exact (decide_eq_true (Xkv (show l.length=q.length by omega) (fun i hi=>ht i (by omega)))).symm
-- RnV
set_option maxRecDepth 1000000
def scL:List Nat:=[0,0x1000000000000000000000000000000000000000000000000000000000000000000000001,0x100000000000000000000000000000000000000000000000000000001000000000000000000,0x1000000000000000000000000000000000000000000000000000000000000000000000002,0x101000000000000000000000000000000000000000000000000000001000000000000000001,0x100000000000000000000000000000000000000000000000000000002000000000000000000,0x101000000000000000000000000000000000000000000000000000001000000000000000002,0x101000000000000000000000000000000000000000000000000000001000000000000000102,0x101000000000000000000000000000000000000000000000000000102000000000000000001,0x101000000000000000000000000000000000000000000000000000002000000000000000001,0x101000000000000000000000000000000000000000000000000000102000000000000000002,0x101000000000000000000000000000000000000000000000000000102000000000000000102,0x101000000000000000000000000000000000000000000000000000002000000000000000102]
def tsL:List Nat:=[0,0x1000000000000000000000000000000000000000000000000000000000000000000000000000000000000000000000000000000000000000000000000000000000000000000000000000000000000000000000000000000000000000000000100000000000000000000000000000000000000000000000000000000000000000000000000000000000001,0x100000000000000000000000000000000000000000000000000000000000000000000000000000000000000000000000000000000000000000000000000000000000000000000000101000000000000000000000000000000000000000000000000000000000000000000000000000000000000000000000000000000000000000001000000000000000000,0x1000000000000000000000000000000000000000000000000000000000000000000000000000000000000000000000000000000000000000000000000000000000000000000000000000000000000000000000000000000000000000000000100000000000000000000000000000000000000000000000000000000000000000000000000000000000002,0x1000000000000000000000000000000000000000000000000000000000000000000000001,0x101000000000000000000000000000000000000000000000000000000000000000000000000000000000000000000000000000000000000000000000000000000000000000000000101000000000000000000000000000000000000000000000100000000000000000000000000000000000000000000000000000000000000000001000000000000000001,0x100000000000000000000000000000000000000000000000000000000000000000000000000000000000000000000000000000000000000000000000000000000000000000000000101000000000000000000000000000000000000000000000000000000000000000000000000000000000000000000000000000000000000000002000000000000000000,0x100000000000000000000000000000000000000000000000000000001000000000000000000,0x1000000000000000000000000000000000000000000000000000000000000000000000002,0x101000000000000000000000000000000000000000000000000000000000000000000000000000000000000000000000000000000000000000000000000000000000000000000000101000000000000000000000000000000000000000000000100000000000000000000000000000000000000000000000000000000000000000001000000000000000002,0x100000000000000000000000000000000000000000000000000000000000000000000000000000000000000000000000000000000000000000000000000000000000000000000000101000000000000000000000000000000000000000000000000000000000001000000000000000000000000000000000000000000000000000001000000000000000001,0x101000000000000000000000000000000000000000000000000000000000000000000000000000000000000000000000000000000000000000000000000000000000000000000000101000000000000000000000000000000000000000000000100000000000000000000000000000000000000000000000000000000000000000002000000000000000001,0x1000000000000000000000000000000000000000000000000000000000000000000000000000000000000000000000000000000000000000000000000000000000000000000000000000000000000000000000000000000000000000000000100000000000100000000000000000000000000000000000000000000000000000001000000000000000001,0x100000000000000000000000000000000000000000000000000000002000000000000000000,0x100000000000000000000000000000000000000000000000000000000000000000000000000000000000000000000000000000000000000000000000000000000000000000000000101000000000000000000000000000000000000000000000000000000000001000000000000000000000000000000000000000000000000000001000000000000000002,0x101000000000000000000000000000000000000000000000000000000000000000000000000000000000000000000000000000000000000000000000000000000000000000000000101000000000000000000000000000000000000000000000100000000000000000000000000000000000000000000000000000000000000000002000000000000000002,0x1000000000000000000000000000000000000000000000000000000000000000000000000000000000000000000000000000000000000000000000000000000000000000000000000000000000000000000000000000000000000000000000100000000000100000000000000000000000000000000000000000000000000000001000000000000000002,0x100000000000000000000000000000000000000000000000000000000000000000000000000000000000000000000000000000000000000000000000000000000000000000000000101000000000000000000000000000000000000000000000000000000000001000000000000000000000000000000000000000000000000000102000000000000000001,0x101000000000000000000000000000000000000000000000000000001000000000000000001,0x100000000000000000000000000000000000000000000000000000000000000000000000000000000000000000000000000000000000000000000000000000000000000000000000101000000000000000000000000000000000000000000000000000000000001000000000000000000000000000000000000000000000000000002000000000000000001,0x1000000000000000000000000000000000000000000000000000000000000000000000000000000000000000000000000000000000000000000000000000000000000000000000000000000000000000000000000000000000000000000000100000000000100000000000000000000000000000000000000000000000000000002000000000000000001,0x1000000000000000000000000000000000000000000000000000000000000000000000000000000000000000000000000000000000000000000000000000000000000000000000000000000000000000000000000000000000000000000000100000000000100000000000000000000000000000000000000000000000000000001000000000000000102,0x100000000000000000000000000000000000000000000000000000000000000000000000000000000000000000000000000000000000000000000000000000000000000000000000101000000000000000000000000000000000000000000000000000000000001000000000000000000000000000000000000000000000000000102000000000000000002,0x101000000000000000000000000000000000000000000000000000001000000000000000002,0x100000000000000000000000000000000000000000000000000000000000000000000000000000000000000000000000000000000000000000000000000000000000000000000000101000000000000000000000000000000000000000000000000000000000001000000000000000000000000000000000000000000000000000002000000000000000002,0x1000000000000000000000000000000000000000000000000000000000000000000000000000000000000000000000000000000000000000000000000000000000000000000000000000000000000000000000000000000000000000000000100000000000100000000000000000000000000000000000000000000000000000002000000000000000002,0x101000000000000000000000000000000000000000000000000000102000000000000000001,0x101000000000000000000000000000000000000000000000000000001000000000000000102,0x101000000000000000000000000000000000000000000000000000002000000000000000001,0x1000000000000000000000000000000000000000000000000000000000000000000000000000000000000000000000000000000000000000000000000000000000000000000000000000000000000000000000000000000000000000000000100000000000100000000000000000000000000000000000000000000000000000002000000000000000102,0x101000000000000000000000000000000000000000000000000000102000000000000000002,0x101000000000000000000000000000000000000000000000000000002000000000000000002,0x101000000000000000000000000000000000000000000000000000102000000000000000102,0x101000000000000000000000000000000000000000000000000000002000000000000000102]
def scQ:List (Int × Pss):=[(-1,⟨0,false,0⟩),(0,⟨0,false,0⟩),(0,⟨1,false,0⟩),(1,⟨0,false,0⟩),(1,⟨1,false,0⟩),(2,⟨1,false,0⟩),(3,⟨1,false,0⟩),(4,⟨0,false,0⟩),(4,⟨1,false,0⟩),(5,⟨0,false,0⟩),(6,⟨1,false,0⟩),(7,⟨1,false,0⟩),(9,⟨0,false,0⟩)]
def tsQ:List (Int × Pss):=[(-1,⟨0,false,0⟩),(0,⟨0,false,0⟩),(0,⟨1,false,0⟩),(1,⟨0,false,0⟩),(1,⟨0,true,0⟩),(1,⟨1,false,0⟩),(2,⟨1,false,0⟩),(2,⟨1,true,0⟩),(3,⟨0,true,0⟩),(3,⟨1,false,0⟩),(4,⟨1,false,0⟩),(5,⟨1,false,0⟩),(5,⟨1,true,0⟩),(6,⟨1,true,0⟩),(8,⟨1,false,0⟩),(9,⟨1,false,0⟩),(9,⟨1,true,0⟩),(10,⟨1,false,0⟩),(10,⟨1,true,0⟩),(11,⟨0,true,0⟩),(11,⟨1,true,0⟩),(12,⟨0,false,0⟩),(14,⟨1,false,0⟩),(14,⟨1,true,0⟩),(15,⟨0,true,0⟩),(15,⟨1,true,0⟩),(17,⟨1,true,0⟩),(18,⟨0,false,0⟩),(19,⟨1,true,0⟩),(20,⟨0,false,0⟩),(22,⟨1,true,0⟩),(24,⟨1,true,0⟩),(26,⟨0,false,0⟩),(28,⟨0,false,0⟩)]
theorem LI:JH sbP=0:=by kernel_rfl
set_option maxHeartbeats 0 in
theorem Xi2:Eb sbP 1 13 scL 14 0 1 [(-1,⟨0,false,0⟩)] []=some (13,scQ,[10,11,12]):=by kernel_rfl
set_option maxHeartbeats 0 in
theorem XiT:Eb sbP 2 1000 tsL 1001 0 1 [(-1,⟨0,false,0⟩)] []=some (34,tsQ,[30,31,32,33]):=by kernel_rfl
-- RnW
set_option maxRecDepth 1000000
def scF:Fnd:=⟨(scL.take 13).map ofN,scQ,[10,11,12]⟩
def tsF:Fnd:=⟨(tsL.take 34).map ofN,tsQ,[30,31,32,33]⟩
theorem Xau:QX sbP 1 13=some scF:=Xiz (y0:=0) LI (by decide) rfl (by kernel_rfl) Xi2
theorem XdG:QX sbP 2 1000=some tsF:=Xiz (y0:=0) LI (by decide) rfl (by kernel_rfl) XiT
theorem Xi0:QX sbP 1 1000=some scF:=(Xby (B:=1000) LI (by decide) (by decide) (by decide) Xau).1 (by decide)
theorem Xi1:QX sbP 1 12=none:=(Xby (B:=12) LI (by decide) (by decide) (by decide) Xau).2 (by decide)
theorem sb_C {m:UInt8} {n:Int} (hm:QS m=true) (h1:1≤n) (h2:n≤65536):MW sbP m n:=⟨hm,h1,h2,LI⟩
theorem Xj0:J7 sbP 1 13=some scF:=(if_pos (sb_C (by decide) (by decide) (by decide))).trans Xau
theorem XcM:J7 sbP 1 1000=some scF:=(if_pos (sb_C (by decide) (by decide) (by decide))).trans Xi0
theorem Xam:J7 sbP 2 1000=some tsF:=(if_pos (sb_C (by decide) (by decide) (by decide))).trans XdG
theorem st_E {m:UInt8} {n:Int} {fd:Fnd} (h:J7 sbP m n=some fd):J8 sbP m n=0:=by
 unfold J7 at h
 unfold J8
 split at h
 · rename_i hC
   rw [if_pos hC,h];rfl
 · cases h
theorem scE12:J8 sbP 1 12=5:=by
 unfold J8
 rw [if_pos (sb_C (by decide) (by decide) (by decide))]
 show (if (QX sbP 1 12).isSome=true then (0:Int) else 5)=5
 rw [Xi1];rfl
def XbK (x a b:UInt8):By:=fun i=>if i=0 then a else if i=8 then b else if i=32 then x else if i=33 then 1 else 0
def e4:List By:=[XbK 1 0 0,XbK 1 0 1,XbK 1 1 0,XbK 1 1 1]
theorem XgE:MO (tl e4):=of_decide_eq_true (p:=List.Pairwise (fun a b=>Nb a b < 0) (tl e4)) (by kernel_rfl)
theorem XjX:(Xda tsF).all ((tl e4).contains ·)=true:=by kernel_rfl
theorem XjW:(tl e4).all ((Xda tsF).contains ·)=true:=by kernel_rfl
theorem Xfd {l:List By} (h:XiM sbP 2 1000 l):tl l=tl e4:=by
 obtain ⟨_,_,h3,h4⟩:=h.2 (st_E Xam)
 have hI:=D4 LI (by decide) (by decide) XdG
 refine MY h3 XgE fun x=>?_
 rw [h4,← XaU hI]
 constructor
 · intro hx
   have:=List.all_eq_true.1 XjX x hx
   simpa using this
 · intro hx
   have:=List.all_eq_true.1 XjW x hx
   simpa using this
def Xha (fd:Fnd) (f:By):List Pss:=match D9 fd f with | none=>[] | some k=>E8 fd k
theorem XjV:Xha tsF (XbK 1 0 0)=[⟨0,false,0⟩,⟨0,false,0⟩,⟨1,false,0⟩,⟨1,false,0⟩,⟨0,true,0⟩,⟨1,true,0⟩]:=by kernel_rfl
theorem XjZ:Xha scF (XbK 1 1 1)=[⟨0,false,0⟩,⟨1,false,0⟩,⟨0,false,0⟩,⟨1,false,0⟩]:=by kernel_rfl
theorem sc_no:(D9 scF (XbK 7 1 1)).isSome=false:=by kernel_rfl
theorem XjU:(D9 tsF (XbK 1 0 0)).isSome=true:=by kernel_rfl
theorem XjY:(D9 scF (XbK 1 1 1)).isSome=true:=by kernel_rfl
theorem Xiq {m:UInt8} {n:Int} {fd:Fnd} (h:J7 sbP m n=some fd) (f:By):Xak sbP m f n=Xha fd f:=by unfold Xak Xha;rw [h];try rfl
theorem Xcw {m:UInt8} {n:Int} {fd:Fnd} (h:J7 sbP m n=some fd) (f:By):Xeh sbP m f n=if (D9 fd f).isSome=true then 0 else 6:=by
 unfold Xeh
 rw [if_pos (st_E h),h]
 show (match D9 fd f with | none=>(6:Int) | some _=>0)=_
 cases D9 fd f <;> rfl
end Go.Proofs.YtcpehikcegoojaaGreatDoor
