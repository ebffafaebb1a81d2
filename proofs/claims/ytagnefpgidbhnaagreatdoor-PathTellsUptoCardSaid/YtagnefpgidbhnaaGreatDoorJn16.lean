/-
  WALK2. The reference of layer 8: paths. Conditions: the thread is right; what is handed in lies in the caller's own memory.
-/
import Derived.Test.YtagnefpgidbhnaaGreatDoorJn15
import Derived.Test.YtagnefpgidbhnaaGreatDoorJn9
import Derived.Test.YtagnefpgidbhnaaGreatDoorJn1
import Derived.Test.YtagnefpgidbhnaaGreatDoorJn14
import Derived.Test.YtagnefpgidbhnaaGreatDoorCkK
set_option linter.unusedSimpArgs false
set_option linter.unusedVariables false
namespace Go.Proofs.YtagnefpgidbhnaaGreatDoor
-- ReN
open Go.Proofs.Tryz
open Go.RowKit
set_option maxRecDepth 100000
def PlIn (L:List Sl) (q:PlP):Prop:=PathIn L q.path q.A1 q.A2 q.A3 q.A4
theorem PlIn.up {L K:List Sl} {q:PlP} (h:PlIn L q) (hh:∀ x,x ∈ L→x ∈ K):PlIn K q:=⟨h.e.up hh,h.d.up hh,h.c.up hh,h.m.up hh⟩
theorem WS {l:List PlP}:∀ q ∈ l.map PlP.cells,q.length=12:=fun q hq=>by obtain ⟨x,_,rfl⟩:=List.mem_map.1 hq;rfl
theorem Gb (dom:List UInt8):Y9 dom 256=XP dom:=by
 unfold Y9 XP
 congr 1
 funext v
 rw [List.contains_eq_mem]
theorem Xaw {l:List Ins} {r:RunP}:goP l [] r=if X2 l (XD l r)=true then .wants else .done (XD l r):=by unfold goP;rfl
set_option maxHeartbeats 4000000 in
theorem LE (IA:Option Addr) (IC:Nat) (l:List Ins) (DA:Option Addr) (DC:Nat) (dom:List UInt8) (most:Nat) (W:World) (hA:RowsAt W IA 10 (l.map Ins.cells)) (hok:XH 6 l=true) (hD:RowsAt W DA 1 (XN dom)) (hdn:dom.length≤9223372036854775807) (hm:most≤4096) :
   ∀ (f:Nat) (r:RunP) (rd:List UInt8) (RA:Option Addr) (RC:Nat) (ps:List PlP) (A:Option Addr) (C:Nat) (S:Nat→Prop) (L:List Sl) (w1:World),l.length - r.pc < f→InvR l r→Stand l rd r→rd.length≤r.pc→rd.length≤RC→InL L (RA,1,XN rd)→ps.length≤most→(∀ p ∈ ps,PlIn L p) →
     Own W none w1 [.rws 37 12 (.slice A ps.length C) (ps.map PlP.cells),.mem S L] →
     Calls Tryz.prog 26 #[.slice IA l.length IC,.slice DA dom.length DC,.slice RA rd.length RC,.slice A ps.length C,.int .i64 ((most:Nat):Int)] w1 fun e w'=>∃ (ps':List PlP) (A':Option Addr) (C':Nat) (S':Nat→Prop) (L':List Sl),e = .returned (.slice A' ps'.length C')∧ps'.map PlP.path=(ps.map PlP.path++(Ys l (XP dom) f r).map XX).take (most+1)∧(∀ x,x ∈ L→x ∈ L')∧(∀ p ∈ ps',PlIn L' p)∧Own W none w' [.rws 37 12 (.slice A' ps'.length C') (ps'.map PlP.cells),.mem S' L']:=by
 intro f
 induction f with
 | zero=>intro r rd RA RC ps A C S L w1 h;omega
 | succ f ih=>
   intro r rd RA RC ps A C S L w1 hf hI hst hrp hrc hRd hpm hps H
   have hl12:=Z4 hok
   have hipc:=hI.pc
   refine XE func26 rfl ntmps26 rfl (fun a F=>?_);refine cSR fun K1 hK1=>Xa F rfl (qNK hK1 (qSR fun K2 hK2=>Xd rfl (Xd rfl ?_)));clear hK1;clear F a;intro a F;refine Xn call23 F rfl (Ju IA IC l RA RC rd _ (hA.own H) hok ((H.memAt 1 rfl).at hRd) hrc) ?_;rintro e w ⟨v,r2,lf,LA2,LC2,Wt,S2,L2,rfl,hS2,hI2,hZ2,hout,H2⟩;replace H:=H.join H2;clear H2;refine ⟨_,rfl,?_⟩;clear F a;intro a F;refine sAl H zeroValue77 F rfl rfl ?_;clear F a H;intro b11 a w F H
   refine sSr H 0 ?si F rfl rfl rfl ?s1 rfl rfl ?_
   case si=>exact XC sizeOf77
   case s1=>rfl
   clear H;intro w H;refine sNil ?_;rw [XG (by rfl)] at H;refine hK2 _ _ ?_;clear hK2;refine cSeq (fun K3 hK3=>?_);refine cSR fun K4 hK4=>Xi (f:=4) (k:=15) underlying77 rfl sizeOf4 rfl rfl F rfl (Xc isAgg4 rfl (H.cell 0 rfl rfl) (Es rfl rfl rfl (qNK hK4 ?_)));clear hK4;clear F a;intro a F
   refine cIf F rfl (fun h18=>?_) (fun h18=>?_)
   ·
    replace h18:=ZA h18
    obtain rfl:Wt=false:=h18
    have hdn:goP l rd zRun=if lf=[] then .done r2 else .many:=by
     rcases hout with ⟨h,_⟩ | ⟨_,h⟩
     · cases h
     · exact h
    rw [hst.go,Xaw] at hdn
    obtain ⟨hw,hr2⟩:X2 l (XD l r)=false∧r2=XD l r:=by
     cases hw:X2 l (XD l r) with
     | true=>rw [hw,if_pos rfl] at hdn;split at hdn <;> cases hdn
     | false=>
      rw [hw,if_neg (by decide)] at hdn
      split at hdn
      · injection hdn with h;exact ⟨rfl,h.symm⟩
      · cases hdn
    refine cSR fun K5 hK5=>Xl F rfl (Xb (f:=2) (k:=2) underlying77 rfl sizeOf37 rfl rfl rfl ?_);clear F a;intro a F
    refine Xo underlying37 rfl ?si F rfl (H.range 0 rfl _ 12) ?_
    case si=>exact XC sizeOf37
    clear F a;intro a F;refine sBsA H underlying48 sizeOf37 zeroValue37 rfl F rfl rfl rfl rfl rfl ?_;clear F a H;intro b22 a w F H
    refine G7 (bytes:=104) H 3 underlying48 typeInfo37 rfl rfl rfl rfl rfl rfl F rfl rfl rfl rfl rfl (H.whole 0 rfl) rfl ?s1 ?s2 ?_
    case s1=>rfl
    case s2=>(simp only [List.length_map];omega)
    clear F a H;intro A23 c23 a w F H;refine Xa F rfl (qNK hK5 ?_);clear hK5;clear F a;intro a F;refine wp_ret ?_;simp only [Exit.then];refine bRet results26 F rfl ?_
    (have hq2:((ps++[(⟨XX r2,v.E,v.Ec,v.D,v.Dc,v.K,v.Kc,v.M,v.Mc⟩:PlP)]).map PlP.cells).length=(ps++[(⟨XX r2,v.E,v.Ec,v.D,v.Dc,v.K,v.Kc,v.M,v.Mc⟩:PlP)]).length:=List.length_map _
     have H9:Own W none w [.rws 37 12 (.slice A23 (ps++[(⟨XX r2,v.E,v.Ec,v.D,v.Dc,v.K,v.Kc,v.M,v.Mc⟩:PlP)]).length c23) ((ps++[(⟨XX r2,v.E,v.Ec,v.D,v.Dc,v.K,v.Kc,v.M,v.Mc⟩:PlP)]).map PlP.cells),.mem S L,.mem S2 L2]:=by
      rw [← hq2,List.map_append]
      exact H.sel [3,4,2] rfl rfl
     refine ⟨ps++[⟨XX r2,v.E,v.Ec,v.D,v.Dc,v.K,v.Kc,v.M,v.Mc⟩],A23,c23,_,L++L2,?_,?_,fun x h=>List.mem_append_left _ h,fun p hp=>?_,((H9.sel [1,2,0] rfl rfl).memFuse).sel [1,0] rfl rfl⟩
     · rw [← hq2,List.map_append];rfl
     · rw [W0 hw,← hr2,List.take_of_length_le (by simp;omega),List.map_append];rfl
     · rcases List.mem_append.1 hp with h | h
       · exact (hps p h).up fun x hx=>List.mem_append_left _ hx
       · rw [List.mem_singleton.1 h]
         exact PlIn.up (L:=L2) ⟨hS2.E,hS2.D,hS2.K,hS2.M⟩ fun x hx=>List.mem_append_right _ hx)
   replace h18:=ZB h18
   obtain rfl:Wt=true:=h18
   have hwt:goP l [] r = .wants:=by
    rcases hout with ⟨_,h⟩ | ⟨h,_⟩
    · exact hst.go.symm.trans h
    · cases h
   obtain hw:X2 l (XD l r)=true:=by
    cases hw:X2 l (XD l r) with
    | true=>rfl
    | false=>rw [Xaw,hw,if_neg (by decide)] at hwt;cases hwt
   have hpi:=Vv hok hI
   have hple:=Uy (l:=l) r
   have hat:=(VN hw).1
   have hpl:=(List.getElem?_eq_some_iff.1 hat).1
   refine wp_skip (hK3 _ _ ?_);clear hK3;refine cSeq (fun K6 hK6=>?_);refine cSR fun K7 hK7=>Xa F rfl (qNK hK7 ?_);clear hK7;clear F a;intro a F;refine wp_block ?_
   refine cLoopS [0,1,2,4] (fun m ups w=>∃ (k:Nat) (ps1:List PlP) (A1:Option Addr) (C1:Nat) (S1:Nat→Prop) (L1:List Sl),m=256 - k∧ups=[(3,.slice A1 ps1.length C1),(12,.int .i64 ((k:Nat):Int))]∧k≤256∧ps1.map PlP.path=WT (ps.map PlP.path) (fun v=>(Ys l (XP dom) f (X8 (Y0 l (XD l r)) v (XD l r))).map XX) dom (most+1) k∧(∀ x,x ∈ L→x ∈ L1)∧(∀ p ∈ ps1,PlIn L1 p)∧Own W none w [.rws 37 12 (.slice A1 ps1.length C1) (ps1.map PlP.cells),.mem S1 L1]) F (256) [(3,.slice A ps.length C),(12,.int .i64 ((0:Nat):Int))] ?_ ?_
   · exact ⟨0,ps,A,C,S,L,rfl,rfl,Nat.zero_le _,(Cq (by rw [List.length_map];omega)).symm,fun _ h=>h,hps,H.sel [2,3] rfl rfl⟩
   clear F
   clear H
   intro m ups a w hI F
   obtain ⟨k,ps1,A1,C1,S1,L1,rfl,rfl,hk,hps1,hLL,hpi1,H⟩:=hI
   refine cSeq (fun K8 hK8=>?_);refine cSR fun K9 hK9=>Xl F rfl (Xj rfl rfl YW (Xd rfl ?_));clear F a;intro a F
   refine F.split 26 rfl ?_ ?_ <;> (clear F;intro h26 F)
   ·
    replace h26:=of_decide_eq_true h26;refine Xl F rfl (Xs underlying48 rfl (Xd rfl (Xj rfl rfl GZ (Xg rfl rfl (qNK hK9 ?_)))));clear hK9;clear F a;intro a F
    refine cIf F rfl (fun h31=>?_) (fun h31=>?_)
    ·
     replace h31:=of_decide_eq_true h31;refine wp_skip (hK8 _ _ ?_);clear hK8;refine cSeq (fun K10 hK10=>?_);refine wp_block ?_;refine cSR fun K11 hK11=>Xl F rfl (Xd rfl (qCv underlying3 underlying5 rfl rfl rfl (Vr _) ?_));clear F a;intro a F;refine Xn call31 F rfl (NW DA DC dom (UInt8.ofNat k) _ (hD.own H) hdn) (gG H ?_);clear F a H;intro a w F H;refine nK hK11 ?_;clear hK11
     refine cIf F rfl (fun h37=>?_) (fun h37=>?_)
     ·
      have hin:UInt8.ofNat k ∈ dom:=of_decide_eq_true h37
      refine cReg (Xl F rfl (Xd rfl ?_));clear F a;intro a F;refine sBs (cs:=[]) H underlying23 sizeOf5 zeroValue5 rfl F rfl rfl rfl rfl rfl ?_;clear F a H;intro b40 a w F H
      replace H:=H.emptyRws 1
      refine Xl F rfl ?_;clear F a;intro a F;refine E0 (bytes:=1) (sz:=1) H 0 underlying23 typeInfo5 rfl rfl rfl rfl rfl rfl F rfl rfl rfl rfl rfl ?hm ((((H.memAt 2 rfl).at (hRd.up hLL)):RowsAt w RA 1 (XN rd))) (XL) ((fun q hq=>by obtain ⟨x,_,rfl⟩:=List.mem_map.1 hq;rfl)) ?hb ?_
      case hm=>(simp;done)
      case hb=>exact ((by simp only [List.length_nil,XN,List.length_map];omega))
      clear F a H;intro A42 c42 a w F H;refine Xl F rfl (qCv underlying3 underlying5 rfl rfl rfl (Vr _) ?_);clear F a;intro a F;refine MP H underlying23 sizeOf5 zeroValue5 rfl F rfl rfl rfl rfl ?_;clear F a H;intro b45 a w F H
      refine G7 (bytes:=1) H 1 underlying23 typeInfo5 rfl rfl rfl rfl rfl rfl F rfl rfl rfl rfl rfl (H.whole 0 rfl) rfl ?s1 ?s2 ?_
      case s1=>rfl
      case s2=>(simp only [List.nil_append,XN,List.length_map];omega)
      clear F a H;intro A46 c46 a w F H
      have e46:([]++XN rd++[[Go.Proofs.YtagnefpgidbhnaaGreatDoor.b8 (UInt8.ofNat k)]])=XN (rd++[UInt8.ofNat k]):=by simp [XN]
      have e47:(XN (rd++[UInt8.ofNat k])).length=(rd++[UInt8.ofNat k]).length:=List.length_map _
      have hcap:([]++XN rd++[[Go.Proofs.YtagnefpgidbhnaaGreatDoor.b8 (UInt8.ofNat k)]]).length≤c46:=by
       rcases (H.pred 1 _ rfl).2 with ⟨_,h2⟩ | ⟨g,cap,cur,h1,_,_,hnc,_⟩
       · simp at h2
       · injection h1 with _ _ e3;rw [e3];exact hnc
      rw [e46,e47] at H F hcap
      have hex:=Y2 (Y0 l (XD l r)) (UInt8.ofNat k) (XD l r)
      refine Xl F rfl (Xd rfl ?_);clear F a;intro a F;refine Xn call26 F rfl (ih (X8 (Y0 l (XD l r)) (UInt8.ofNat k) (XD l r)) (rd++[UInt8.ofNat k]) A46 c46 ps1 A1 C1 _ _ _ (by omega) (ZJ _ hpi hok hat) (hst.next hw _) (by rw [List.length_append];show rd.length+1≤_;omega) hcap InL.head.left (by omega) (fun p hp=>(hpi1 p hp).up fun x hx=>List.mem_append_right _ hx) (((H.sel [1,3,2] rfl rfl).toMem XL (by decide)).memFuse.sel [1,0] rfl rfl)) ?_;rintro e w ⟨ps2,A2,C2,S3,L3,rfl,hps2,hL3,hpi2,H2⟩
      clear H;have H:=H2;clear H2
      refine ⟨_,rfl,?_⟩;clear F a;intro a F;refine Xa F rfl ?_;clear F a;intro a F;refine sNil ?_
      replace hps1:ps2.map PlP.path=WT (ps.map PlP.path) (fun v=>(Ys l (XP dom) f (X8 (Y0 l (XD l r)) v (XD l r))).map XX) dom (most+1) (k+1):=by rw [hps2,hps1];exact Xcl (g:=(fun v=>(Ys l (XP dom) f (X8 (Y0 l (XD l r)) v (XD l r))).map XX)) hin
      replace hLL:∀ x,x ∈ L→x ∈ L3:=fun x hx=>hL3 x (List.mem_append_right _ (hLL x hx))
      refine hK10 _ _ (cReg (Xl F rfl ?_));clear hK10;clear F a;intro a F
      refine Xm F rfl rfl (XJ (j:=1) ?_) ?_
      focus omega
      clear F a;intro a F;refine Xa F rfl ?_;clear F a;intro a F;refine sNil ?_
      exact ⟨_,by omega,_,⟨k+1,ps2,A2,C2,S3,L3,rfl,rfl,by omega,hps1,hLL,hpi2,H⟩,F.tt⟩
     have hin:UInt8.ofNat k ∉ dom:=of_decide_eq_false h37
     refine wp_skip (hK10 _ _ (cReg (Xl F rfl ?_)));clear hK10;clear F a;intro a F
     refine Xm F rfl rfl (XJ (j:=1) ?_) ?_
     focus omega
     clear F a;intro a F;refine Xa F rfl ?_;clear F a;intro a F;refine sNil ?_
     exact ⟨_,by omega,_,⟨k+1,ps1,A1,C1,S1,L1,rfl,rfl,by omega,(by rw [hps1];exact (Xbf hin).symm),hLL,hpi1,H⟩,F.tt⟩
    replace h31:=of_decide_eq_false h31
    have hfin:ps1.map PlP.path=WT (ps.map PlP.path) (fun v=>(Ys l (XP dom) f (X8 (Y0 l (XD l r)) v (XD l r))).map XX) dom (most+1) 256:=by
     rw [hps1];exact (Cr hk (by rw [← hps1,List.length_map];omega)).symm
    refine wp_exit ?_;refine hK6 _ _ (cSR fun K12 hK12=>Xl F rfl (Xh rfl (qNK hK12 ?_)));clear hK6 hK12;clear F a;intro a F;refine wp_ret ?_;refine bRet results26 F rfl ?_
    (unfold WT at hfin
     rw [Gb] at hfin
     exact ⟨ps1,A1,C1,S1,L1,rfl,by rw [hfin,Wb hw,List.map_flatMap],hLL,hpi1,H⟩)
   replace h26:=of_decide_eq_false h26
   obtain rfl:k=256:=by omega
   have hfin:=hps1
   refine Xe F (Xf (Xf (Xf (Xg rfl rfl (qNK hK9 ?_)))));clear hK9;clear F a;intro a F;refine cIfF F rfl ?_;refine wp_exit ?_;refine hK6 _ _ (cSR fun K13 hK13=>Xl F rfl (Xh rfl (qNK hK13 ?_)));clear hK6 hK13;clear F a;intro a F;refine wp_ret ?_;refine bRet results26 F rfl ?_
   (unfold WT at hfin
    rw [Gb] at hfin
    exact ⟨ps1,A1,C1,S1,L1,rfl,by rw [hfin,Wb hw,List.map_flatMap],hLL,hpi1,H⟩)
-- ReO
open Go.RowKit
set_option maxRecDepth 100000
def JI (q:List PathP × Nat) (w0:World) (e:Ending) (w':World):Prop:=
 ∃ (ps:List PlP) (A:Option Addr) (C:Nat) (S:Nat→Prop) (L:List Sl),ps.map PlP.path=q.1∧e = .returned (.tuple #[.slice A ps.length C,.int .i64 (q.2:Int)])∧(∀ p ∈ ps,PlIn L p)∧Own w0 none w' [.rws 37 12 (.slice A ps.length C) (ps.map PlP.cells),.mem S L]
theorem Xcw {L:List Sl}:∀ p ∈ ([]:List PlP),PlIn L p:=fun _ h=>by cases h
theorem MQ {w0 w:World} {rs:List Res} (H:Own w0 none w rs):Own w0 none w [.rws 37 12 (.slice none ([]:List PlP).length 0) (([]:List PlP).map PlP.cells),.mem (fun _=>False) []]:=(H.memNil.nilRws 37 12).sel [0,1] rfl rfl
theorem VY {w0 w:World} {rs:List Res} (H:Own w0 none w rs) (err:Nat):JI ([],err) w0 (.returned (.tuple #[.slice none 0 0,.int .i64 (err:Int)])) w:=
 ⟨[],none,0,_,[],rfl,rfl,Xcw,MQ H⟩
set_option maxHeartbeats 2000000 in
theorem Ux (IA:Option Addr) (IC:Nat) (l:List Ins) (DA:Option Addr) (DC:Nat) (dom:List UInt8) (most:Int) (w0:World) (hA:RowsAt w0 IA 10 (l.map Ins.cells)) (hn:l.length≤9223372036854775807) (hD:RowsAt w0 DA 1 (XN dom)) (hdn:dom.length≤9223372036854775807) :
   Calls Tryz.prog 12 #[.slice IA l.length IC,.slice DA dom.length DC,.int .i64 most] w0 (JI (YV l dom most) w0):=by
 have H:=Own.start w0 none
 refine XE Tryz.func12 rfl Tryz.ntmps12 rfl (fun a F=>?_);refine cSR fun K1 hK1=>Xa F rfl (Xh rfl (qNK hK1 ?_));clear hK1;clear F a;intro a F;refine cSeq (fun K2 hK2=>?_);refine cSR fun K3 hK3=>Xl F rfl ?_;clear F a;intro a F;refine Xn Tryz.call22 F rfl (Vu IA IC l 6 _ (hA.own H) hn) (gG H ?_);clear F a H;intro a w F H;refine UV F rfl rfl rfl (Xd rfl ?_);clear F a;intro a F
 refine F.split 12 rfl ?_ ?_ <;> (clear F;intro h12 F)
 ·
  replace h12:=ZA h12;refine Xe F (Xf (Xg rfl rfl (Xd rfl (Xf (Xf (Xg rfl rfl (qNK hK3 ?_)))))));clear hK3;clear F a;intro a F;refine cIfT F rfl ?_;refine cSR fun K4 hK4=>Xa F rfl (Xh rfl (qNK hK4 ?_));clear hK4;clear F a;intro a F;refine wp_ret ?_;simp only [Exit.then];refine Zo Tryz.results12 F rfl rfl ?_
  (rw [Wf (.inr (.inr (by simpa using h12)))];exact VY H 2)
 replace h12:=ZB h12;refine Xl F rfl (Xj rfl rfl YW (Xg rfl rfl (Xd rfl ?_)));clear F a;intro a F
 refine F.split 16 rfl ?_ ?_ <;> (clear F;intro h16 F)
 ·
  replace h16:=of_decide_eq_true h16;refine Xe F (Xf (Xg rfl rfl (qNK hK3 ?_)));clear hK3;clear F a;intro a F;refine cIfT F rfl ?_;refine cSR fun K5 hK5=>Xa F rfl (Xh rfl (qNK hK5 ?_));clear hK5;clear F a;intro a F;refine wp_ret ?_;simp only [Exit.then];refine Zo Tryz.results12 F rfl rfl ?_
  (rw [Wf (.inl (by omega))];exact VY H 2)
 replace h16:=of_decide_eq_false h16;refine Xl F rfl (Xj rfl rfl UO (Xg rfl rfl (qNK hK3 ?_)));clear hK3;clear F a;intro a F
 refine cIf F rfl (fun h19=>?_) (fun h19=>?_)
 ·
  replace h19:=of_decide_eq_true h19;refine cSR fun K6 hK6=>Xa F rfl (Xh rfl (qNK hK6 ?_));clear hK6;clear F a;intro a F;refine wp_ret ?_;simp only [Exit.then];refine Zo Tryz.results12 F rfl rfl ?_
  (rw [Wf (.inr (.inl (by omega)))];exact VY H 2)
 replace h19:=of_decide_eq_false h19
 obtain ⟨mn,rfl⟩:=Int.eq_ofNat_of_zero_le (show 0≤most by omega)
 have hok:XH 6 l=true:=by simpa using h12
 refine wp_skip (hK2 _ _ (cSR fun K7 hK7=>Xl F rfl (Xd rfl (Xd rfl ?_))));clear hK2;clear F a;intro a F;refine Xn Tryz.call26 F rfl (LE IA IC l DA DC dom mn w0 hA hok hD hdn (by omega) (l.length+1) zRun [] none 0 [] none 0 (fun _=>False) [] _ (by show l.length - 0 < _;omega) (WD l) (Lz l) (Nat.zero_le _) (Nat.zero_le _) (.inr rfl) (Nat.zero_le _) Xcw (MQ H)) ?_;rintro e w ⟨ps,A,C,S,L,rfl,hps,hLL,hpi,H2⟩
 clear H;have H:=H2;clear H2
 refine ⟨_,rfl,?_⟩;clear F a;intro a F;refine Xa F rfl ?_;clear F a;intro a F;refine sNil ?_
 replace hps:ps.map PlP.path=((YY l (XP dom)).map XX).take (mn+1):=hps
 have hlen:ps.length=min (mn+1) (YY l (XP dom)).length:=by
  have:=congrArg List.length hps
  rwa [List.length_map,List.length_take,List.length_map] at this
 refine hK7 _ _ ?_;clear hK7;refine cSeq (fun K8 hK8=>?_);refine cSR fun K9 hK9=>Xl F rfl (Xs Tryz.underlying48 rfl (Xd rfl (Xj rfl rfl UO (qNK hK9 ?_))));clear hK9;clear F a;intro a F
 refine cIf F rfl (fun h27=>?_) (fun h27=>?_)
 ·
  replace h27:=of_decide_eq_true h27;refine cSR fun K10 hK10=>Xa F rfl (Xh rfl (qNK hK10 ?_));clear hK10;clear F a;intro a F;refine wp_ret ?_;simp only [Exit.then];refine Zo Tryz.results12 F rfl rfl ?_
  (rw [Uz (by omega) (by omega) hok (by omega)];exact VY H 5)
 replace h27:=of_decide_eq_false h27;refine wp_skip (hK8 _ _ (cSR fun K11 hK11=>Xl F rfl (Xh rfl (Xh rfl (qNK hK11 ?_)))));clear hK8 hK11;clear F a;intro a F;refine wp_ret ?_;refine Zo Tryz.results12 F rfl rfl ?_
 (rw [U2 (by omega) (by omega) hok (by omega)]
  exact ⟨ps,A,C,S,L,by rw [hps];exact List.take_of_length_le (by rw [List.length_map];omega),rfl,hpi,H⟩)
-- ReP
open Go.RowKit
def wsE (l:List Ev):List UInt8:=(l.filter fun e=>e.kind == 2).map Ev.val
def wsR (rs:List RunP):List UInt8:=rs.flatMap fun r=>wsE (Yw r)
def MetW (met vals ws:List UInt8):Prop:=∀ v,v ∈ met ↔ v ∈ vals∨v ∈ ws
theorem XbM {W:Nat→Bool} {v:UInt8}:v ∈ byW 256 W ↔ W v.toNat=true:=by
 unfold byW
 rw [List.mem_map]
 constructor
 · rintro ⟨k,hk,rfl⟩
   have h:=List.mem_filter.1 hk
   have hlt:=List.mem_range.1 h.1
   rw [show (UInt8.ofNat k).toNat=k by simp;omega]
   exact h.2
 · intro h
   exact ⟨v.toNat,List.mem_filter.2 ⟨List.mem_range.2 v.toNat_lt,h⟩,by simp⟩
theorem wrote_mem {r:RunP} {v:UInt8}:Vq r r.many v.toNat=true ↔ v ∈ wsE (Yw r):=by
 unfold Vq wsE Yw evW
 rw [List.any_eq_true,List.mem_map]
 constructor
 · rintro ⟨k,hk,h⟩
   rw [Bool.and_eq_true] at h
   exact ⟨r.ev k,List.mem_filter.2 ⟨List.mem_map.2 ⟨k,hk,rfl⟩,h.1⟩,(UInt8.toNat.inj (beq_iff_eq.1 h.2)).symm⟩
 · rintro ⟨e,he,rfl⟩
   obtain ⟨h1,h2⟩:=List.mem_filter.1 he
   obtain ⟨k,hk,rfl⟩:=List.mem_map.1 h1
   exact ⟨k,hk,by rw [Bool.and_eq_true];exact ⟨h2,beq_iff_eq.2 rfl⟩⟩
theorem Je {l:List Ins} {vals:List UInt8} (h:(Yg l vals).2=true) (v:UInt8):v ∈ (Yg l vals).1 ↔ v ∈ wsR (YY l vals):=by
 unfold Yg at h ⊢
 split at h
 · cases h
 · rename_i hn
   rw [if_neg hn]
   show v ∈ byW 256 (YH (YY l vals)) ↔ _
   rw [XbM,wsR,List.mem_flatMap,YH,List.any_eq_true]
   exact ⟨fun ⟨r,hr,h⟩=>⟨r,hr,wrote_mem.1 h⟩,fun ⟨r,hr,h⟩=>⟨r,hr,wrote_mem.2 h⟩⟩
theorem Bf {a b:List UInt8} (h:∀ v,v ∈ a ↔ v ∈ b):XP a=XP b:=Ml (U5 a) fun x=>(Vd a x).trans (h x)
theorem MetW.add {met vals ws:List UInt8} (h:MetW met vals ws) {x:UInt8}:MetW (met++[x]) vals (ws++[x]):=fun v=>by
 rw [List.mem_append,List.mem_append,h v,or_assoc]
theorem MetW.keep {met vals ws:List UInt8} (h:MetW met vals ws) {x:UInt8} (hx:x ∈ met):MetW met vals (ws++[x]):=fun v=>by
 rw [List.mem_append,← or_assoc,← h v,List.mem_singleton]
 exact ⟨Or.inl,fun q=>q.elim id fun e=>e ▸ hx⟩
theorem MC {l:List Ev} {e:Ev} (h:e.kind=2):wsE (l++[e])=wsE l++[e.val]:=by
 unfold wsE;rw [List.filter_append,List.map_append];simp [h]
theorem BN {l:List Ev} {e:Ev} (h:e.kind ≠ 2):wsE (l++[e])=wsE l:=by
 unfold wsE;rw [List.filter_append,List.map_append];simp [h]
theorem MZ:∀ {a b:List UInt8},a.Nodup→(∀ x ∈ a,x ∈ b)→a.length≤b.length
 | [],_,_,_=>Nat.zero_le _
 | x :: a,b,h,hs=>by
   obtain ⟨h1,h2⟩:=List.nodup_cons.1 h
   have h3:=MZ (a:=a) (b:=b.erase x) h2 fun y hy=>(List.mem_erase_of_ne (fun e=>h1 (by rw [← e];exact hy))).2 (hs y (List.mem_cons_of_mem _ hy))
   have h4:=List.length_erase_of_mem (hs x List.mem_cons_self)
   have h5:=List.length_pos_of_mem (hs x List.mem_cons_self)
   rw [List.length_cons]
   omega
theorem C4 {l:List UInt8} {x:UInt8} (h:x ∉ l):(XP l).length+1≤(XP (l++[x])).length:=by
 have nd:∀ q:List UInt8,(XP q).Nodup:=fun q=>(U5 q).imp fun {a b} hab e=>by subst e;omega
 have h1:(x :: XP l).Nodup:=List.nodup_cons.2 ⟨fun hx=>h ((Vd l x).1 hx),nd l⟩
 have h2:∀ y ∈ x :: XP l,y ∈ XP (l++[x]):=fun y hy=>by
   rw [Vd,List.mem_append,List.mem_singleton]
   rcases List.mem_cons.1 hy with e | e
   · exact .inr e
   · exact .inl ((Vd l y).1 e)
 exact MZ h1 h2
-- RdB
open Go.RowKit
set_option maxRecDepth 100000
set_option maxHeartbeats 1000000 in
theorem Dd (h:Nat):∀ (cs:List Value) (c:Cnd) (w0:World),CondAt w0 h cs c→Z8 c≤9223372036854775807 →
   Calls Tryz.prog 83 #[.agg cs.toArray] w0 fun e w'=>e = .returned (.int .i64 ((Z8 c:Nat):Int))∧Below w0.heap.size w0 w':=by
 induction h with
 | zero=>intro cs c w0 hC;exact hC.elim
 | succ h ih=>
   intro cs c w0 hC hd
   obtain ⟨k,t,n,v,kids⟩:=c
   obtain ⟨A,C,rfl,hkl,hK⟩:=hC
   rw [Z8] at hd
   have H:=Own.start w0 none
   refine XE Tryz.func83 rfl Tryz.ntmps83 rfl (fun a F=>?_);refine cSR fun K1 hK1=>?_;refine sBx H F rfl rfl rfl ?_;clear F a H;intro b1 a w F H;refine Xa F rfl (qNK hK1 (qSR fun K2 hK2=>Xh rfl (qNK hK2 ?_)));clear hK1 hK2;clear F a;intro a F;refine cSeq (fun K3 hK3=>?_);refine cSR fun K4 hK4=>Xa F rfl (qNK hK4 ?_);clear hK4;clear F a;intro a F;refine wp_block ?_
   refine cLoopS [1] (fun m ups w=>∃ j d:Nat,m=kids.length - j∧ups=[(3,.int .i64 ((d:Nat):Int)),(4,.int .i64 ((j:Nat):Int))]∧j≤kids.length∧max d (VI (kids.drop j))=VI kids∧Own w0 none w [.blk b1 [Go.Proofs.YtagnefpgidbhnaaGreatDoor.b8 k,Go.Proofs.YtagnefpgidbhnaaGreatDoor.b8 t,Go.Proofs.YtagnefpgidbhnaaGreatDoor.b8 n,Go.Proofs.YtagnefpgidbhnaaGreatDoor.b8 v,.slice A kids.length C] 28]) F (kids.length) [(3,.int .i64 ((0:Nat):Int)),(4,.int .i64 ((0:Nat):Int))] ?_ ?_
   · exact ⟨0,0,rfl,rfl,by omega,by simp,H⟩
   clear F
   clear H
   intro m ups a w hI F
   obtain ⟨j,d,rfl,rfl,hj,ht,H⟩:=hI
   refine cSeq (fun K5 hK5=>?_);refine cSR fun K6 hK6=>Xl F rfl (Xb (f:=4) (k:=4) Tryz.underlying28 rfl Tryz.sizeOf26 rfl rfl rfl (Xc Tryz.isAgg26 rfl (H.cell 0 rfl rfl) (Xs Tryz.underlying26 rfl (Xj rfl rfl YW (qNK hK6 ?_)))));clear hK6;clear F a;intro a F
   refine cIf F rfl (fun h9=>?_) (fun h9=>?_)
   ·
    replace h9:=of_decide_eq_true h9
    have hjl:j < kids.length:=by omega
    obtain ⟨kid,hx⟩:∃ x,kids[j]? = some x:=⟨_,List.getElem?_eq_getElem hjl⟩
    have hdr:kids.drop j=kid :: kids.drop (j+1):=by
      obtain ⟨_,rfl⟩:=List.getElem?_eq_some_iff.1 hx
      exact List.drop_eq_getElem_cons hjl
    rw [hdr,VI] at ht
    obtain ⟨b',off',cs',rfl,hR',hC'⟩:=hK j kid hx
    obtain ⟨k0,k1,k2,k3,k4,rfl⟩:=Xat (Zc hC')
    refine wp_skip (hK5 _ _ ?_);clear hK5;refine cSeq (fun K7 hK7=>?_);refine wp_block ?_;refine cReg (Xl F rfl (Xb (f:=4) (k:=4) Tryz.underlying28 rfl Tryz.sizeOf26 rfl rfl rfl (Xc Tryz.isAgg26 rfl (H.cell 0 rfl rfl) (Xd rfl ?_))));clear F a;intro a F
    refine sIx Tryz.underlying26 Tryz.sizeOf28 F rfl rfl rfl rfl ?_ ?_
    focus (omega)
    clear F a;intro a F
    refine Xo Tryz.underlying28 rfl ?si F rfl (H.argR hR') ?_
    case si=>exact XC Tryz.sizeOf28
    clear F a;intro a F;refine Xn Tryz.call83 F rfl (ih _ kid _ (CondAt.grown H.grown rfl _ _ _ hC') (by omega)) (gG H ?_);clear F a H;intro a w F H;refine sMaxN F rfl rfl rfl rfl (Xh rfl (qNK hK7 (WN (Xd rfl ?_))));clear hK7;clear F a;intro a F
    refine Xm F rfl rfl (XJ (j:=1) ?_) ?_
    focus omega
    clear F a;intro a F;refine Xa F rfl ?_;clear F a;intro a F;refine sNil ?_
    exact ⟨_,by omega,_,⟨j+1,max d (Z8 kid),rfl,rfl,by omega,by rw [← ht,Nat.max_assoc],H⟩,F.tt⟩
   replace h9:=of_decide_eq_false h9;rw [List.drop_eq_nil_of_le (by omega)] at ht
   have hd2:d=VI kids:=by rw [← ht];simp [VI]
   subst hd2;refine wp_exit ?_;refine hK3 _ _ (cSR fun K8 hK8=>Xl F rfl ?_);clear hK3;clear F a;intro a F
   refine Xm F rfl rfl (XJ (j:=1) ?_) ?_
   focus omega
   clear F a;intro a F;refine Xa F rfl (qNK hK8 ?_);clear hK8;clear F a;intro a F;refine wp_ret ?_;refine bRet Tryz.results83 F rfl ?_
   exact ⟨rfl,H.below⟩
-- RfB
open Go.Proofs.Tryz
open Go.RowKit
set_option maxRecDepth 100000
theorem CF (n:Nat):((n:Int) == 1)=(n == 1):=by rw [Bool.eq_iff_iff];simp;omega
set_option maxHeartbeats 2000000 in
theorem De (threads locs:Int) (h:Nat):∀ (cs:List Value) (c:Cnd) (w0:World),CondAt w0 h cs c →
   Calls Tryz.prog 84 #[.agg cs.toArray,.int .i64 threads,.int .i64 locs] w0 fun e w'=>e = .returned (.bool (ZD threads locs c))∧Below w0.heap.size w0 w':=by
 induction h with
 | zero=>intro cs c w0 hC;exact hC.elim
 | succ h ih=>
   intro cs c w0 hC
   obtain ⟨k,t,n,v,kids⟩:=c
   obtain ⟨A,C,rfl,hkl,hK⟩:=hC
   have H:=Own.start w0 none
   refine XE func84 rfl ntmps84 rfl (fun a F=>?_);refine cSR fun K1 hK1=>?_;refine sBx H F rfl rfl rfl ?_;clear F a H;intro b3 a w F H;refine Xa F rfl (qNK hK1 ?_);clear hK1;clear F a;intro a F;refine cSeq (fun K2 hK2=>?_);refine cSR fun K3 hK3=>Xa F rfl (qNK hK3 ?_);clear hK3;clear F a;intro a F;refine wp_block ?_
   refine cLoopS [1,2,3] (fun m ups w=>∃ j:Nat,m=kids.length - j∧ups=[(7,.int .i64 ((j:Nat):Int))]∧j≤kids.length∧kids.all (ZD threads locs)=(kids.drop j).all (ZD threads locs)∧Own w0 none w [.blk b3 [Go.Proofs.YtagnefpgidbhnaaGreatDoor.b8 k,Go.Proofs.YtagnefpgidbhnaaGreatDoor.b8 t,Go.Proofs.YtagnefpgidbhnaaGreatDoor.b8 n,Go.Proofs.YtagnefpgidbhnaaGreatDoor.b8 v,.slice A kids.length C] 28]) F (kids.length) [(7,.int .i64 ((0:Nat):Int))] ?_ ?_
   · exact ⟨0,rfl,rfl,by omega,rfl,H⟩
   clear F
   clear H
   intro m ups a w hI F
   obtain ⟨j,rfl,rfl,hj,ht,H⟩:=hI
   refine cSeq (fun K4 hK4=>?_);refine cSR fun K5 hK5=>Xl F rfl (Xb (f:=4) (k:=4) underlying28 rfl sizeOf26 rfl rfl rfl (Xc isAgg26 rfl (H.cell 0 rfl rfl) (Xs underlying26 rfl (Xj rfl rfl YW (qNK hK5 ?_)))));clear hK5;clear F a;intro a F
   refine cIf F rfl (fun h13=>?_) (fun h13=>?_)
   ·
    replace h13:=of_decide_eq_true h13
    have hjl:j < kids.length:=by omega
    obtain ⟨kid,hx⟩:∃ x,kids[j]? = some x:=⟨_,List.getElem?_eq_getElem hjl⟩
    obtain ⟨b',off',cs',rfl,hR',hC'⟩:=hK j kid hx
    obtain ⟨k0,k1,k2,k3,k4,rfl⟩:=Xat (Zc hC')
    have hd:=WH (ZD threads locs) hx
    refine wp_skip (hK4 _ _ ?_);clear hK4;refine cSeq (fun K6 hK6=>?_);refine wp_block ?_;refine cSR fun K7 hK7=>Xi (f:=4) (k:=4) underlying28 rfl sizeOf26 rfl rfl F rfl (Xc isAgg26 rfl (H.cell 0 rfl rfl) (Xd rfl ?_));clear F a;intro a F
    refine sIx underlying26 sizeOf28 F rfl rfl rfl rfl ?_ ?_
    focus (omega)
    clear F a;intro a F
    refine Xo underlying28 rfl ?si F rfl (H.argR hR') ?_
    case si=>exact XC sizeOf28
    clear F a;intro a F;refine Xl F rfl (Xd rfl ?_);clear F a;intro a F;refine Xn call84 F rfl (ih _ kid _ (CondAt.grown H.grown rfl _ _ _ hC')) (gG H ?_);clear F a H;intro a w F H;refine UV F rfl rfl rfl (qNK hK7 ?_);clear hK7;clear F a;intro a F
    refine cIf F rfl (fun h24=>?_) (fun h24=>?_)
    ·
     replace h24:=ZA h24;refine cSR fun K8 hK8=>Xa F rfl (qNK hK8 ?_);clear hK8;clear F a;intro a F;refine wp_ret ?_;refine xI ?_;refine bRet results84 F rfl ?_
     refine ⟨X1 ?_,H.below⟩
     clear F H ih hK
     (rw [ZD,V9,ht,hd,h24];simp;done)
    replace h24:=ZB h24;refine wp_skip (hK6 _ _ (cReg (Xl F rfl ?_)));clear hK6;clear F a;intro a F
    refine Xm F rfl rfl (XJ (j:=1) ?_) ?_
    focus omega
    clear F a;intro a F;refine Xa F rfl ?_;clear F a;intro a F;refine sNil ?_
    exact ⟨_,by omega,_,⟨j+1,rfl,rfl,by omega,by rw [ht,hd,h24,Bool.true_and],H⟩,F.tt⟩
   replace h13:=of_decide_eq_false h13;rw [List.drop_eq_nil_of_le (by omega),List.all_nil,← V9] at ht;refine wp_exit ?_;refine hK2 _ _ ?_;clear hK2
   refine cSeqS [1,2,3] (fun ups w=>∃ r,ups=[(8,.bool r)]∧r=(t == 0 && n == 0 && v == 0)∧Own w0 none w [.blk b3 [Go.Proofs.YtagnefpgidbhnaaGreatDoor.b8 k,Go.Proofs.YtagnefpgidbhnaaGreatDoor.b8 t,Go.Proofs.YtagnefpgidbhnaaGreatDoor.b8 n,Go.Proofs.YtagnefpgidbhnaaGreatDoor.b8 v,.slice A kids.length C] 28]) F ?_ ?_
   ·
    refine cReg (Xi (f:=1) (k:=1) underlying28 rfl sizeOf5 rfl rfl F rfl (Xc isAgg5 rfl (H.cell 0 rfl rfl) (Xj rfl rfl (XZ (y:=0)) (Xd rfl ?_))));clear F a;intro a F
    refine F.split 28 rfl ?_ ?_ <;> (clear F;intro h28 F)
    ·
     replace h28:=Yh h28;refine Xi (f:=2) (k:=2) underlying28 rfl sizeOf5 rfl rfl F rfl (Xc isAgg5 rfl (H.cell 0 rfl rfl) (Xj rfl rfl (XZ (y:=0)) (Xg rfl rfl (Xd rfl ?_))));clear F a;intro a F
     refine F.split 33 rfl ?_ ?_ <;> (clear F;intro h33 F)
     ·
      replace h33:=Yh h33;refine Xi (f:=3) (k:=3) underlying28 rfl sizeOf5 rfl rfl F rfl (Xc isAgg5 rfl (H.cell 0 rfl rfl) (Xj rfl rfl (XZ (y:=0)) (Xg rfl rfl (Xh rfl ?_))));clear F a;intro a F;refine sNil ?_
      refine ⟨_,⟨_,rfl,?_,H⟩,F.tt⟩
      simp_all
     replace h33:=Yi h33;refine Xe F (Xf (Xf (Xg rfl rfl (Xh rfl ?_))));clear F a;intro a F;refine sNil ?_
     refine ⟨_,⟨_,rfl,?_,H⟩,F.tt⟩
     simp_all
    replace h28:=Yi h28;refine Xe F (Xf (Xf (Xg rfl rfl (Xd rfl (Xf (Xf (Xf (Xg rfl rfl (Xh rfl ?_)))))))));clear F a;intro a F;refine sNil ?_
    refine ⟨_,⟨_,rfl,?_,H⟩,F.tt⟩
    simp_all
   clear F H
   intro ups a w hI F
   obtain ⟨r,rfl,hr,H⟩:=hI
   refine cSeq (fun K9 hK9=>?_);refine cSR fun K10 hK10=>Xi (f:=0) (k:=0) underlying28 rfl sizeOf5 rfl rfl F rfl (Xc isAgg5 rfl (H.cell 0 rfl rfl) (qCv underlying5 underlying3 rfl rfl rfl (ZT _) (qNK hK10 ?_)));clear hK10;clear F a;intro a F;refine wp_block ?_;refine cSR fun K11 hK11=>Xm F rfl rfl ZQ (Xh rfl (qNK hK11 ?_));clear hK11;clear F a;intro a F
   refine cIf F rfl (fun h41=>?_) (fun h41=>?_)
   ·
    replace h41:=Yh h41
    have hk:k=0:=UInt8.toNat_inj.1 (by have:(0:UInt8).toNat=0:=rfl;omega)
    refine cSR fun K12 hK12=>Xl F rfl (Xd rfl ?_);clear F a;intro a F
    refine F.split 44 rfl ?_ ?_ <;> (clear F;intro h44 F)
    ·
     refine Xi (f:=4) (k:=4) underlying28 rfl sizeOf26 rfl rfl F rfl (Xc isAgg26 rfl (H.cell 0 rfl rfl) (Xs underlying26 rfl (Xj rfl rfl ZQ (Xg rfl rfl (Xh rfl (qNK hK12 ?_))))));clear hK12;clear F a;intro a F;refine wp_ret ?_;refine xI ?_;refine bRet results84 F rfl ?_
     refine ⟨X1 ?_,H.below⟩
     clear F H ih hK
     (rw [ZD,ht,Bool.true_and,if_pos hk,← hr,h44,Bool.true_and,X6];done)
    refine Xe F (Xf (Xf (Xf (Xg rfl rfl (Xh rfl (qNK hK12 ?_))))));clear hK12;clear F a;intro a F;refine wp_ret ?_;refine xI ?_;refine bRet results84 F rfl ?_
    refine ⟨X1 ?_,H.below⟩
    clear F H ih hK
    (rw [ZD,ht,Bool.true_and,if_pos hk,← hr,h44,Bool.false_and];done)
   replace h41:=Yi h41
   have nk0:k ≠ 0:=fun e=>h41 (by rw [e];rfl)
   refine cSR fun K13 hK13=>Xm F rfl rfl ZQ (Xh rfl (qNK hK13 ?_));clear hK13;clear F a;intro a F
   refine cIf F rfl (fun h50=>?_) (fun h50=>?_)
   ·
    replace h50:=Yh h50
    have hk:k=1:=UInt8.toNat_inj.1 (by have:(1:UInt8).toNat=1:=rfl;omega)
    refine cSR fun K14 hK14=>Xi (f:=1) (k:=1) underlying28 rfl sizeOf5 rfl rfl F rfl (Xc isAgg5 rfl (H.cell 0 rfl rfl) (qCv underlying5 underlying3 rfl rfl rfl (ZT _) (Xd rfl (Xj rfl rfl YW (Xd rfl ?_)))));clear F a;intro a F
    refine F.split 57 rfl ?_ ?_ <;> (clear F;intro h57 F)
    ·
     replace h57:=of_decide_eq_true h57;refine Xi (f:=2) (k:=2) underlying28 rfl sizeOf5 rfl rfl F rfl (Xc isAgg5 rfl (H.cell 0 rfl rfl) (Xj rfl rfl (GY (y:=8)) (Xg rfl rfl (Xd rfl ?_))));clear F a;intro a F
     refine F.split 62 rfl ?_ ?_ <;> (clear F;intro h62 F)
     ·
      replace h62:=of_decide_eq_true h62;refine Xi (f:=4) (k:=4) underlying28 rfl sizeOf26 rfl rfl F rfl (Xc isAgg26 rfl (H.cell 0 rfl rfl) (Xs underlying26 rfl (Xj rfl rfl ZQ (Xg rfl rfl (Xh rfl (qNK hK14 ?_))))));clear hK14;clear F a;intro a F;refine wp_ret ?_;refine xI ?_;refine bRet results84 F rfl ?_
      refine ⟨X1 ?_,H.below⟩
      clear F H ih hK
      (rw [ZD,ht,Bool.true_and,if_neg nk0,if_pos hk];simp [*,X6];done)
     replace h62:=of_decide_eq_false h62;refine Xe F (Xf (Xf (Xf (Xg rfl rfl (Xh rfl (qNK hK14 ?_))))));clear hK14;clear F a;intro a F;refine wp_ret ?_;refine xI ?_;refine bRet results84 F rfl ?_
     refine ⟨X1 ?_,H.below⟩
     clear F H ih hK
     (rw [ZD,ht,Bool.true_and,if_neg nk0,if_pos hk];simp [*,X6];done)
    replace h57:=of_decide_eq_false h57;refine Xe F (Xf (Xf (Xg rfl rfl (Xd rfl (Xf (Xf (Xf (Xf (Xg rfl rfl (Xh rfl (qNK hK14 ?_)))))))))));clear hK14;clear F a;intro a F;refine wp_ret ?_;refine xI ?_;refine bRet results84 F rfl ?_
    refine ⟨X1 ?_,H.below⟩
    clear F H ih hK
    (rw [ZD,ht,Bool.true_and,if_neg nk0,if_pos hk];simp [*,X6];done)
   replace h50:=Yi h50
   have nk1:k ≠ 1:=fun e=>h50 (by rw [e];rfl)
   refine cSR fun K15 hK15=>Xm F rfl rfl ZQ (Xh rfl (qNK hK15 ?_));clear hK15;clear F a;intro a F
   refine cIf F rfl (fun h68=>?_) (fun h68=>?_)
   ·
    replace h68:=Yh h68
    have hk:k=2:=UInt8.toNat_inj.1 (by have:(2:UInt8).toNat=2:=rfl;omega)
    refine cSR fun K16 hK16=>Xi (f:=2) (k:=2) underlying28 rfl sizeOf5 rfl rfl F rfl (Xc isAgg5 rfl (H.cell 0 rfl rfl) (qCv underlying5 underlying3 rfl rfl rfl (ZT _) (Xd rfl (Xj rfl rfl YW (Xd rfl ?_)))));clear F a;intro a F
    refine F.split 75 rfl ?_ ?_ <;> (clear F;intro h75 F)
    ·
     replace h75:=of_decide_eq_true h75;refine Xi (f:=1) (k:=1) underlying28 rfl sizeOf5 rfl rfl F rfl (Xc isAgg5 rfl (H.cell 0 rfl rfl) (Xj rfl rfl (XZ (y:=0)) (Xg rfl rfl (Xd rfl ?_))));clear F a;intro a F
     refine F.split 80 rfl ?_ ?_ <;> (clear F;intro h80 F)
     ·
      replace h80:=Yh h80;refine Xi (f:=4) (k:=4) underlying28 rfl sizeOf26 rfl rfl F rfl (Xc isAgg26 rfl (H.cell 0 rfl rfl) (Xs underlying26 rfl (Xj rfl rfl ZQ (Xg rfl rfl (Xh rfl (qNK hK16 ?_))))));clear hK16;clear F a;intro a F;refine wp_ret ?_;refine xI ?_;refine bRet results84 F rfl ?_
      refine ⟨X1 ?_,H.below⟩
      clear F H ih hK
      (rw [ZD,ht,Bool.true_and,if_neg nk0,if_pos hk];simp [*,X6];done)
     replace h80:=Yi h80;refine Xe F (Xf (Xf (Xf (Xg rfl rfl (Xh rfl (qNK hK16 ?_))))));clear hK16;clear F a;intro a F;refine wp_ret ?_;refine xI ?_;refine bRet results84 F rfl ?_
     refine ⟨X1 ?_,H.below⟩
     clear F H ih hK
     (rw [ZD,ht,Bool.true_and,if_neg nk0,if_pos hk];simp [*,X6];done)
    replace h75:=of_decide_eq_false h75;refine Xe F (Xf (Xf (Xg rfl rfl (Xd rfl (Xf (Xf (Xf (Xf (Xg rfl rfl (Xh rfl (qNK hK16 ?_)))))))))));clear hK16;clear F a;intro a F;refine wp_ret ?_;refine xI ?_;refine bRet results84 F rfl ?_
    refine ⟨X1 ?_,H.below⟩
    clear F H ih hK
    (rw [ZD,ht,Bool.true_and,if_neg nk0,if_pos hk];simp [*,X6];done)
   replace h68:=Yi h68
   have nk2:k ≠ 2:=fun e=>h68 (by rw [e];rfl)
   refine cSeq (fun K17 hK17=>?_);refine cSR fun K18 hK18=>Xm F rfl rfl ZQ (Xh rfl (qNK hK18 ?_));clear hK18;clear F a;intro a F
   refine F.split 86 rfl ?_ ?_ <;> (clear F;intro h86 F)
   ·
    replace h86:=Yh h86
    have hk:k=3∨k=4:=(by exact .inl (UInt8.toNat_inj.1 (by have:(3:UInt8).toNat=3:=rfl;omega)))
    refine cIfT F rfl ?_;refine wp_skip (hK17 _ _ ?_);clear hK17;refine cIfT F rfl ?_;refine cSR fun K19 hK19=>Xl F rfl (Xd rfl ?_);clear F a;intro a F
    refine F.split 90 rfl ?_ ?_ <;> (clear F;intro h90 F)
    ·
     refine Xi (f:=4) (k:=4) underlying28 rfl sizeOf26 rfl rfl F rfl (Xc isAgg26 rfl (H.cell 0 rfl rfl) (Xs underlying26 rfl (Xj rfl rfl UO (Xg rfl rfl (Xh rfl (qNK hK19 ?_))))));clear hK19;clear F a;intro a F;refine wp_ret ?_;refine xI ?_;refine bRet results84 F rfl ?_
     refine ⟨X1 ?_,H.below⟩
     clear F H ih hK
     (rw [ZD,ht,Bool.true_and,if_neg nk0,if_neg nk1,if_neg nk2,if_pos hk,← hr,h90,Bool.true_and,Bool.eq_iff_iff];simp only [decide_eq_true_eq];omega)
    refine Xe F (Xf (Xf (Xf (Xg rfl rfl (Xh rfl (qNK hK19 ?_))))));clear hK19;clear F a;intro a F;refine wp_ret ?_;refine xI ?_;refine bRet results84 F rfl ?_
    refine ⟨X1 ?_,H.below⟩
    clear F H ih hK
    (rw [ZD,ht,Bool.true_and,if_neg nk0,if_neg nk1,if_neg nk2,if_pos hk,← hr,h90,Bool.false_and];done)
   replace h86:=Yi h86;refine cIfF F rfl ?_;refine cReg (Xm F rfl rfl ZQ (Xh rfl (qNK hK17 ?_)));clear hK17;clear F a;intro a F
   refine F.split 86 rfl ?_ ?_ <;> (clear F;intro h86 F)
   ·
    replace h86:=Yh h86
    have hk:k=3∨k=4:=(by exact .inr (UInt8.toNat_inj.1 (by have:(4:UInt8).toNat=4:=rfl;omega)))
    refine cIfT F rfl ?_;refine cSR fun K20 hK20=>Xl F rfl (Xd rfl ?_);clear F a;intro a F
    refine F.split 90 rfl ?_ ?_ <;> (clear F;intro h90 F)
    ·
     refine Xi (f:=4) (k:=4) underlying28 rfl sizeOf26 rfl rfl F rfl (Xc isAgg26 rfl (H.cell 0 rfl rfl) (Xs underlying26 rfl (Xj rfl rfl UO (Xg rfl rfl (Xh rfl (qNK hK20 ?_))))));clear hK20;clear F a;intro a F;refine wp_ret ?_;refine xI ?_;refine bRet results84 F rfl ?_
     refine ⟨X1 ?_,H.below⟩
     clear F H ih hK
     (rw [ZD,ht,Bool.true_and,if_neg nk0,if_neg nk1,if_neg nk2,if_pos hk,← hr,h90,Bool.true_and,Bool.eq_iff_iff];simp only [decide_eq_true_eq];omega)
    refine Xe F (Xf (Xf (Xf (Xg rfl rfl (Xh rfl (qNK hK20 ?_))))));clear hK20;clear F a;intro a F;refine wp_ret ?_;refine xI ?_;refine bRet results84 F rfl ?_
    refine ⟨X1 ?_,H.below⟩
    clear F H ih hK
    (rw [ZD,ht,Bool.true_and,if_neg nk0,if_neg nk1,if_neg nk2,if_pos hk,← hr,h90,Bool.false_and];done)
   replace h86:=Yi h86;refine cIfF F rfl ?_;refine cSR fun K21 hK21=>Xm F rfl rfl ZQ (Xh rfl (qNK hK21 ?_));clear hK21;clear F a;intro a F
   refine cIf F rfl (fun h96=>?_) (fun h96=>?_)
   ·
    replace h96:=Yh h96
    have hk:k=5:=UInt8.toNat_inj.1 (by have:(5:UInt8).toNat=5:=rfl;omega)
    refine cSR fun K22 hK22=>Xl F rfl (Xd rfl ?_);clear F a;intro a F
    refine F.split 99 rfl ?_ ?_ <;> (clear F;intro h99 F)
    ·
     refine Xi (f:=4) (k:=4) underlying28 rfl sizeOf26 rfl rfl F rfl (Xc isAgg26 rfl (H.cell 0 rfl rfl) (Xs underlying26 rfl (Xj rfl rfl ZQ (Xg rfl rfl (Xh rfl (qNK hK22 ?_))))));clear hK22;clear F a;intro a F;refine wp_ret ?_;refine xI ?_;refine bRet results84 F rfl ?_
     refine ⟨X1 ?_,H.below⟩
     clear F H ih hK
     (have nk34:¬ (k=3∨k=4):=by rw [hk];decide
      rw [ZD,ht,Bool.true_and,if_neg nk0,if_neg nk1,if_neg nk2,if_neg nk34,if_pos hk,← hr,h99,Bool.true_and,CF];done)
    refine Xe F (Xf (Xf (Xf (Xg rfl rfl (Xh rfl (qNK hK22 ?_))))));clear hK22;clear F a;intro a F;refine wp_ret ?_;refine xI ?_;refine bRet results84 F rfl ?_
    refine ⟨X1 ?_,H.below⟩
    clear F H ih hK
    (have nk34:¬ (k=3∨k=4):=by rw [hk];decide
     rw [ZD,ht,Bool.true_and,if_neg nk0,if_neg nk1,if_neg nk2,if_neg nk34,if_pos hk,← hr,h99,Bool.false_and];done)
   replace h96:=Yi h96
   have nk5:k ≠ 5:=fun e=>h96 (by rw [e];rfl)
   refine wp_skip (hK9 _ _ (cSR fun K23 hK23=>Xa F rfl (qNK hK23 ?_)));clear hK9 hK23;clear F a;intro a F;refine wp_ret ?_;refine bRet results84 F rfl ?_
   refine ⟨X1 ?_,H.below⟩
   clear F H ih hK
   (have nk34:¬ (k=3∨k=4):=by
      have e3:(3:UInt8).toNat=3:=rfl
      have e4:(4:UInt8).toNat=4:=rfl
      rintro (e | e) <;> (have:=congrArg UInt8.toNat e;omega)
    rw [ZD,ht,Bool.true_and,if_neg nk0,if_neg nk1,if_neg nk2,if_neg nk34,if_neg nk5];done)
theorem Di (threads locs:Int) (h:Nat) (cs:List Value) (c:Cnd) (w0:World) (hC:CondAt w0 h cs c) (hd:Z8 c≤9223372036854775807) :
   Calls Tryz.prog 45 #[.agg cs.toArray,.int .i64 threads,.int .i64 locs] w0 fun e w'=>e = .returned (.bool (Yk threads locs 20 c))∧Below w0.heap.size w0 w':=by
 obtain ⟨k0,k1,k2,k3,k4,rfl⟩:=Xat (Zc hC)
 have H:=Own.start w0 none
 refine XE func45 rfl ntmps45 rfl (fun a F=>?_);refine cSR fun K1 hK1=>?_;refine sBx H F rfl rfl rfl ?_;clear F a H;intro b3 a w F H;refine Xa F rfl (qNK hK1 (qSR fun K2 hK2=>?_));clear hK1;clear F a;intro a F
 refine Xo underlying28 rfl ?si F rfl (H.whole 0 rfl) ?_
 case si=>exact XC sizeOf28
 clear F a;intro a F;refine Xn call83 F rfl (Dd h _ c _ (CondAt.grown H.grown rfl _ _ _ hC) hd) (gG H ?_);clear F a H;intro a w F H;refine Xm F rfl rfl GZ (Xd rfl ?_);clear F a;intro a F
 refine F.split 10 rfl ?_ ?_ <;> (clear F;intro h10 F)
 ·
  replace h10:=of_decide_eq_true h10
  refine Xo underlying28 rfl ?si F rfl (H.whole 0 rfl) ?_
  case si=>exact XC sizeOf28
  clear F a;intro a F;refine Xl F rfl (Xd rfl ?_);clear F a;intro a F;refine Xn call84 F rfl (De threads locs h _ c _ (CondAt.grown H.grown rfl _ _ _ hC)) (gG H ?_);clear F a H;intro a w F H;refine sPk F rfl rfl rfl rfl (Xh rfl (qNK hK2 ?_));clear hK2;clear F a;intro a F;refine wp_ret ?_;refine bRet results45 F rfl ?_
  refine ⟨X1 ?_,H.below⟩
  rw [WG]
  clear F H
  (rw [decide_eq_true (by omega),Bool.true_and];done)
 replace h10:=of_decide_eq_false h10;refine Xe F (Xf (Xf (Xf (Xg rfl rfl (Xh rfl (qNK hK2 ?_))))));clear hK2;clear F a;intro a F;refine wp_ret ?_;refine bRet results45 F rfl ?_
 refine ⟨X1 ?_,H.below⟩
 rw [WG]
 clear F H
 (rw [decide_eq_false (by omega),Bool.false_and];done)
end Go.Proofs.YtagnefpgidbhnaaGreatDoor
