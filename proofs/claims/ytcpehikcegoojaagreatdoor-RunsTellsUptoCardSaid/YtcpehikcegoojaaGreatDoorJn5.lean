/-
  Plain Lean: validity, as the reference states it, operation by operation; conditions without a limit on their depth. Conditions: none.
-/
import Derived.Test.YtcpehikcegoojaaGreatDoorCkK
import Derived.Test.YtcpehikcegoojaaGreatDoorJn4
import Derived.Test.YtcpehikcegoojaaGreatDoorVcL
import Derived.Test.YtcpehikcegoojaaGreatDoorJn1
set_option linter.unusedSimpArgs false
set_option linter.unusedVariables false
namespace Go.Proofs.YtcpehikcegoojaaGreatDoor
-- RfP
section
variable {x:Ins} {locs after:Int}
theorem Q4:Ma x locs after=(QD x locs after 0 && QD x locs after 1 && QD x locs after 2 && QD x locs after 3 && QD x locs after 4 && QD x locs after 5 && QD x locs after 6 && QD x locs after 7):=by
 simp only [Ma,show List.range 8=[0,1,2,3,4,5,6,7] from rfl,List.all_cons,List.all_nil,Bool.and_true,Bool.and_assoc]
theorem le1 (m:UInt8):decide (m < 2)=(m == 0 || m == 1):=by
 rw [Bool.eq_iff_iff]
 simp only [Bool.and_eq_true,Bool.or_eq_true,decide_eq_true_eq,beq_iff_eq,UInt8.lt_iff_toNat_lt,UInt8.le_iff_toNat_le,← UInt8.toNat_inj,UInt8.reduceToNat]
 omega
theorem fn13 (m:UInt8):(decide (1≤m) && decide (m≤3))=(m == 1 || m == 2 || m == 3):=by
 rw [Bool.eq_iff_iff]
 simp only [Bool.and_eq_true,Bool.or_eq_true,decide_eq_true_eq,beq_iff_eq,UInt8.lt_iff_toNat_lt,UInt8.le_iff_toNat_le,← UInt8.toNat_inj,UInt8.reduceToNat]
 omega
theorem fn46 (m:UInt8):(decide (4≤m) && decide (m≤6))=(m == 4 || m == 5 || m == 6):=by
 rw [Bool.eq_iff_iff]
 simp only [Bool.and_eq_true,Bool.or_eq_true,decide_eq_true_eq,beq_iff_eq,UInt8.lt_iff_toNat_lt,UInt8.le_iff_toNat_le,← UInt8.toNat_inj,UInt8.reduceToNat]
 omega
theorem Xkk (m:UInt8):(decide (3≤m) && decide (m≤5))=(m == 3 || m == 4 || m == 5):=by
 rw [Bool.eq_iff_iff]
 simp only [Bool.and_eq_true,Bool.or_eq_true,decide_eq_true_eq,beq_iff_eq,UInt8.lt_iff_toNat_lt,UInt8.le_iff_toNat_le,← UInt8.toNat_inj,UInt8.reduceToNat]
 omega
def XcC (x:Ins):Ins:=⟨x.op,x.dst,x.loc,false,0,false,0,0,x.mode,0⟩
def XcB (x:Ins):Ins:=⟨x.op,0,x.loc,x.aR,x.aN,false,0,0,x.mode,0⟩
def XcA (x:Ins):Ins:=⟨x.op,x.dst,0,x.aR,x.aN,x.bR,x.bN,x.fn,0,0⟩
def EB (x:Ins):Ins:=⟨x.op,x.dst,x.loc,x.aR,x.aN,false,0,0,0,0⟩
def Xcz (x:Ins):Ins:=⟨x.op,x.dst,x.loc,x.aR,x.aN,x.bR,x.bN,0,0,0⟩
def Xcy (x:Ins):Ins:=⟨x.op,0,0,false,0,false,0,0,x.mode,0⟩
def Xcx (x:Ins):Ins:=⟨x.op,0,0,x.aR,x.aN,x.bR,x.bN,x.fn,0,x.skip⟩
theorem XhU (h:x.op=1):Ma x locs after=((x == XcC x) && decide ((x.loc.toNat:Int) < locs) && decide (x.dst < 8) && decide (x.mode < 2)):=by
 obtain ⟨b1,b2,b3,b4,b5,b6,b7⟩:Qe (1:UInt8) 1=true∧Qe (1:UInt8) 2=true∧Qe (1:UInt8) 4=false∧Qe (1:UInt8) 8=false∧Qe (1:UInt8) 16=false∧Qe (1:UInt8) 32=true∧Qe (1:UInt8) 64=false:=by decide
 have hn:x.needed=XcC x:=by simp [Ins.needed,XcC,h,b1,b2,b3,b4,b5,b6,b7]
 rw [Q4,le1]
 cases he:x == XcC x with
 | false=>simp [QD,hn,he]
 | true=>
   have e:=eq_of_beq he
   have ha:x.aR=false:=by rw [e];rfl
   have hb:x.bR=false:=by rw [e];rfl
   simp [QD,hn,he,h,b1,b2,b3,b4,b5,b6,b7,Mr,NF,Xb0,ha,hb,Bool.and_assoc,Bool.and_comm,Bool.and_left_comm]
theorem Xgm (h:x.op=2):Ma x locs after=((x == XcB x) && decide ((x.loc.toNat:Int) < locs) && Mr x.aR x.aN && (x.mode == 0 || x.mode == 2)):=by
 obtain ⟨b1,b2,b3,b4,b5,b6,b7⟩:Qe (2:UInt8) 1=false∧Qe (2:UInt8) 2=true∧Qe (2:UInt8) 4=true∧Qe (2:UInt8) 8=false∧Qe (2:UInt8) 16=false∧Qe (2:UInt8) 32=true∧Qe (2:UInt8) 64=false:=by decide
 have hn:x.needed=XcB x:=by simp [Ins.needed,XcB,h,b1,b2,b3,b4,b5,b6,b7]
 rw [Q4]
 cases he:x == XcB x with
 | false=>simp [QD,hn,he]
 | true=>
   have e:=eq_of_beq he
   have hd:x.dst=0:=by rw [e];rfl
   have hb:x.bR=false:=by rw [e];rfl
   have hg:Mr x.bR x.bN=true:=by rw [hb];rfl
   simp [QD,hn,he,h,b1,b2,b3,b4,b5,b6,b7,hg,NF,Xb0,hd,Bool.and_assoc,Bool.and_comm,Bool.and_left_comm]
theorem XeM (h:x.op=3):Ma x locs after=((x == XcA x) && decide (x.dst < 8) && Mr x.aR x.aN && Mr x.bR x.bN && (decide (1≤x.fn) && decide (x.fn≤3))):=by
 obtain ⟨b1,b2,b3,b4,b5,b6,b7⟩:Qe (3:UInt8) 1=true∧Qe (3:UInt8) 2=false∧Qe (3:UInt8) 4=true∧Qe (3:UInt8) 8=true∧Qe (3:UInt8) 16=true∧Qe (3:UInt8) 32=false∧Qe (3:UInt8) 64=false:=by decide
 have hn:x.needed=XcA x:=by simp [Ins.needed,XcA,h,b1,b2,b3,b4,b5,b6,b7]
 rw [Q4,fn13]
 cases he:x == XcA x with
 | false=>simp [QD,hn,he]
 | true=>simp [QD,hn,he,h,b1,b2,b3,b4,b5,b6,b7,NF,Xb0,Bool.and_assoc,Bool.and_comm,Bool.and_left_comm]
theorem XbX (h:x.op=4):Ma x locs after=((x == EB x) && decide ((x.loc.toNat:Int) < locs) && decide (x.dst < 8) && Mr x.aR x.aN):=by
 obtain ⟨b1,b2,b3,b4,b5,b6,b7⟩:Qe (4:UInt8) 1=true∧Qe (4:UInt8) 2=true∧Qe (4:UInt8) 4=true∧Qe (4:UInt8) 8=false∧Qe (4:UInt8) 16=false∧Qe (4:UInt8) 32=false∧Qe (4:UInt8) 64=false:=by decide
 have hn:x.needed=EB x:=by simp [Ins.needed,EB,h,b1,b2,b3,b4,b5,b6,b7]
 rw [Q4]
 cases he:x == EB x with
 | false=>simp [QD,hn,he]
 | true=>
   have e:=eq_of_beq he
   have hb:x.bR=false:=by rw [e];rfl
   have hg:Mr x.bR x.bN=true:=by rw [hb];rfl
   simp [QD,hn,he,h,b1,b2,b3,b4,b5,b6,b7,hg,NF,Xb0,Bool.and_assoc,Bool.and_comm,Bool.and_left_comm]
theorem XbW (h:x.op=5):Ma x locs after=((x == EB x) && decide ((x.loc.toNat:Int) < locs) && decide (x.dst < 8) && Mr x.aR x.aN):=by
 obtain ⟨b1,b2,b3,b4,b5,b6,b7⟩:Qe (5:UInt8) 1=true∧Qe (5:UInt8) 2=true∧Qe (5:UInt8) 4=true∧Qe (5:UInt8) 8=false∧Qe (5:UInt8) 16=false∧Qe (5:UInt8) 32=false∧Qe (5:UInt8) 64=false:=by decide
 have hn:x.needed=EB x:=by simp [Ins.needed,EB,h,b1,b2,b3,b4,b5,b6,b7]
 rw [Q4]
 cases he:x == EB x with
 | false=>simp [QD,hn,he]
 | true=>
   have e:=eq_of_beq he
   have hb:x.bR=false:=by rw [e];rfl
   have hg:Mr x.bR x.bN=true:=by rw [hb];rfl
   simp [QD,hn,he,h,b1,b2,b3,b4,b5,b6,b7,hg,NF,Xb0,Bool.and_assoc,Bool.and_comm,Bool.and_left_comm]
theorem Xgl (h:x.op=6):Ma x locs after=((x == Xcz x) && decide ((x.loc.toNat:Int) < locs) && decide (x.dst < 8) && Mr x.aR x.aN && Mr x.bR x.bN):=by
 obtain ⟨b1,b2,b3,b4,b5,b6,b7⟩:Qe (6:UInt8) 1=true∧Qe (6:UInt8) 2=true∧Qe (6:UInt8) 4=true∧Qe (6:UInt8) 8=true∧Qe (6:UInt8) 16=false∧Qe (6:UInt8) 32=false∧Qe (6:UInt8) 64=false:=by decide
 have hn:x.needed=Xcz x:=by simp [Ins.needed,Xcz,h,b1,b2,b3,b4,b5,b6,b7]
 rw [Q4]
 cases he:x == Xcz x with
 | false=>simp [QD,hn,he]
 | true=>simp [QD,hn,he,h,b1,b2,b3,b4,b5,b6,b7,NF,Xb0,Bool.and_assoc,Bool.and_comm,Bool.and_left_comm]
theorem Xjp (h:x.op=7):Ma x locs after=((x == Xcy x) && (decide (3≤x.mode) && decide (x.mode≤5))):=by
 obtain ⟨b1,b2,b3,b4,b5,b6,b7⟩:Qe (7:UInt8) 1=false∧Qe (7:UInt8) 2=false∧Qe (7:UInt8) 4=false∧Qe (7:UInt8) 8=false∧Qe (7:UInt8) 16=false∧Qe (7:UInt8) 32=true∧Qe (7:UInt8) 64=false:=by decide
 have hn:x.needed=Xcy x:=by simp [Ins.needed,Xcy,h,b1,b2,b3,b4,b5,b6,b7]
 rw [Q4,Xkk]
 cases he:x == Xcy x with
 | false=>simp [QD,hn,he]
 | true=>
   have e:=eq_of_beq he
   have hd:x.dst=0:=by rw [e];rfl
   have ha:x.aR=false:=by rw [e];rfl
   have hb:x.bR=false:=by rw [e];rfl
   simp [QD,hn,he,h,b1,b2,b3,b4,b5,b6,b7,Mr,ha,hb,NF,Xb0,hd]
theorem Xc6 (h:x.op=8):Ma x locs after=((x == Xcx x) && Mr x.aR x.aN && Mr x.bR x.bN && (decide (4≤x.fn) && decide (x.fn≤6)) && decide (1≤x.skip) && decide ((x.skip.toNat:Int)≤after)):=by
 obtain ⟨b1,b2,b3,b4,b5,b6,b7⟩:Qe (8:UInt8) 1=false∧Qe (8:UInt8) 2=false∧Qe (8:UInt8) 4=true∧Qe (8:UInt8) 8=true∧Qe (8:UInt8) 16=true∧Qe (8:UInt8) 32=false∧Qe (8:UInt8) 64=true:=by decide
 have hn:x.needed=Xcx x:=by simp [Ins.needed,Xcx,h,b1,b2,b3,b4,b5,b6,b7]
 rw [Q4,fn46]
 cases he:x == Xcx x with
 | false=>simp [QD,hn,he]
 | true=>
   have e:=eq_of_beq he
   have hd:x.dst=0:=by rw [e];rfl
   simp [QD,hn,he,h,b1,b2,b3,b4,b5,b6,b7,NF,Xb0,hd,Bool.and_assoc,Bool.and_comm,Bool.and_left_comm]
theorem ins_0 (h:¬ (x.op.toNat=1∨x.op.toNat=2∨x.op.toNat=3∨x.op.toNat=4∨x.op.toNat=5∨x.op.toNat=6∨x.op.toNat=7∨x.op.toNat=8)):Ma x locs after=false:=by
 have h0:QD x locs after 0=false:=by
   have h1:(1:UInt8).toNat=1:=rfl
   have h8:(8:UInt8).toNat=8:=rfl
   simp only [QD,UInt8.le_iff_toNat_le,h1,h8,Bool.and_eq_false_iff,decide_eq_false_iff_not]
   omega
 rw [Q4,h0];simp
end
mutual
def NZ (threads locs:Int):Cnd→Bool
 | .mk k t n v l=>XaS threads locs l &&
   (if k=0 then (t == 0 && n == 0 && v == 0) && l.length == 0
   else if k=1 then decide ((t.toNat:Int) < threads) && decide (n < 8) && l.length == 0
   else if k=2 then decide ((n.toNat:Int) < locs) && t == 0 && l.length == 0
   else if k=3∨k=4 then (t == 0 && n == 0 && v == 0) && decide (2≤l.length)
   else if k=5 then (t == 0 && n == 0 && v == 0) && l.length == 1
   else false)
def XaS (threads locs:Int):List Cnd→Bool
 | []=>true
 | c :: r=>NZ threads locs c && XaS threads locs r
end
theorem EU (threads locs:Int):∀ l,XaS threads locs l=l.all (NZ threads locs)
 | []=>by simp [XaS]
 | c :: r=>by simp [XaS,EU threads locs r]
theorem deepL_le {n:Nat}:∀ {l:List Cnd},El l≤n ↔ ∀ c ∈ l,Nw c≤n
 | []=>by simp [El]
 | c :: r=>by
   simp only [El,Nat.max_le,List.mem_cons,forall_eq_or_imp]
   rw [deepL_le (l:=r)]
theorem Lb (threads locs:Int):∀ (d:Nat) (c:Cnd),Qs threads locs d c=(decide (Nw c≤d) && NZ threads locs c)
 | 0,.mk k t n v l=>by simp [Qs,Nw]
 | d+1,.mk k t n v l=>by
   have hk:l.all (Qs threads locs d)=(decide (El l≤d) && XaS threads locs l):=by
     rw [EU];rw [Bool.eq_iff_iff]
     simp only [List.all_eq_true,Bool.and_eq_true,decide_eq_true_eq,deepL_le]
     constructor
     · intro h
       have:∀ c ∈ l,Nw c≤d∧NZ threads locs c=true:=fun c hc=>by
         have:=h c hc
         rw [Lb threads locs d c] at this
         simpa using this
       exact ⟨fun c hc=>(this c hc).1,fun c hc=>(this c hc).2⟩
     · intro h c hc
       rw [Lb threads locs d c]
       simp [h.1 c hc,h.2 c hc]
   have h0:l.length=0→El l=0∧XaS threads locs l=true:=fun h=>by
     have:=List.eq_nil_of_length_eq_zero h
     subst this
     exact ⟨rfl,by simp [XaS]⟩
   have hd:decide (Nw (.mk k t n v l)≤d+1)=decide (El l≤d):=by simp [Nw]
   rw [hd,Qs,NZ,hk]
   by_cases h1:l.length=0
   · obtain ⟨e1,e2⟩:=h0 h1
     rw [e1,e2,h1]
     simp
   · have hf:(l.length == 0)=false:=by simpa using h1
     rw [hf]
     cases decide (El l≤d) <;> cases XaS threads locs l <;> simp
-- RfA
open Go.Proofs.Tryz
open Go.RowKit
set_option maxRecDepth 100000
theorem N6 (r:Bool) (n:UInt8) (w0:World):Calls Tryz.prog 79 #[.agg #[.bool r,b8 n]] w0 fun e w'=>e = .returned (.bool (Mr r n))∧Below w0.heap.size w0 w':=by
 have H:=Own.start w0 none
 refine JF func79 rfl ntmps79 rfl (fun a F=>?_);refine cSR fun K1 hK1=>?_;refine sBx H F rfl rfl rfl ?_;clear F a H;intro b1 a w F H;refine Xa F rfl (qNK hK1 (qSR fun K2 hK2=>Xr (f:=0) (k:=0) XV rfl YQ rfl rfl rfl (Xc Y6 rfl (H.cell 0 rfl rfl) (Cc rfl rfl rfl (Xh rfl ?_)))));clear hK1;clear F a;intro a F
 refine F.split 6 rfl ?_ ?_ <;> (clear F;intro h6 F)
 ·
  replace h6:=N1 h6;refine XB F (XC (XC (Xy rfl rfl (Xd rfl (qNK hK2 ?_)))));clear hK2;clear F a;intro a F;refine wp_ret ?_;refine JI results79 F rfl ?_
  exact ⟨JZ (by simp_all [Mr]),H.below⟩
 replace h6:=N2 h6;refine Xb (f:=1) (k:=1) XV rfl XH rfl rfl F rfl (Xc XJ rfl (H.cell 0 rfl rfl) (Xe rfl rfl (Eu (y:=8)) (Xy rfl rfl (Xd rfl (qNK hK2 ?_)))));clear hK2;clear F a;intro a F;refine wp_ret ?_;refine JI results79 F rfl ?_
 exact ⟨JZ (by simp_all [Mr]),H.below⟩
set_option maxHeartbeats 4000000 in
theorem Xht (x:Ins) (locs after:Int) (w0:World):Calls Tryz.prog 62 #[.agg x.cells.toArray,.int .i64 locs,.int .i64 after] w0 fun e w'=>e = .returned (.bool (Ma x locs after))∧Below w0.heap.size w0 w':=by
 have H:=Own.start w0 none
 refine JF func62 rfl ntmps62 rfl (fun a F=>?_);refine cSR fun K1 hK1=>?_;refine sBx H F rfl rfl rfl ?_;clear F a H;intro b3 a w F H;refine Xa F rfl (qNK hK1 (qSR fun K2 hK2=>Xr (f:=0) (k:=0) XI rfl XH rfl rfl rfl (Xc XJ rfl (H.cell 0 rfl rfl) (qBd (places:=[(0,1),(1,1),(2,1),(3,2),(5,2),(7,1),(8,1),(9,1)]) Yu XI (by kernel_rfl) rfl rfl rfl rfl ?_))));clear hK1;clear F a;intro a F;refine sAl H Yu F rfl rfl ?_;clear F a H;intro b7 a w F H
 refine sSr H 0 ?si F rfl rfl rfl ?s1 rfl rfl ?_
 case si=>exact Jz XP
 case s1=>rfl
 clear H;intro w H;refine nK hK2 (cSR fun K3 hK3=>Xb (f:=2) (k:=2) XI rfl XH rfl rfl F rfl (Xc XJ rfl (H.cell 1 rfl rfl) (qCv XO XT rfl rfl rfl (QG _) (Xh rfl (Xe rfl rfl QF (Xd rfl (qNK hK3 (qSR fun K4 hK4=>Xr (f:=1) (k:=1) XI rfl XH rfl rfl rfl (Xc XJ rfl (H.cell 1 rfl rfl) (Xe rfl rfl (Eu (y:=8)) (Xd rfl (qNK hK4 ?_))))))))))));clear hK2 hK3 hK4;clear F a;intro a F;refine JD (fun K5 hK5=>?_);refine cSR fun K6 hK6=>Xb (f:=0) (k:=0) XI rfl XH rfl rfl F rfl (Xc XJ rfl (H.cell 1 rfl rfl) (qCv XO XT rfl rfl rfl (QG _) (qNK hK6 ?_)));clear hK6;clear F a;intro a F;refine wp_block ?_;refine cSR fun K7 hK7=>Xg F rfl rfl Mp (Xd rfl (qNK hK7 ?_));clear hK7;clear F a;intro a F
 refine cIf F rfl (fun h24=>?_) (fun h24=>?_)
 ·
  replace h24:=J1 h24
  have ho:x.op=1:=UInt8.toNat_inj.1 (by have:(1:UInt8).toNat=1:=rfl;omega)
  refine cSR fun K8 hK8=>Xb (f:=1) (k:=1) XI rfl XH rfl rfl F rfl (Xc XJ rfl (H.cell 1 rfl rfl) (Xr (f:=1) (k:=1) XI rfl XH rfl rfl rfl ?_));clear F a;intro a F;refine sSt H 0 XH F rfl rfl rfl rfl rfl rfl ?_;clear H;intro w H;refine nK hK8 (cSR fun K9 hK9=>Xb (f:=2) (k:=2) XI rfl XH rfl rfl F rfl (Xc XJ rfl (H.cell 1 rfl rfl) (Xr (f:=2) (k:=2) XI rfl XH rfl rfl rfl ?_)));clear hK8;clear F a;intro a F;refine sSt H 0 XH F rfl rfl rfl rfl rfl rfl ?_;clear H;intro w H;refine nK hK9 (cSR fun K10 hK10=>Xb (f:=6) (k:=8) XI rfl XH rfl rfl F rfl (Xc XJ rfl (H.cell 1 rfl rfl) (Xr (f:=6) (k:=8) XI rfl XH rfl rfl rfl ?_)));clear hK9;clear F a;intro a F;refine sSt H 0 XH F rfl rfl rfl rfl rfl rfl ?_;clear H;intro w H;refine nK hK10 (cSR fun K11 hK11=>?_);clear hK10
  refine Xw XI rfl ?si F rfl (H.whole 1 rfl) ?_
  case si=>exact Jz XP
  clear F a;intro a F
  refine Xw XI rfl ?si F rfl (H.whole 0 rfl) ?_
  case si=>exact Jz XP
  clear F a;intro a F;refine Xg F rfl rfl (E4 (x:=x) (y:=XcC x) rfl) (Xh rfl ?_);clear F a;intro a F
  refine F.split 38 rfl ?_ ?_ <;> (clear F;intro h38 F)
  ·
   replace h38:=J1 h38
   replace h38:(x == XcC x)=true:=beq_iff_eq.2 h38
   refine Xf F rfl (Xy rfl rfl (Xh rfl ?_));clear F a;intro a F
   refine F.split 41 rfl ?_ ?_ <;> (clear F;intro h41 F)
   ·
    replace h41:=of_decide_eq_true h41;refine Xf F rfl (Xy rfl rfl (Xh rfl ?_));clear F a;intro a F
    refine F.split 44 rfl ?_ ?_ <;> (clear F;intro h44 F)
    ·
     replace h44:=of_decide_eq_true h44;refine Xb (f:=6) (k:=8) XI rfl XH rfl rfl F rfl (Xc XJ rfl (H.cell 1 rfl rfl) (Xe rfl rfl (Eu (y:=2)) (Xy rfl rfl (Xd rfl (qNK hK11 ?_)))));clear hK11;clear F a;intro a F;refine wp_ret ?_;refine xI ?_;refine JI Ye F rfl ?_
     refine ⟨JZ ?_,H.below⟩
     clear F H
     (rw [XhU ho];simp [*];done)
    replace h44:=of_decide_eq_false h44;refine XB F (XC (XC (Xy rfl rfl (Xd rfl (qNK hK11 ?_)))));clear hK11;clear F a;intro a F;refine wp_ret ?_;refine xI ?_;refine JI Ye F rfl ?_
    refine ⟨JZ ?_,H.below⟩
    clear F H
    (rw [XhU ho];simp [*];done)
   replace h41:=of_decide_eq_false h41;refine XB F (Xy rfl rfl (Xh rfl (XC (XC (XC (Xy rfl rfl (Xd rfl (qNK hK11 ?_))))))));clear hK11;clear F a;intro a F;refine wp_ret ?_;refine xI ?_;refine JI Ye F rfl ?_
   refine ⟨JZ ?_,H.below⟩
   clear F H
   (rw [XhU ho];simp [*];done)
  replace h38:=J2 h38
  replace h38:(x == XcC x)=false:=beq_false_of_ne h38
  refine XB F (Xy rfl rfl (Xh rfl (XC (Xy rfl rfl (Xh rfl (XC (XC (XC (Xy rfl rfl (Xd rfl (qNK hK11 ?_)))))))))));clear hK11;clear F a;intro a F;refine wp_ret ?_;refine xI ?_;refine JI Ye F rfl ?_
  refine ⟨JZ ?_,H.below⟩
  clear F H
  (rw [XhU ho];simp [*];done)
 replace h24:=J2 h24;refine cSR fun K12 hK12=>Xg F rfl rfl Mp (Xd rfl (qNK hK12 ?_));clear hK12;clear F a;intro a F
 refine cIf F rfl (fun h49=>?_) (fun h49=>?_)
 ·
  replace h49:=J1 h49
  have ho:x.op=2:=UInt8.toNat_inj.1 (by have:(2:UInt8).toNat=2:=rfl;omega)
  refine cSR fun K13 hK13=>Xb (f:=2) (k:=2) XI rfl XH rfl rfl F rfl (Xc XJ rfl (H.cell 1 rfl rfl) (Xr (f:=2) (k:=2) XI rfl XH rfl rfl rfl ?_));clear F a;intro a F;refine sSt H 0 XH F rfl rfl rfl rfl rfl rfl ?_;clear H;intro w H;refine nK hK13 (cSR fun K14 hK14=>Xb (f:=3) (k:=3) XI rfl XR rfl rfl F rfl ?_);clear hK13;clear F a;intro a F
  refine Xw XV rfl ?si F rfl (H.range 1 rfl _ 2) ?_
  case si=>exact Jz XR
  clear F a;intro a F;refine Xb (f:=3) (k:=3) XI rfl XR rfl rfl F rfl ?_;clear F a;intro a F
  refine sSr H 0 ?si F rfl rfl rfl ?s1 rfl rfl ?_
  case si=>exact Jz XR
  case s1=>rfl
  clear H;intro w H;refine nK hK14 (cSR fun K15 hK15=>Xb (f:=6) (k:=8) XI rfl XH rfl rfl F rfl (Xc XJ rfl (H.cell 1 rfl rfl) (Xr (f:=6) (k:=8) XI rfl XH rfl rfl rfl ?_)));clear hK14;clear F a;intro a F;refine sSt H 0 XH F rfl rfl rfl rfl rfl rfl ?_;clear H;intro w H;refine nK hK15 (cSR fun K16 hK16=>?_);clear hK15
  refine Xw XI rfl ?si F rfl (H.whole 1 rfl) ?_
  case si=>exact Jz XP
  clear F a;intro a F
  refine Xw XI rfl ?si F rfl (H.whole 0 rfl) ?_
  case si=>exact Jz XP
  clear F a;intro a F;refine Xg F rfl rfl (E4 (x:=x) (y:=XcB x) rfl) (Xh rfl ?_);clear F a;intro a F
  refine F.split 63 rfl ?_ ?_ <;> (clear F;intro h63 F)
  ·
   replace h63:=J1 h63
   replace h63:(x == XcB x)=true:=beq_iff_eq.2 h63
   refine Xf F rfl (Xy rfl rfl (Xh rfl ?_));clear F a;intro a F
   refine F.split 66 rfl ?_ ?_ <;> (clear F;intro h66 F)
   ·
    replace h66:=of_decide_eq_true h66;refine Xb (f:=3) (k:=3) XI rfl XR rfl rfl F rfl ?_;clear F a;intro a F
    refine Xw XV rfl ?si F rfl (H.range 1 rfl _ 2) ?_
    case si=>exact Jz XR
    clear F a;intro a F;refine Xu Ze F rfl (N6 _ _ _) (gG H ?_);clear F a H;intro a w F H;refine sPk F rfl rfl rfl rfl (Xh rfl ?_);clear F a;intro a F
    refine F.split 71 rfl ?_ ?_ <;> (clear F;intro h71 F)
    ·
     refine Xb (f:=6) (k:=8) XI rfl XH rfl rfl F rfl (Xc XJ rfl (H.cell 1 rfl rfl) (Xe rfl rfl (JL (y:=0)) (Xh rfl ?_)));clear F a;intro a F
     refine F.split 75 rfl ?_ ?_ <;> (clear F;intro h75 F)
     ·
      replace h75:=J1 h75;refine XB F (XC (XC (Xy rfl rfl (Xy rfl rfl (Xd rfl (qNK hK16 ?_))))));clear hK16;clear F a;intro a F;refine wp_ret ?_;refine xI ?_;refine JI Ye F rfl ?_
      refine ⟨JZ ?_,H.below⟩
      clear F H
      (rw [Xgm ho];simp [*];done)
     replace h75:=J2 h75;refine Xb (f:=6) (k:=8) XI rfl XH rfl rfl F rfl (Xc XJ rfl (H.cell 1 rfl rfl) (Xe rfl rfl (JL (y:=2)) (Xy rfl rfl (Xy rfl rfl (Xd rfl (qNK hK16 ?_))))));clear hK16;clear F a;intro a F;refine wp_ret ?_;refine xI ?_;refine JI Ye F rfl ?_
     refine ⟨JZ ?_,H.below⟩
     clear F H
     (rw [Xgm ho];simp [*];done)
    refine XB F (XC (XC (XC (XC (XC (XC (XC (Xy rfl rfl (Xd rfl (qNK hK16 ?_))))))))));clear hK16;clear F a;intro a F;refine wp_ret ?_;refine xI ?_;refine JI Ye F rfl ?_
    refine ⟨JZ ?_,H.below⟩
    clear F H
    (rw [Xgm ho];simp [*];done)
   replace h66:=of_decide_eq_false h66;refine XB F (XC (XC (Xy rfl rfl (Xh rfl (XC (XC (XC (XC (XC (XC (XC (XC (Xy rfl rfl (Xd rfl (qNK hK16 ?_)))))))))))))));clear hK16;clear F a;intro a F;refine wp_ret ?_;refine xI ?_;refine JI Ye F rfl ?_
   refine ⟨JZ ?_,H.below⟩
   clear F H
   (rw [Xgm ho];simp [*];done)
  replace h63:=J2 h63
  replace h63:(x == XcB x)=false:=beq_false_of_ne h63
  refine XB F (Xy rfl rfl (Xh rfl (XC (XC (XC (Xy rfl rfl (Xh rfl (XC (XC (XC (XC (XC (XC (XC (XC (Xy rfl rfl (Xd rfl (qNK hK16 ?_))))))))))))))))));clear hK16;clear F a;intro a F;refine wp_ret ?_;refine xI ?_;refine JI Ye F rfl ?_
  refine ⟨JZ ?_,H.below⟩
  clear F H
  (rw [Xgm ho];simp [*];done)
 replace h49:=J2 h49;refine cSR fun K17 hK17=>Xg F rfl rfl Mp (Xd rfl (qNK hK17 ?_));clear hK17;clear F a;intro a F
 refine cIf F rfl (fun h81=>?_) (fun h81=>?_)
 ·
  replace h81:=J1 h81
  have ho:x.op=3:=UInt8.toNat_inj.1 (by have:(3:UInt8).toNat=3:=rfl;omega)
  refine cSR fun K18 hK18=>Xb (f:=1) (k:=1) XI rfl XH rfl rfl F rfl (Xc XJ rfl (H.cell 1 rfl rfl) (Xr (f:=1) (k:=1) XI rfl XH rfl rfl rfl ?_));clear F a;intro a F;refine sSt H 0 XH F rfl rfl rfl rfl rfl rfl ?_;clear H;intro w H;refine nK hK18 (cSR fun K19 hK19=>Xb (f:=3) (k:=3) XI rfl XR rfl rfl F rfl ?_);clear hK18;clear F a;intro a F
  refine Xw XV rfl ?si F rfl (H.range 1 rfl _ 2) ?_
  case si=>exact Jz XR
  clear F a;intro a F;refine Xb (f:=3) (k:=3) XI rfl XR rfl rfl F rfl ?_;clear F a;intro a F
  refine sSr H 0 ?si F rfl rfl rfl ?s1 rfl rfl ?_
  case si=>exact Jz XR
  case s1=>rfl
  clear H;intro w H;refine nK hK19 (cSR fun K20 hK20=>Xb (f:=4) (k:=5) XI rfl XR rfl rfl F rfl ?_);clear hK19;clear F a;intro a F
  refine Xw XV rfl ?si F rfl (H.range 1 rfl _ 2) ?_
  case si=>exact Jz XR
  clear F a;intro a F;refine Xb (f:=4) (k:=5) XI rfl XR rfl rfl F rfl ?_;clear F a;intro a F
  refine sSr H 0 ?si F rfl rfl rfl ?s1 rfl rfl ?_
  case si=>exact Jz XR
  case s1=>rfl
  clear H;intro w H;refine nK hK20 (cSR fun K21 hK21=>Xb (f:=5) (k:=7) XI rfl XH rfl rfl F rfl (Xc XJ rfl (H.cell 1 rfl rfl) (Xr (f:=5) (k:=7) XI rfl XH rfl rfl rfl ?_)));clear hK20;clear F a;intro a F;refine sSt H 0 XH F rfl rfl rfl rfl rfl rfl ?_;clear H;intro w H;refine nK hK21 (cSR fun K22 hK22=>?_);clear hK21
  refine Xw XI rfl ?si F rfl (H.whole 1 rfl) ?_
  case si=>exact Jz XP
  clear F a;intro a F
  refine Xw XI rfl ?si F rfl (H.whole 0 rfl) ?_
  case si=>exact Jz XP
  clear F a;intro a F;refine Xg F rfl rfl (E4 (x:=x) (y:=XcA x) rfl) (Xh rfl ?_);clear F a;intro a F
  refine F.split 98 rfl ?_ ?_ <;> (clear F;intro h98 F)
  ·
   replace h98:=J1 h98
   replace h98:(x == XcA x)=true:=beq_iff_eq.2 h98
   refine Xf F rfl (Xy rfl rfl (Xh rfl ?_));clear F a;intro a F
   refine F.split 101 rfl ?_ ?_ <;> (clear F;intro h101 F)
   ·
    replace h101:=of_decide_eq_true h101;refine Xb (f:=3) (k:=3) XI rfl XR rfl rfl F rfl ?_;clear F a;intro a F
    refine Xw XV rfl ?si F rfl (H.range 1 rfl _ 2) ?_
    case si=>exact Jz XR
    clear F a;intro a F;refine Xu Ze F rfl (N6 _ _ _) (gG H ?_);clear F a H;intro a w F H;refine sPk F rfl rfl rfl rfl (Xh rfl ?_);clear F a;intro a F
    refine F.split 106 rfl ?_ ?_ <;> (clear F;intro h106 F)
    ·
     refine Xb (f:=4) (k:=5) XI rfl XR rfl rfl F rfl ?_;clear F a;intro a F
     refine Xw XV rfl ?si F rfl (H.range 1 rfl _ 2) ?_
     case si=>exact Jz XR
     clear F a;intro a F;refine Xu Ze F rfl (N6 _ _ _) (gG H ?_);clear F a H;intro a w F H;refine sPk F rfl rfl rfl rfl (Xh rfl ?_);clear F a;intro a F
     refine F.split 111 rfl ?_ ?_ <;> (clear F;intro h111 F)
     ·
      refine Xb (f:=5) (k:=7) XI rfl XH rfl rfl F rfl (Xc XJ rfl (H.cell 1 rfl rfl) (Xe rfl rfl (Xcq (y:=1)) (Xy rfl rfl (Xh rfl ?_))));clear F a;intro a F
      refine F.split 116 rfl ?_ ?_ <;> (clear F;intro h116 F)
      ·
       replace h116:=of_decide_eq_true h116;refine Xb (f:=5) (k:=7) XI rfl XH rfl rfl F rfl (Xc XJ rfl (H.cell 1 rfl rfl) (Xe rfl rfl (Xdz (y:=3)) (Xy rfl rfl (Xd rfl (qNK hK22 ?_)))));clear hK22;clear F a;intro a F;refine wp_ret ?_;refine xI ?_;refine JI Ye F rfl ?_
       refine ⟨JZ ?_,H.below⟩
       clear F H
       (rw [XeM ho];simp [*];done)
      replace h116:=of_decide_eq_false h116;refine XB F (XC (XC (Xy rfl rfl (Xd rfl (qNK hK22 ?_)))));clear hK22;clear F a;intro a F;refine wp_ret ?_;refine xI ?_;refine JI Ye F rfl ?_
      refine ⟨JZ ?_,H.below⟩
      clear F H
      (rw [XeM ho];simp [*];done)
     refine XB F (XC (XC (Xy rfl rfl (Xh rfl (XC (XC (XC (Xy rfl rfl (Xd rfl (qNK hK22 ?_))))))))));clear hK22;clear F a;intro a F;refine wp_ret ?_;refine xI ?_;refine JI Ye F rfl ?_
     refine ⟨JZ ?_,H.below⟩
     clear F H
     (rw [XeM ho];simp [*];done)
    refine XB F (XC (XC (Xy rfl rfl (Xh rfl (XC (XC (XC (Xy rfl rfl (Xh rfl (XC (XC (XC (Xy rfl rfl (Xd rfl (qNK hK22 ?_)))))))))))))));clear hK22;clear F a;intro a F;refine wp_ret ?_;refine xI ?_;refine JI Ye F rfl ?_
    refine ⟨JZ ?_,H.below⟩
    clear F H
    (rw [XeM ho];simp [*];done)
   replace h101:=of_decide_eq_false h101;refine XB F (XC (XC (Xy rfl rfl (Xh rfl (XC (XC (XC (Xy rfl rfl (Xh rfl (XC (XC (XC (Xy rfl rfl (Xh rfl (XC (XC (XC (Xy rfl rfl (Xd rfl (qNK hK22 ?_))))))))))))))))))));clear hK22;clear F a;intro a F;refine wp_ret ?_;refine xI ?_;refine JI Ye F rfl ?_
   refine ⟨JZ ?_,H.below⟩
   clear F H
   (rw [XeM ho];simp [*];done)
  replace h98:=J2 h98
  replace h98:(x == XcA x)=false:=beq_false_of_ne h98
  refine XB F (Xy rfl rfl (Xh rfl (XC (XC (XC (Xy rfl rfl (Xh rfl (XC (XC (XC (Xy rfl rfl (Xh rfl (XC (XC (XC (Xy rfl rfl (Xh rfl (XC (XC (XC (Xy rfl rfl (Xd rfl (qNK hK22 ?_)))))))))))))))))))))));clear hK22;clear F a;intro a F;refine wp_ret ?_;refine xI ?_;refine JI Ye F rfl ?_
  refine ⟨JZ ?_,H.below⟩
  clear F H
  (rw [XeM ho];simp [*];done)
 replace h81:=J2 h81;refine JD (fun K23 hK23=>?_);refine cSR fun K24 hK24=>Xg F rfl rfl Mp (Xd rfl (qNK hK24 ?_));clear hK24;clear F a;intro a F
 refine F.split 121 rfl ?_ ?_ <;> (clear F;intro h121 F)
 ·
  replace h121:=J1 h121
  have ho:x.op=4∨x.op=5:=(by exact .inl (UInt8.toNat_inj.1 (by have:(4:UInt8).toNat=4:=rfl;omega)))
  refine MQ F rfl ?_;refine wp_skip (hK23 _ _ ?_);clear hK23;refine MQ F rfl ?_;refine cSR fun K25 hK25=>Xb (f:=1) (k:=1) XI rfl XH rfl rfl F rfl (Xc XJ rfl (H.cell 1 rfl rfl) (Xr (f:=1) (k:=1) XI rfl XH rfl rfl rfl ?_));clear F a;intro a F;refine sSt H 0 XH F rfl rfl rfl rfl rfl rfl ?_;clear H;intro w H;refine nK hK25 (cSR fun K26 hK26=>Xb (f:=2) (k:=2) XI rfl XH rfl rfl F rfl (Xc XJ rfl (H.cell 1 rfl rfl) (Xr (f:=2) (k:=2) XI rfl XH rfl rfl rfl ?_)));clear hK25;clear F a;intro a F;refine sSt H 0 XH F rfl rfl rfl rfl rfl rfl ?_;clear H;intro w H;refine nK hK26 (cSR fun K27 hK27=>Xb (f:=3) (k:=3) XI rfl XR rfl rfl F rfl ?_);clear hK26;clear F a;intro a F
  refine Xw XV rfl ?si F rfl (H.range 1 rfl _ 2) ?_
  case si=>exact Jz XR
  clear F a;intro a F;refine Xb (f:=3) (k:=3) XI rfl XR rfl rfl F rfl ?_;clear F a;intro a F
  refine sSr H 0 ?si F rfl rfl rfl ?s1 rfl rfl ?_
  case si=>exact Jz XR
  case s1=>rfl
  clear H;intro w H;refine nK hK27 (cSR fun K28 hK28=>?_);clear hK27
  refine Xw XI rfl ?si F rfl (H.whole 1 rfl) ?_
  case si=>exact Jz XP
  clear F a;intro a F
  refine Xw XI rfl ?si F rfl (H.whole 0 rfl) ?_
  case si=>exact Jz XP
  clear F a;intro a F;refine Xg F rfl rfl (E4 (x:=x) (y:=EB x) rfl) (Xh rfl ?_);clear F a;intro a F
  refine F.split 136 rfl ?_ ?_ <;> (clear F;intro h136 F)
  ·
   replace h136:=J1 h136
   replace h136:(x == EB x)=true:=beq_iff_eq.2 h136
   refine Xf F rfl (Xy rfl rfl (Xh rfl ?_));clear F a;intro a F
   refine F.split 139 rfl ?_ ?_ <;> (clear F;intro h139 F)
   ·
    replace h139:=of_decide_eq_true h139;refine Xf F rfl (Xy rfl rfl (Xh rfl ?_));clear F a;intro a F
    refine F.split 142 rfl ?_ ?_ <;> (clear F;intro h142 F)
    ·
     replace h142:=of_decide_eq_true h142;refine Xb (f:=3) (k:=3) XI rfl XR rfl rfl F rfl ?_;clear F a;intro a F
     refine Xw XV rfl ?si F rfl (H.range 1 rfl _ 2) ?_
     case si=>exact Jz XR
     clear F a;intro a F;refine Xu Ze F rfl (N6 _ _ _) (gG H ?_);clear F a H;intro a w F H;refine sPk F rfl rfl rfl rfl (Xd rfl (qNK hK28 ?_));clear hK28;clear F a;intro a F;refine wp_ret ?_;refine xI ?_;refine JI Ye F rfl ?_
     refine ⟨JZ ?_,H.below⟩
     clear F H
     (rcases ho with ho | ho
      · rw [XbX ho];simp [*];done
      · rw [XbW ho];simp [*];done)
    replace h142:=of_decide_eq_false h142;refine XB F (XC (XC (Xy rfl rfl (Xd rfl (qNK hK28 ?_)))));clear hK28;clear F a;intro a F;refine wp_ret ?_;refine xI ?_;refine JI Ye F rfl ?_
    refine ⟨JZ ?_,H.below⟩
    clear F H
    (rcases ho with ho | ho
     · rw [XbX ho];simp [*];done
     · rw [XbW ho];simp [*];done)
   replace h139:=of_decide_eq_false h139;refine XB F (Xy rfl rfl (Xh rfl (XC (XC (XC (Xy rfl rfl (Xd rfl (qNK hK28 ?_))))))));clear hK28;clear F a;intro a F;refine wp_ret ?_;refine xI ?_;refine JI Ye F rfl ?_
   refine ⟨JZ ?_,H.below⟩
   clear F H
   (rcases ho with ho | ho
    · rw [XbX ho];simp [*];done
    · rw [XbW ho];simp [*];done)
  replace h136:=J2 h136
  replace h136:(x == EB x)=false:=beq_false_of_ne h136
  refine XB F (Xy rfl rfl (Xh rfl (XC (Xy rfl rfl (Xh rfl (XC (XC (XC (Xy rfl rfl (Xd rfl (qNK hK28 ?_)))))))))));clear hK28;clear F a;intro a F;refine wp_ret ?_;refine xI ?_;refine JI Ye F rfl ?_
  refine ⟨JZ ?_,H.below⟩
  clear F H
  (rcases ho with ho | ho
   · rw [XbX ho];simp [*];done
   · rw [XbW ho];simp [*];done)
 replace h121:=J2 h121;refine LB F rfl ?_;refine JY (Xg F rfl rfl Mp (Xd rfl (qNK hK23 ?_)));clear hK23;clear F a;intro a F
 refine F.split 121 rfl ?_ ?_ <;> (clear F;intro h121 F)
 ·
  replace h121:=J1 h121
  have ho:x.op=4∨x.op=5:=(by exact .inr (UInt8.toNat_inj.1 (by have:(5:UInt8).toNat=5:=rfl;omega)))
  refine MQ F rfl ?_;refine cSR fun K29 hK29=>Xb (f:=1) (k:=1) XI rfl XH rfl rfl F rfl (Xc XJ rfl (H.cell 1 rfl rfl) (Xr (f:=1) (k:=1) XI rfl XH rfl rfl rfl ?_));clear F a;intro a F;refine sSt H 0 XH F rfl rfl rfl rfl rfl rfl ?_;clear H;intro w H;refine nK hK29 (cSR fun K30 hK30=>Xb (f:=2) (k:=2) XI rfl XH rfl rfl F rfl (Xc XJ rfl (H.cell 1 rfl rfl) (Xr (f:=2) (k:=2) XI rfl XH rfl rfl rfl ?_)));clear hK29;clear F a;intro a F;refine sSt H 0 XH F rfl rfl rfl rfl rfl rfl ?_;clear H;intro w H;refine nK hK30 (cSR fun K31 hK31=>Xb (f:=3) (k:=3) XI rfl XR rfl rfl F rfl ?_);clear hK30;clear F a;intro a F
  refine Xw XV rfl ?si F rfl (H.range 1 rfl _ 2) ?_
  case si=>exact Jz XR
  clear F a;intro a F;refine Xb (f:=3) (k:=3) XI rfl XR rfl rfl F rfl ?_;clear F a;intro a F
  refine sSr H 0 ?si F rfl rfl rfl ?s1 rfl rfl ?_
  case si=>exact Jz XR
  case s1=>rfl
  clear H;intro w H;refine nK hK31 (cSR fun K32 hK32=>?_);clear hK31
  refine Xw XI rfl ?si F rfl (H.whole 1 rfl) ?_
  case si=>exact Jz XP
  clear F a;intro a F
  refine Xw XI rfl ?si F rfl (H.whole 0 rfl) ?_
  case si=>exact Jz XP
  clear F a;intro a F;refine Xg F rfl rfl (E4 (x:=x) (y:=EB x) rfl) (Xh rfl ?_);clear F a;intro a F
  refine F.split 136 rfl ?_ ?_ <;> (clear F;intro h136 F)
  ·
   replace h136:=J1 h136
   replace h136:(x == EB x)=true:=beq_iff_eq.2 h136
   refine Xf F rfl (Xy rfl rfl (Xh rfl ?_));clear F a;intro a F
   refine F.split 139 rfl ?_ ?_ <;> (clear F;intro h139 F)
   ·
    replace h139:=of_decide_eq_true h139;refine Xf F rfl (Xy rfl rfl (Xh rfl ?_));clear F a;intro a F
    refine F.split 142 rfl ?_ ?_ <;> (clear F;intro h142 F)
    ·
     replace h142:=of_decide_eq_true h142;refine Xb (f:=3) (k:=3) XI rfl XR rfl rfl F rfl ?_;clear F a;intro a F
     refine Xw XV rfl ?si F rfl (H.range 1 rfl _ 2) ?_
     case si=>exact Jz XR
     clear F a;intro a F;refine Xu Ze F rfl (N6 _ _ _) (gG H ?_);clear F a H;intro a w F H;refine sPk F rfl rfl rfl rfl (Xd rfl (qNK hK32 ?_));clear hK32;clear F a;intro a F;refine wp_ret ?_;refine xI ?_;refine JI Ye F rfl ?_
     refine ⟨JZ ?_,H.below⟩
     clear F H
     (rcases ho with ho | ho
      · rw [XbX ho];simp [*];done
      · rw [XbW ho];simp [*];done)
    replace h142:=of_decide_eq_false h142;refine XB F (XC (XC (Xy rfl rfl (Xd rfl (qNK hK32 ?_)))));clear hK32;clear F a;intro a F;refine wp_ret ?_;refine xI ?_;refine JI Ye F rfl ?_
    refine ⟨JZ ?_,H.below⟩
    clear F H
    (rcases ho with ho | ho
     · rw [XbX ho];simp [*];done
     · rw [XbW ho];simp [*];done)
   replace h139:=of_decide_eq_false h139;refine XB F (Xy rfl rfl (Xh rfl (XC (XC (XC (Xy rfl rfl (Xd rfl (qNK hK32 ?_))))))));clear hK32;clear F a;intro a F;refine wp_ret ?_;refine xI ?_;refine JI Ye F rfl ?_
   refine ⟨JZ ?_,H.below⟩
   clear F H
   (rcases ho with ho | ho
    · rw [XbX ho];simp [*];done
    · rw [XbW ho];simp [*];done)
  replace h136:=J2 h136
  replace h136:(x == EB x)=false:=beq_false_of_ne h136
  refine XB F (Xy rfl rfl (Xh rfl (XC (Xy rfl rfl (Xh rfl (XC (XC (XC (Xy rfl rfl (Xd rfl (qNK hK32 ?_)))))))))));clear hK32;clear F a;intro a F;refine wp_ret ?_;refine xI ?_;refine JI Ye F rfl ?_
  refine ⟨JZ ?_,H.below⟩
  clear F H
  (rcases ho with ho | ho
   · rw [XbX ho];simp [*];done
   · rw [XbW ho];simp [*];done)
 replace h121:=J2 h121;refine LB F rfl ?_;refine cSR fun K33 hK33=>Xg F rfl rfl Mp (Xd rfl (qNK hK33 ?_));clear hK33;clear F a;intro a F
 refine cIf F rfl (fun h147=>?_) (fun h147=>?_)
 ·
  replace h147:=J1 h147
  have ho:x.op=6:=UInt8.toNat_inj.1 (by have:(6:UInt8).toNat=6:=rfl;omega)
  refine cSR fun K34 hK34=>Xb (f:=1) (k:=1) XI rfl XH rfl rfl F rfl (Xc XJ rfl (H.cell 1 rfl rfl) (Xr (f:=1) (k:=1) XI rfl XH rfl rfl rfl ?_));clear F a;intro a F;refine sSt H 0 XH F rfl rfl rfl rfl rfl rfl ?_;clear H;intro w H;refine nK hK34 (cSR fun K35 hK35=>Xb (f:=2) (k:=2) XI rfl XH rfl rfl F rfl (Xc XJ rfl (H.cell 1 rfl rfl) (Xr (f:=2) (k:=2) XI rfl XH rfl rfl rfl ?_)));clear hK34;clear F a;intro a F;refine sSt H 0 XH F rfl rfl rfl rfl rfl rfl ?_;clear H;intro w H;refine nK hK35 (cSR fun K36 hK36=>Xb (f:=3) (k:=3) XI rfl XR rfl rfl F rfl ?_);clear hK35;clear F a;intro a F
  refine Xw XV rfl ?si F rfl (H.range 1 rfl _ 2) ?_
  case si=>exact Jz XR
  clear F a;intro a F;refine Xb (f:=3) (k:=3) XI rfl XR rfl rfl F rfl ?_;clear F a;intro a F
  refine sSr H 0 ?si F rfl rfl rfl ?s1 rfl rfl ?_
  case si=>exact Jz XR
  case s1=>rfl
  clear H;intro w H;refine nK hK36 (cSR fun K37 hK37=>Xb (f:=4) (k:=5) XI rfl XR rfl rfl F rfl ?_);clear hK36;clear F a;intro a F
  refine Xw XV rfl ?si F rfl (H.range 1 rfl _ 2) ?_
  case si=>exact Jz XR
  clear F a;intro a F;refine Xb (f:=4) (k:=5) XI rfl XR rfl rfl F rfl ?_;clear F a;intro a F
  refine sSr H 0 ?si F rfl rfl rfl ?s1 rfl rfl ?_
  case si=>exact Jz XR
  case s1=>rfl
  clear H;intro w H;refine nK hK37 (cSR fun K38 hK38=>?_);clear hK37
  refine Xw XI rfl ?si F rfl (H.whole 1 rfl) ?_
  case si=>exact Jz XP
  clear F a;intro a F
  refine Xw XI rfl ?si F rfl (H.whole 0 rfl) ?_
  case si=>exact Jz XP
  clear F a;intro a F;refine Xg F rfl rfl (E4 (x:=x) (y:=Xcz x) rfl) (Xh rfl ?_);clear F a;intro a F
  refine F.split 164 rfl ?_ ?_ <;> (clear F;intro h164 F)
  ·
   replace h164:=J1 h164
   replace h164:(x == Xcz x)=true:=beq_iff_eq.2 h164
   refine Xf F rfl (Xy rfl rfl (Xh rfl ?_));clear F a;intro a F
   refine F.split 167 rfl ?_ ?_ <;> (clear F;intro h167 F)
   ·
    replace h167:=of_decide_eq_true h167;refine Xf F rfl (Xy rfl rfl (Xh rfl ?_));clear F a;intro a F
    refine F.split 170 rfl ?_ ?_ <;> (clear F;intro h170 F)
    ·
     replace h170:=of_decide_eq_true h170;refine Xb (f:=3) (k:=3) XI rfl XR rfl rfl F rfl ?_;clear F a;intro a F
     refine Xw XV rfl ?si F rfl (H.range 1 rfl _ 2) ?_
     case si=>exact Jz XR
     clear F a;intro a F;refine Xu Ze F rfl (N6 _ _ _) (gG H ?_);clear F a H;intro a w F H;refine sPk F rfl rfl rfl rfl (Xh rfl ?_);clear F a;intro a F
     refine F.split 175 rfl ?_ ?_ <;> (clear F;intro h175 F)
     ·
      refine Xb (f:=4) (k:=5) XI rfl XR rfl rfl F rfl ?_;clear F a;intro a F
      refine Xw XV rfl ?si F rfl (H.range 1 rfl _ 2) ?_
      case si=>exact Jz XR
      clear F a;intro a F;refine Xu Ze F rfl (N6 _ _ _) (gG H ?_);clear F a H;intro a w F H;refine sPk F rfl rfl rfl rfl (Xd rfl (qNK hK38 ?_));clear hK38;clear F a;intro a F;refine wp_ret ?_;refine xI ?_;refine JI Ye F rfl ?_
      refine ⟨JZ ?_,H.below⟩
      clear F H
      (rw [Xgl ho];simp [*];done)
     refine XB F (XC (XC (Xy rfl rfl (Xd rfl (qNK hK38 ?_)))));clear hK38;clear F a;intro a F;refine wp_ret ?_;refine xI ?_;refine JI Ye F rfl ?_
     refine ⟨JZ ?_,H.below⟩
     clear F H
     (rw [Xgl ho];simp [*];done)
    replace h170:=of_decide_eq_false h170;refine XB F (XC (XC (Xy rfl rfl (Xh rfl (XC (XC (XC (Xy rfl rfl (Xd rfl (qNK hK38 ?_))))))))));clear hK38;clear F a;intro a F;refine wp_ret ?_;refine xI ?_;refine JI Ye F rfl ?_
    refine ⟨JZ ?_,H.below⟩
    clear F H
    (rw [Xgl ho];simp [*];done)
   replace h167:=of_decide_eq_false h167;refine XB F (Xy rfl rfl (Xh rfl (XC (XC (XC (Xy rfl rfl (Xh rfl (XC (XC (XC (Xy rfl rfl (Xd rfl (qNK hK38 ?_)))))))))))));clear hK38;clear F a;intro a F;refine wp_ret ?_;refine xI ?_;refine JI Ye F rfl ?_
   refine ⟨JZ ?_,H.below⟩
   clear F H
   (rw [Xgl ho];simp [*];done)
  replace h164:=J2 h164
  replace h164:(x == Xcz x)=false:=beq_false_of_ne h164
  refine XB F (Xy rfl rfl (Xh rfl (XC (Xy rfl rfl (Xh rfl (XC (XC (XC (Xy rfl rfl (Xh rfl (XC (XC (XC (Xy rfl rfl (Xd rfl (qNK hK38 ?_))))))))))))))));clear hK38;clear F a;intro a F;refine wp_ret ?_;refine xI ?_;refine JI Ye F rfl ?_
  refine ⟨JZ ?_,H.below⟩
  clear F H
  (rw [Xgl ho];simp [*];done)
 replace h147:=J2 h147;refine cSR fun K39 hK39=>Xg F rfl rfl Mp (Xd rfl (qNK hK39 ?_));clear hK39;clear F a;intro a F
 refine cIf F rfl (fun h180=>?_) (fun h180=>?_)
 ·
  replace h180:=J1 h180
  have ho:x.op=7:=UInt8.toNat_inj.1 (by have:(7:UInt8).toNat=7:=rfl;omega)
  refine cSR fun K40 hK40=>Xb (f:=6) (k:=8) XI rfl XH rfl rfl F rfl (Xc XJ rfl (H.cell 1 rfl rfl) (Xr (f:=6) (k:=8) XI rfl XH rfl rfl rfl ?_));clear F a;intro a F;refine sSt H 0 XH F rfl rfl rfl rfl rfl rfl ?_;clear H;intro w H;refine nK hK40 (cSR fun K41 hK41=>?_);clear hK40
  refine Xw XI rfl ?si F rfl (H.whole 1 rfl) ?_
  case si=>exact Jz XP
  clear F a;intro a F
  refine Xw XI rfl ?si F rfl (H.whole 0 rfl) ?_
  case si=>exact Jz XP
  clear F a;intro a F;refine Xg F rfl rfl (E4 (x:=x) (y:=Xcy x) rfl) (Xh rfl ?_);clear F a;intro a F
  refine F.split 188 rfl ?_ ?_ <;> (clear F;intro h188 F)
  ·
   replace h188:=J1 h188
   replace h188:(x == Xcy x)=true:=beq_iff_eq.2 h188
   refine Xb (f:=6) (k:=8) XI rfl XH rfl rfl F rfl (Xc XJ rfl (H.cell 1 rfl rfl) (Xe rfl rfl (Xcq (y:=3)) (Xy rfl rfl (Xh rfl ?_))));clear F a;intro a F
   refine F.split 193 rfl ?_ ?_ <;> (clear F;intro h193 F)
   ·
    replace h193:=of_decide_eq_true h193;refine Xb (f:=6) (k:=8) XI rfl XH rfl rfl F rfl (Xc XJ rfl (H.cell 1 rfl rfl) (Xe rfl rfl (Xdz (y:=5)) (Xy rfl rfl (Xd rfl (qNK hK41 ?_)))));clear hK41;clear F a;intro a F;refine wp_ret ?_;refine xI ?_;refine JI Ye F rfl ?_
    refine ⟨JZ ?_,H.below⟩
    clear F H
    (rw [Xjp ho];simp [*];done)
   replace h193:=of_decide_eq_false h193;refine XB F (XC (XC (Xy rfl rfl (Xd rfl (qNK hK41 ?_)))));clear hK41;clear F a;intro a F;refine wp_ret ?_;refine xI ?_;refine JI Ye F rfl ?_
   refine ⟨JZ ?_,H.below⟩
   clear F H
   (rw [Xjp ho];simp [*];done)
  replace h188:=J2 h188
  replace h188:(x == Xcy x)=false:=beq_false_of_ne h188
  refine XB F (XC (XC (Xy rfl rfl (Xh rfl (XC (XC (XC (Xy rfl rfl (Xd rfl (qNK hK41 ?_))))))))));clear hK41;clear F a;intro a F;refine wp_ret ?_;refine xI ?_;refine JI Ye F rfl ?_
  refine ⟨JZ ?_,H.below⟩
  clear F H
  (rw [Xjp ho];simp [*];done)
 replace h180:=J2 h180;refine cSR fun K42 hK42=>Xg F rfl rfl Mp (Xd rfl (qNK hK42 ?_));clear hK42;clear F a;intro a F
 refine cIf F rfl (fun h198=>?_) (fun h198=>?_)
 ·
  replace h198:=J1 h198
  have ho:x.op=8:=UInt8.toNat_inj.1 (by have:(8:UInt8).toNat=8:=rfl;omega)
  refine cSR fun K43 hK43=>Xb (f:=3) (k:=3) XI rfl XR rfl rfl F rfl ?_;clear F a;intro a F
  refine Xw XV rfl ?si F rfl (H.range 1 rfl _ 2) ?_
  case si=>exact Jz XR
  clear F a;intro a F;refine Xb (f:=3) (k:=3) XI rfl XR rfl rfl F rfl ?_;clear F a;intro a F
  refine sSr H 0 ?si F rfl rfl rfl ?s1 rfl rfl ?_
  case si=>exact Jz XR
  case s1=>rfl
  clear H;intro w H;refine nK hK43 (cSR fun K44 hK44=>Xb (f:=4) (k:=5) XI rfl XR rfl rfl F rfl ?_);clear hK43;clear F a;intro a F
  refine Xw XV rfl ?si F rfl (H.range 1 rfl _ 2) ?_
  case si=>exact Jz XR
  clear F a;intro a F;refine Xb (f:=4) (k:=5) XI rfl XR rfl rfl F rfl ?_;clear F a;intro a F
  refine sSr H 0 ?si F rfl rfl rfl ?s1 rfl rfl ?_
  case si=>exact Jz XR
  case s1=>rfl
  clear H;intro w H;refine nK hK44 (cSR fun K45 hK45=>Xb (f:=5) (k:=7) XI rfl XH rfl rfl F rfl (Xc XJ rfl (H.cell 1 rfl rfl) (Xr (f:=5) (k:=7) XI rfl XH rfl rfl rfl ?_)));clear hK44;clear F a;intro a F;refine sSt H 0 XH F rfl rfl rfl rfl rfl rfl ?_;clear H;intro w H;refine nK hK45 (cSR fun K46 hK46=>Xb (f:=7) (k:=9) XI rfl XH rfl rfl F rfl (Xc XJ rfl (H.cell 1 rfl rfl) (Xr (f:=7) (k:=9) XI rfl XH rfl rfl rfl ?_)));clear hK45;clear F a;intro a F;refine sSt H 0 XH F rfl rfl rfl rfl rfl rfl ?_;clear H;intro w H;refine nK hK46 (cSR fun K47 hK47=>?_);clear hK46
  refine Xw XI rfl ?si F rfl (H.whole 1 rfl) ?_
  case si=>exact Jz XP
  clear F a;intro a F
  refine Xw XI rfl ?si F rfl (H.whole 0 rfl) ?_
  case si=>exact Jz XP
  clear F a;intro a F;refine Xg F rfl rfl (E4 (x:=x) (y:=Xcx x) rfl) (Xh rfl ?_);clear F a;intro a F
  refine F.split 215 rfl ?_ ?_ <;> (clear F;intro h215 F)
  ·
   replace h215:=J1 h215
   replace h215:(x == Xcx x)=true:=beq_iff_eq.2 h215
   refine Xb (f:=3) (k:=3) XI rfl XR rfl rfl F rfl ?_;clear F a;intro a F
   refine Xw XV rfl ?si F rfl (H.range 1 rfl _ 2) ?_
   case si=>exact Jz XR
   clear F a;intro a F;refine Xu Ze F rfl (N6 _ _ _) (gG H ?_);clear F a H;intro a w F H;refine sPk F rfl rfl rfl rfl (Xh rfl ?_);clear F a;intro a F
   refine F.split 220 rfl ?_ ?_ <;> (clear F;intro h220 F)
   ·
    refine Xb (f:=4) (k:=5) XI rfl XR rfl rfl F rfl ?_;clear F a;intro a F
    refine Xw XV rfl ?si F rfl (H.range 1 rfl _ 2) ?_
    case si=>exact Jz XR
    clear F a;intro a F;refine Xu Ze F rfl (N6 _ _ _) (gG H ?_);clear F a H;intro a w F H;refine sPk F rfl rfl rfl rfl (Xh rfl ?_);clear F a;intro a F
    refine F.split 225 rfl ?_ ?_ <;> (clear F;intro h225 F)
    ·
     refine Xb (f:=5) (k:=7) XI rfl XH rfl rfl F rfl (Xc XJ rfl (H.cell 1 rfl rfl) (Xe rfl rfl (Xcq (y:=4)) (Xy rfl rfl (Xh rfl ?_))));clear F a;intro a F
     refine F.split 230 rfl ?_ ?_ <;> (clear F;intro h230 F)
     ·
      replace h230:=of_decide_eq_true h230;refine Xb (f:=5) (k:=7) XI rfl XH rfl rfl F rfl (Xc XJ rfl (H.cell 1 rfl rfl) (Xe rfl rfl (Xdz (y:=6)) (Xy rfl rfl (Xh rfl ?_))));clear F a;intro a F
      refine F.split 235 rfl ?_ ?_ <;> (clear F;intro h235 F)
      ·
       replace h235:=of_decide_eq_true h235;refine Xb (f:=7) (k:=9) XI rfl XH rfl rfl F rfl (Xc XJ rfl (H.cell 1 rfl rfl) (Xe rfl rfl (Xcq (y:=1)) (Xy rfl rfl (Xh rfl ?_))));clear F a;intro a F
       refine F.split 240 rfl ?_ ?_ <;> (clear F;intro h240 F)
       ·
        replace h240:=of_decide_eq_true h240;refine Xb (f:=7) (k:=9) XI rfl XH rfl rfl F rfl (Xc XJ rfl (H.cell 1 rfl rfl) (qCv XO XT rfl rfl rfl (QG _) (Xh rfl (Xe rfl rfl XjE (Xy rfl rfl (Xd rfl (qNK hK47 ?_)))))));clear hK47;clear F a;intro a F;refine wp_ret ?_;refine xI ?_;refine JI Ye F rfl ?_
        refine ⟨JZ ?_,H.below⟩
        clear F H
        (rw [Xc6 ho];simp [*];done)
       replace h240:=of_decide_eq_false h240;refine XB F (XC (XC (XC (XC (Xy rfl rfl (Xd rfl (qNK hK47 ?_)))))));clear hK47;clear F a;intro a F;refine wp_ret ?_;refine xI ?_;refine JI Ye F rfl ?_
       refine ⟨JZ ?_,H.below⟩
       clear F H
       (rw [Xc6 ho];simp [*];done)
      replace h235:=of_decide_eq_false h235;refine XB F (XC (XC (Xy rfl rfl (Xh rfl (XC (XC (XC (XC (XC (Xy rfl rfl (Xd rfl (qNK hK47 ?_))))))))))));clear hK47;clear F a;intro a F;refine wp_ret ?_;refine xI ?_;refine JI Ye F rfl ?_
      refine ⟨JZ ?_,H.below⟩
      clear F H
      (rw [Xc6 ho];simp [*];done)
     replace h230:=of_decide_eq_false h230;refine XB F (XC (XC (Xy rfl rfl (Xh rfl (XC (XC (XC (Xy rfl rfl (Xh rfl (XC (XC (XC (XC (XC (Xy rfl rfl (Xd rfl (qNK hK47 ?_)))))))))))))))));clear hK47;clear F a;intro a F;refine wp_ret ?_;refine xI ?_;refine JI Ye F rfl ?_
     refine ⟨JZ ?_,H.below⟩
     clear F H
     (rw [Xc6 ho];simp [*];done)
    refine XB F (XC (XC (Xy rfl rfl (Xh rfl (XC (XC (XC (Xy rfl rfl (Xh rfl (XC (XC (XC (Xy rfl rfl (Xh rfl (XC (XC (XC (XC (XC (Xy rfl rfl (Xd rfl (qNK hK47 ?_))))))))))))))))))))));clear hK47;clear F a;intro a F;refine wp_ret ?_;refine xI ?_;refine JI Ye F rfl ?_
    refine ⟨JZ ?_,H.below⟩
    clear F H
    (rw [Xc6 ho];simp [*];done)
   refine XB F (XC (XC (Xy rfl rfl (Xh rfl (XC (XC (XC (Xy rfl rfl (Xh rfl (XC (XC (XC (Xy rfl rfl (Xh rfl (XC (XC (XC (Xy rfl rfl (Xh rfl (XC (XC (XC (XC (XC (Xy rfl rfl (Xd rfl (qNK hK47 ?_)))))))))))))))))))))))))));clear hK47;clear F a;intro a F;refine wp_ret ?_;refine xI ?_;refine JI Ye F rfl ?_
   refine ⟨JZ ?_,H.below⟩
   clear F H
   (rw [Xc6 ho];simp [*];done)
  replace h215:=J2 h215
  replace h215:(x == Xcx x)=false:=beq_false_of_ne h215
  refine XB F (XC (XC (Xy rfl rfl (Xh rfl (XC (XC (XC (Xy rfl rfl (Xh rfl (XC (XC (XC (Xy rfl rfl (Xh rfl (XC (XC (XC (Xy rfl rfl (Xh rfl (XC (XC (XC (Xy rfl rfl (Xh rfl (XC (XC (XC (XC (XC (Xy rfl rfl (Xd rfl (qNK hK47 ?_))))))))))))))))))))))))))))))));clear hK47;clear F a;intro a F;refine wp_ret ?_;refine xI ?_;refine JI Ye F rfl ?_
  refine ⟨JZ ?_,H.below⟩
  clear F H
  (rw [Xc6 ho];simp [*];done)
 replace h198:=J2 h198;refine wp_skip (hK5 _ _ (cSR fun K48 hK48=>Xa F rfl (qNK hK48 ?_)));clear hK5 hK48;clear F a;intro a F;refine wp_ret ?_;refine JI Ye F rfl ?_
 refine ⟨JZ ?_,H.below⟩
 clear F H
 (rw [ins_0 (by omega)];done)
theorem XcN (A:Option Addr) (C:Nat) (l:List Ins) (locs:Int) (w0:World) (hR:RowsAt w0 A 10 (l.map Ins.cells)) (hl:l.length≤9223372036854775807) :
   Calls Tryz.prog 31 #[.slice A l.length C,.int .i64 locs] w0 fun e w'=>e = .returned (.bool (Nj locs l))∧Below w0.heap.size w0 w':=by
 have H:=Own.start w0 none
 refine JF func31 rfl ntmps31 rfl (fun a F=>?_);refine cSR fun K1 hK1=>Xa F rfl (qNK hK1 ?_);clear hK1;clear F a;intro a F;refine JD (fun K2 hK2=>?_);refine cSR fun K3 hK3=>Xa F rfl (qNK hK3 ?_);clear hK3;clear F a;intro a F;refine wp_block ?_
 refine JN [0,1] (fun m ups w=>∃ j:Nat,m=l.length - j∧ups=[(5,.int .i64 (j:Int))]∧j≤l.length∧Nl locs l.length 0 l=Nl locs l.length j (l.drop j)∧Own w0 none w []) F (l.length) [(5,.int .i64 ((0:Nat):Int))] ?_ ?_
 · exact ⟨0,rfl,rfl,by omega,rfl,H⟩
 clear F
 clear H
 intro m ups a w hI F
 obtain ⟨j,rfl,rfl,hj,ht,H⟩:=hI
 refine JD (fun K4 hK4=>?_);refine cSR fun K5 hK5=>Xf F rfl (Xh rfl (Xx Yl rfl (Xe rfl rfl QF (qNK hK5 ?_))));clear hK5;clear F a;intro a F
 refine cIf F rfl (fun h9=>?_) (fun h9=>?_)
 ·
  replace h9:=of_decide_eq_true h9
  have hjl:j < l.length:=by omega
  obtain ⟨x,hx⟩:∃ x,l[j]? = some x:=⟨_,List.getElem?_eq_getElem hjl⟩
  obtain ⟨b,off,rfl,hI2⟩:=hR j x.cells (by rw [List.getElem?_map,hx];rfl)
  have hd:l.drop j=x :: l.drop (j+1):=by
    obtain ⟨_,rfl⟩:=List.getElem?_eq_some_iff.1 hx
    exact List.drop_eq_getElem_cons hjl
  refine wp_skip (hK4 _ _ ?_);clear hK4;refine JD (fun K6 hK6=>?_);refine wp_block ?_;refine cSR fun K7 hK7=>Xf F rfl (Xh rfl ?_);clear F a;intro a F
  refine sIx Yl XP F rfl rfl rfl rfl ?_ ?_
  focus (omega)
  clear F a;intro a F
  refine Xw XI rfl ?si F rfl (H.argR hI2) ?_
  case si=>exact Jz XP
  clear F a;intro a F;refine Xf F rfl (Xh rfl (Xx Yl rfl ?_));clear F a;intro a F
  refine Xg F rfl rfl (Ca ?_) ?_
  focus omega
  clear F a;intro a F;refine Xf F rfl ?_;clear F a;intro a F
  refine Xg F rfl rfl (Ca ?_) ?_
  focus omega
  clear F a;intro a F;refine Xu call62 F rfl (Xht x locs _ _) (gG H ?_);clear F a H;intro a w F H;refine Xav F rfl rfl rfl (qNK hK7 ?_);clear hK7;clear F a;intro a F
  refine cIf F rfl (fun h23=>?_) (fun h23=>?_)
  ·
   replace h23:=N1 h23;refine cSR fun K8 hK8=>Xa F rfl (qNK hK8 ?_);clear hK8;clear F a;intro a F;refine wp_ret ?_;refine xI ?_;refine JI results31 F rfl ?_
   exact ⟨JZ (by rw [Nj,ht,hd,Nl,h23,Bool.false_and,Bool.and_false]),H.below⟩
  replace h23:=N2 h23;refine wp_skip (hK6 _ _ (JY (Xf F rfl ?_)));clear hK6;clear F a;intro a F
  refine Xg F rfl rfl (JJ (j:=1) ?_) ?_
  focus omega
  clear F a;intro a F;refine Xa F rfl ?_;clear F a;intro a F;refine J4 ?_
  exact ⟨_,by omega,_,⟨j+1,rfl,rfl,by omega,by rw [ht,hd,Nl,h23,Bool.true_and],H⟩,F.tt⟩
 replace h9:=of_decide_eq_false h9;refine wp_exit ?_;refine hK2 _ _ (cSR fun K9 hK9=>Xf F rfl (Xx Yl rfl (Xe rfl rfl XjE (Xd rfl (qNK hK9 ?_)))));clear hK2 hK9;clear F a;intro a F;refine wp_ret ?_;refine JI results31 F rfl ?_
 exact ⟨JZ (by rw [Nj,ht,List.drop_eq_nil_of_le (by omega),Nl,Bool.and_true,Bool.eq_iff_iff];simp;omega),H.below⟩
-- RdB
open Go.RowKit
set_option maxRecDepth 100000
set_option maxHeartbeats 1000000 in
theorem XfG (h:Nat):∀ (cs:List Value) (c:Cnd) (w0:World),CondAt w0 h cs c→Nw c≤9223372036854775807 →
   Calls Tryz.prog 63 #[.agg cs.toArray] w0 fun e w'=>e = .returned (.int .i64 ((Nw c:Nat):Int))∧Below w0.heap.size w0 w':=by
 induction h with
 | zero=>intro cs c w0 hC;exact hC.elim
 | succ h ih=>
   intro cs c w0 hC hd
   obtain ⟨k,t,n,v,kids⟩:=c
   obtain ⟨A,C,rfl,hkl,hK⟩:=hC
   rw [Nw] at hd
   have H:=Own.start w0 none
   refine JF Tryz.func63 rfl Tryz.ntmps63 rfl (fun a F=>?_);refine cSR fun K1 hK1=>?_;refine sBx H F rfl rfl rfl ?_;clear F a H;intro b1 a w F H;refine Xa F rfl (qNK hK1 (qSR fun K2 hK2=>Xd rfl (qNK hK2 ?_)));clear hK1 hK2;clear F a;intro a F;refine JD (fun K3 hK3=>?_);refine cSR fun K4 hK4=>Xa F rfl (qNK hK4 ?_);clear hK4;clear F a;intro a F;refine wp_block ?_
   refine JN [1] (fun m ups w=>∃ j d:Nat,m=kids.length - j∧ups=[(3,.int .i64 ((d:Nat):Int)),(4,.int .i64 ((j:Nat):Int))]∧j≤kids.length∧max d (El (kids.drop j))=El kids∧Own w0 none w [.blk b1 [YtcpehikcegoojaaGreatDoor.b8 k,YtcpehikcegoojaaGreatDoor.b8 t,YtcpehikcegoojaaGreatDoor.b8 n,YtcpehikcegoojaaGreatDoor.b8 v,.slice A kids.length C] 27]) F (kids.length) [(3,.int .i64 ((0:Nat):Int)),(4,.int .i64 ((0:Nat):Int))] ?_ ?_
   · exact ⟨0,0,rfl,rfl,by omega,by simp,H⟩
   clear F
   clear H
   intro m ups a w hI F
   obtain ⟨j,d,rfl,rfl,hj,ht,H⟩:=hI
   refine JD (fun K5 hK5=>?_);refine cSR fun K6 hK6=>Xf F rfl (Xr (f:=4) (k:=4) Tryz.underlying27 rfl Tryz.sizeOf25 rfl rfl rfl (Xc Tryz.isAgg25 rfl (H.cell 0 rfl rfl) (Xx Tryz.underlying25 rfl (Xe rfl rfl QF (qNK hK6 ?_)))));clear hK6;clear F a;intro a F
   refine cIf F rfl (fun h9=>?_) (fun h9=>?_)
   ·
    replace h9:=of_decide_eq_true h9
    have hjl:j < kids.length:=by omega
    obtain ⟨kid,hx⟩:∃ x,kids[j]? = some x:=⟨_,List.getElem?_eq_getElem hjl⟩
    have hdr:kids.drop j=kid :: kids.drop (j+1):=by
      obtain ⟨_,rfl⟩:=List.getElem?_eq_some_iff.1 hx
      exact List.drop_eq_getElem_cons hjl
    rw [hdr,El] at ht
    obtain ⟨b',off',cs',rfl,hR',hC'⟩:=hK j kid hx
    obtain ⟨k0,k1,k2,k3,k4,rfl⟩:=DM (JT hC')
    refine wp_skip (hK5 _ _ ?_);clear hK5;refine JD (fun K7 hK7=>?_);refine wp_block ?_;refine JY (Xf F rfl (Xr (f:=4) (k:=4) Tryz.underlying27 rfl Tryz.sizeOf25 rfl rfl rfl (Xc Tryz.isAgg25 rfl (H.cell 0 rfl rfl) (Xh rfl ?_))));clear F a;intro a F
    refine sIx Tryz.underlying25 Tryz.sizeOf27 F rfl rfl rfl rfl ?_ ?_
    focus (omega)
    clear F a;intro a F
    refine Xw Tryz.underlying27 rfl ?si F rfl (H.argR hR') ?_
    case si=>exact Jz Tryz.sizeOf27
    clear F a;intro a F;refine Xu Tryz.call63 F rfl (ih _ kid _ (CondAt.grown H.grown rfl _ _ _ hC') (by omega)) (gG H ?_);clear F a H;intro a w F H;refine sMaxN F rfl rfl rfl rfl (Xd rfl (qNK hK7 (Ef (Xh rfl ?_))));clear hK7;clear F a;intro a F
    refine Xg F rfl rfl (JJ (j:=1) ?_) ?_
    focus omega
    clear F a;intro a F;refine Xa F rfl ?_;clear F a;intro a F;refine J4 ?_
    exact ⟨_,by omega,_,⟨j+1,max d (Nw kid),rfl,rfl,by omega,by rw [← ht,Nat.max_assoc],H⟩,F.tt⟩
   replace h9:=of_decide_eq_false h9;rw [List.drop_eq_nil_of_le (by omega)] at ht
   have hd2:d=El kids:=by rw [← ht];simp [El]
   subst hd2;refine wp_exit ?_;refine hK3 _ _ (cSR fun K8 hK8=>Xf F rfl ?_);clear hK3;clear F a;intro a F
   refine Xg F rfl rfl (JJ (j:=1) ?_) ?_
   focus omega
   clear F a;intro a F;refine Xa F rfl (qNK hK8 ?_);clear hK8;clear F a;intro a F;refine wp_ret ?_;refine JI Tryz.results63 F rfl ?_
   exact ⟨rfl,H.below⟩
end Go.Proofs.YtcpehikcegoojaaGreatDoor
