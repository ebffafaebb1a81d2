/-
  WALK2. Package print: the lines of instructions. Conditions: as in WrD; the instructions lie in memory.
-/
import Derived.Test.YtkchaoajegkadaaGreatDoorJn20
import Derived.Test.YtkchaoajegkadaaGreatDoorJn6
set_option linter.unusedSimpArgs false
set_option linter.unusedVariables false
namespace Go.Proofs.YtkchaoajegkadaaGreatDoor
-- WrG
open Go.Proofs.Tryz
open Go.RowKit
set_option maxRecDepth 100000
theorem insT_none {locs:List ByteArray} {x:Ins} (h:9≤x.op.toNat):insT locs { x with op:=0 } = insT locs x:=by
 have hne:∀ n:UInt8,n.toNat < 9→x.op ≠ n:=fun n hn e=>by rw [e] at h;omega
 have e0:insT locs { x with op:=0 } = [[63]]:=by unfold insT;simp
 rw [e0];unfold insT
 rw [if_neg (hne 1 (by decide)),if_neg (hne 2 (by decide)),if_neg (hne 3 (by decide)),if_neg (hne 4 (by decide)),if_neg (hne 5 (by decide)),if_neg (hne 6 (by decide)),if_neg (hne 7 (by decide)),if_neg (hne 8 (by decide))]
section
variable {W w0:World} {rs:List Res} {bp:Nat} {LA:Option Addr} {LC:Nat} {R:Res} {locs:List ByteArray} {v:WS}
theorem op_small {w:World} {b:Nat} {cs:List Value} {t:TypeId} {x:Ins} (H:Own W none w (.blk b cs t :: rs)) (h:cs=x.cells∧x.op.toNat < 9∨cs=({ x with op:=0 }:Ins).cells∧9≤x.op.toNat) :
   ∃ z:Ins,insT locs z=insT locs x∧z.op.toNat < 9∧Own W none w (.blk b z.cells t :: rs):=by
 rcases h with ⟨h1,h2⟩ | ⟨h1,h2⟩
 · exact ⟨x,rfl,h2,h1 ▸ H⟩
 · exact ⟨{ x with op:=0 },insT_none h2,(show (0:UInt8).toNat < 9 by decide),h1 ▸ H⟩
theorem instrs_any (l:List Ins) {IA:Option Addr} {IC:Nat} {R2:Res} (hR2:Rd W R2 IA 10 (l.map Ins.cells)) (hll:l.length≤9223372036854775807) (hl:locs.length≤9223372036854775807) (hs:∀ s ∈ locs,s.size≤140737488351232) (hR:Rd W R LA 1 (strC locs)) (hT:TenAt W)
   (hW:WrAt W w0 (R :: R2 :: rs) bp (.slice LA locs.length LC) v) :
   Calls Tryz.prog 31 #[.pointer (some ⟨bp,0,none⟩),.slice IA l.length IC] w0 fun e w'=>e = .returned (.tuple #[])∧WrAt W w' (R :: R2 :: rs) bp (.slice LA locs.length LC) (codeW locs true v l):=by
 obtain ⟨A,C,tx,wi,lg,H,ht,hv⟩:=hW
 refine enterF func31 rfl ntmps31 rfl (fun a F=>?_);refine cSR fun K1 hK1=>sMv F rfl rfl rfl ?_;clear F a;intro a F;refine sCall call61 F rfl rfl rfl (formats_any H) ?_;rintro e w ⟨V,rfl,H⟩;refine ⟨_,rfl,?_⟩;clear F a;intro a F;refine sAl H zeroValue110 F rfl rfl ?_;clear F a H;intro b4 a w F H
 refine sSr H 0 ?si F rfl rfl rfl ?s1 rfl rfl ?_
 case si=>exact info_size sizeOf110
 case s1=>first | rfl | (repeat (first | exact one_nil | (apply one_cons;· first | rfl | assumption | exact one_bif rfl rfl)))
 clear H;intro w H;refine nK hK1 (cSR fun K2 hK2=>sMv F rfl rfl rfl (qLen underlying52 rfl rfl rfl (qMv rfl rfl rfl (qNK hK2 ?_))));clear hK1 hK2;clear F a;intro a F;refine wp_block ?_
 refine cLoopR [0,4,9,10] (fun m ups w=>∃ (i:Nat) (u:WS),m=l.length - i∧ups=[(11,.int .i64 ((i:Nat):Int))]∧i≤l.length∧codeW locs (i == 0) u (l.drop i)=codeW locs true v l∧WrF W w (.blk b4 (fmtFns V) 110 :: R2 :: rs) V bp R LA LC locs u) F (l.length) [(11,.int .i64 ((0:Nat):Int))] (by repeat (first | exact SubR.nil | (apply SubR.cons;· rfl))) ?_ ?_ ?_
 · exact ⟨0,v,rfl,rfl,Nat.zero_le _,rfl,A,C,tx,wi,lg,H.selT 6 [2,3,1,4,0,5] rfl rfl,ht,hv⟩
 · repeat (first | exact trivial | refine Le.cons rfl ?_)
 clear F
 clear H
 intro m ups a w hI F
 obtain ⟨i,u,rfl,rfl,hi,hc,A1,C1,tx1,wi1,lg1,H,ht1,hv1⟩:=hI
 refine cSR fun K3 hK3=>sBin F rfl rfl rfl rfl bLss (qNK hK3 ?_);clear hK3;clear F a;intro a F;refine cSeq (fun K4 hK4=>?_)
 refine cIf F rfl (fun h12=>?_) (fun h12=>?_)
 ·
  replace h12:=of_decide_eq_true h12
  obtain ⟨x,hx⟩:∃ x,l[i]? = some x:=⟨_,List.getElem?_eq_getElem (by omega)⟩
  have hdr:l.drop i=x :: l.drop (i+1):=by obtain ⟨h1,h2⟩:=List.getElem?_eq_some_iff.1 hx;rw [List.drop_eq_getElem_cons h1,h2]
  obtain ⟨sb,so,rfl,hr15⟩:=hR2 _ _ 5 H rfl i _ (by rw [List.getElem?_map,hx];rfl)
  refine wp_skip (hK4 _ _ ?_);clear hK4;refine cSeq (fun K5 hK5=>?_);refine wp_block ?_;refine cSR fun K6 hK6=>sMv F rfl rfl rfl ?_;clear F a;intro a F
  refine sIx underlying52 sizeOf44 F rfl rfl rfl rfl ?_ ?_
  focus (first | omega | decide | (simp;omega))
  clear F a;intro a F
  refine sLr underlying44 rfl ?si F rfl rfl rfl hr15 ?_
  case si=>exact info_size sizeOf44
  clear F a;intro a F;refine sAl H zeroValue44 F rfl rfl ?_;clear F a H;intro b6 a w F H;refine sAs F rfl rfl rfl ?_;clear F a;intro a F
  refine sSr H 0 ?si F rfl rfl rfl ?s1 rfl rfl ?_
  case si=>exact info_size sizeOf44
  case s1=>first | rfl | (repeat (first | exact one_nil | (apply one_cons;· first | rfl | assumption | exact one_bif rfl rfl)))
  clear H;intro w H;refine nK hK6 ?_;clear hK6;refine cSeq (fun K7 hK7=>?_);refine cSR fun K8 hK8=>sMv F rfl rfl rfl (qBin rfl rfl rfl rfl bGtr (qNK hK8 ?_));clear hK8;clear F a;intro a F
  refine cIf F rfl (fun h17=>?_) (fun h17=>?_)
  ·
   replace h17:=of_decide_eq_true h17
   have hi0:i ≠ 0:=by omega
   refine cReg (sMv F rfl rfl rfl (qNc rfl rfl rfl (qFa (f:=0) (k:=0) underlying58 rfl sizeOf56 rfl rfl rfl rfl rfl ?_)));clear F a;intro a F;refine sCall call45 F rfl rfl rfl (wnewline_any (v:=u) ⟨A1,C1,tx1,wi1,lg1,H.selT 3 [1,2,0] rfl rfl,ht1,hv1⟩) ?_;rintro e w ⟨rfl,hW⟩
   obtain ⟨A1,C1,tx1,wi1,lg1,H,ht1,hv1⟩:=hW
   replace H:=H.selT 3 [2,0,1] rfl rfl
   obtain ⟨y,hy⟩:∃ y,y=lineW u:=⟨_,rfl⟩
   change lg1=false∧tx1=(lineW u).1∧wi1=(lineW u).2∨lg1=true∧16384 < (lineW u).1.length at hv1
   rw [← hy] at hv1
   replace hy:y=if (i == 0)=true then u else lineW u:=by rw [hy];simp [hi0]
   refine ⟨_,rfl,?_⟩;clear F a;intro a F;refine nK hK7 ?_;clear hK7;refine cSeq (fun K9 hK9=>?_);refine cSR fun K10 hK10=>sMv F rfl rfl rfl (qNc rfl rfl rfl (qFa (f:=0) (k:=0) underlying58 rfl sizeOf56 rfl rfl rfl rfl rfl (qFa (f:=2) (k:=2) underlying56 rfl sizeOf4 rfl rfl rfl rfl rfl (qLd isAgg4 rfl rfl rfl (H.cell 1 rfl rfl) (qNK hK10 ?_)))));clear hK10;clear F a;intro a F
   refine cIf F rfl (fun h26=>?_) (fun h26=>?_)
   ·
    have hlg:lg1=true:=h26
    subst hlg;refine wp_ret ?_;simp only [Exit.inBlock,Exit.then];refine bEndR results31 F ?_
    first
    | (have hyl:y.1.length≤(codeW locs true v l).1.length:=by
         rw [← hc,hdr,hy]
         exact Nat.le_trans (wordsW_len (insT locs x) _) (codeW_len locs (l.drop (i+1)) false _)
       rcases hv1 with ⟨h,_⟩ | ⟨_,h⟩
       · cases h
       · exact ⟨rfl,WrAt.long (H.selT 7 [1,2,4,6] rfl rfl) ht1 h hyl⟩)
    | (have hu:u=codeW locs true v l:=by rw [← hc,List.drop_eq_nil_of_le (by omega)];rfl
       rw [← hu]
       exact ⟨rfl,A1,C1,tx1,wi1,lg1,H.selT 6 [1,2,4,6] rfl rfl,ht1,hv1⟩)
   refine wp_skip (hK9 _ _ ?_);clear hK9;refine cSeq (fun K11 hK11=>?_);refine cSR fun K12 hK12=>sFa (f:=0) (k:=0) underlying44 rfl sizeOf5 rfl rfl F rfl rfl rfl (qLd isAgg5 rfl rfl rfl (H.cell 0 rfl rfl) (qCv underlying5 underlying3 rfl rfl rfl (wrapB _) (qBin rfl rfl rfl rfl bGeq (qNK hK12 ?_))));clear hK12;clear F a;intro a F
   refine cIf F rfl (fun h30=>?_) (fun h30=>?_)
   ·
    replace h30:=of_decide_eq_true h30
    have h9:9≤x.op.toNat:=by omega
    refine cReg (sFa (f:=0) (k:=0) underlying44 rfl sizeOf5 rfl rfl F rfl rfl rfl ?_);clear F a;intro a F;refine sSt H 0 sizeOf5 F rfl rfl rfl rfl rfl rfl ?_;clear H;intro w H;refine nK hK11 ?_;clear hK11
    obtain ⟨z,hz,hzo,H⟩:=op_small (locs:=locs) (x:=x) H (by first | exact .inl ⟨rfl,by omega⟩ | exact .inr ⟨rfl,by omega⟩)
    refine cRegRO (by kernel_rfl) H ?_;replace H:=H.drew;refine eTF 0 rfl (by kernel_rfl) F rfl rfl rfl (fun w=>rFa (f:=0) (k:=0) underlying44 rfl sizeOf5 rfl rfl F rfl) H qq0 (qT 1 rfl (by kernel_rfl) rfl rfl rfl rfl (fun a F w H=>rLd isAgg5 F rfl (H.cell 0 rfl rfl)) H qq0 ?_);clear F a;intro a F
    refine eTakeF (k:=2) (i:=2) rfl (by kernel_rfl) F rfl rfl rfl (fun w=>rIaZ1 underlying110 sizeOf109 F rfl rfl ?_) H (fun _ _ _ h=>h) ?_
    focus exact hzo
    clear F a;intro a F
    refine eTake (k:=3) (i:=3) rfl (by kernel_rfl) F rfl rfl rfl rfl (fun w H=>rLd isAgg109 F rfl (H.cell 5 rfl (List.getElem?_eq_getElem (show z.op.toNat < (fmtFns V).length from hzo)))) H (fun _ _ _ h=>h) ?_;clear F a;intro a F
    refine eTake (k:=4) (i:=4) rfl (by kernel_rfl) F rfl rfl rfl rfl (fun w H=>rLr underlying44 rfl ?si F rfl (H.whole 0 rfl)) H (fun _ _ _ h=>h) ?_
    case si=>exact info_size sizeOf44
    clear F a;intro a F
    refine eOne (k:=5) (i:=5) rfl (by kernel_rfl) F rfl (oCallV F rfl rfl rfl (fmt_all z.op.toNat _ z (List.getElem?_eq_getElem (show z.op.toNat < (fmtFns V).length from hzo)) rfl hl hs hR hT (v:=y) ⟨A1,C1,tx1,wi1,lg1,H.selT 7 [1,2,3,4,5,6] rfl rfl,ht1,hv1⟩) ?_)
    rintro e w ⟨rfl,hW⟩
    obtain ⟨A3,C3,tx3,wi3,lg3,H,ht3,hv3⟩:=hW
    refine ⟨_,rfl,?_⟩;clear F a;intro a F;refine ePartO (by kernel_rfl) H ?_;refine eNil (k:=6) (by kernel_rfl) ?_;refine hK5 _ _ (cReg ?_);clear hK5
    refine sBin F rfl rfl rfl rfl (bAddN (j:=1) ?_) ?_
    focus omega
    clear F a;intro a F;refine sMv F rfl rfl rfl ?_;clear F a;intro a F;refine sNil ?_
    exact ⟨_,by omega,_,⟨i+1,wordsW y (insT locs z),rfl,rfl,by omega,by rw [← hc,hdr,hz,hy];rfl,A3,C3,tx3,wi3,lg3,H,ht3,hv3⟩,F.to (by repeat (first | exact trivial | refine Le.cons rfl ?_))⟩
   replace h30:=of_decide_eq_false h30
   have h9:¬ 9≤x.op.toNat:=by omega
   refine wp_skip (hK11 _ _ ?_);clear hK11
   obtain ⟨z,hz,hzo,H⟩:=op_small (locs:=locs) (x:=x) H (by first | exact .inl ⟨rfl,by omega⟩ | exact .inr ⟨rfl,by omega⟩)
   refine cRegRO (by kernel_rfl) H ?_;replace H:=H.drew;refine eTF 0 rfl (by kernel_rfl) F rfl rfl rfl (fun w=>rFa (f:=0) (k:=0) underlying44 rfl sizeOf5 rfl rfl F rfl) H qq0 (qT 1 rfl (by kernel_rfl) rfl rfl rfl rfl (fun a F w H=>rLd isAgg5 F rfl (H.cell 0 rfl rfl)) H qq0 ?_);clear F a;intro a F
   refine eTakeF (k:=2) (i:=2) rfl (by kernel_rfl) F rfl rfl rfl (fun w=>rIaZ1 underlying110 sizeOf109 F rfl rfl ?_) H (fun _ _ _ h=>h) ?_
   focus exact hzo
   clear F a;intro a F
   refine eTake (k:=3) (i:=3) rfl (by kernel_rfl) F rfl rfl rfl rfl (fun w H=>rLd isAgg109 F rfl (H.cell 5 rfl (List.getElem?_eq_getElem (show z.op.toNat < (fmtFns V).length from hzo)))) H (fun _ _ _ h=>h) ?_;clear F a;intro a F
   refine eTake (k:=4) (i:=4) rfl (by kernel_rfl) F rfl rfl rfl rfl (fun w H=>rLr underlying44 rfl ?si F rfl (H.whole 0 rfl)) H (fun _ _ _ h=>h) ?_
   case si=>exact info_size sizeOf44
   clear F a;intro a F
   refine eOne (k:=5) (i:=5) rfl (by kernel_rfl) F rfl (oCallV F rfl rfl rfl (fmt_all z.op.toNat _ z (List.getElem?_eq_getElem (show z.op.toNat < (fmtFns V).length from hzo)) rfl hl hs hR hT (v:=y) ⟨A1,C1,tx1,wi1,lg1,H.selT 7 [1,2,3,4,5,6] rfl rfl,ht1,hv1⟩) ?_)
   rintro e w ⟨rfl,hW⟩
   obtain ⟨A3,C3,tx3,wi3,lg3,H,ht3,hv3⟩:=hW
   refine ⟨_,rfl,?_⟩;clear F a;intro a F;refine ePartO (by kernel_rfl) H ?_;refine eNil (k:=6) (by kernel_rfl) ?_;refine hK5 _ _ (cReg ?_);clear hK5
   refine sBin F rfl rfl rfl rfl (bAddN (j:=1) ?_) ?_
   focus omega
   clear F a;intro a F;refine sMv F rfl rfl rfl ?_;clear F a;intro a F;refine sNil ?_
   exact ⟨_,by omega,_,⟨i+1,wordsW y (insT locs z),rfl,rfl,by omega,by rw [← hc,hdr,hz,hy];rfl,A3,C3,tx3,wi3,lg3,H,ht3,hv3⟩,F.to (by repeat (first | exact trivial | refine Le.cons rfl ?_))⟩
  replace h17:=of_decide_eq_false h17
  have hi0:i=0:=by omega
  obtain ⟨y,hy⟩:∃ y,y=u:=⟨_,rfl⟩
  rw [← hy] at hv1
  replace hy:y=if (i == 0)=true then u else lineW u:=by rw [hy];simp [hi0]
  refine wp_skip (hK7 _ _ ?_);clear hK7;refine cSeq (fun K13 hK13=>?_);refine cSR fun K14 hK14=>sMv F rfl rfl rfl (qNc rfl rfl rfl (qFa (f:=0) (k:=0) underlying58 rfl sizeOf56 rfl rfl rfl rfl rfl (qFa (f:=2) (k:=2) underlying56 rfl sizeOf4 rfl rfl rfl rfl rfl (qLd isAgg4 rfl rfl rfl (H.cell 1 rfl rfl) (qNK hK14 ?_)))));clear hK14;clear F a;intro a F
  refine cIf F rfl (fun h26=>?_) (fun h26=>?_)
  ·
   have hlg:lg1=true:=h26
   subst hlg;refine wp_ret ?_;simp only [Exit.inBlock,Exit.then];refine bEndR results31 F ?_
   first
   | (have hyl:y.1.length≤(codeW locs true v l).1.length:=by
        rw [← hc,hdr,hy]
        exact Nat.le_trans (wordsW_len (insT locs x) _) (codeW_len locs (l.drop (i+1)) false _)
      rcases hv1 with ⟨h,_⟩ | ⟨_,h⟩
      · cases h
      · exact ⟨rfl,WrAt.long (H.selT 7 [1,2,4,6] rfl rfl) ht1 h hyl⟩)
   | (have hu:u=codeW locs true v l:=by rw [← hc,List.drop_eq_nil_of_le (by omega)];rfl
      rw [← hu]
      exact ⟨rfl,A1,C1,tx1,wi1,lg1,H.selT 6 [1,2,4,6] rfl rfl,ht1,hv1⟩)
  refine wp_skip (hK13 _ _ ?_);clear hK13;refine cSeq (fun K15 hK15=>?_);refine cSR fun K16 hK16=>sFa (f:=0) (k:=0) underlying44 rfl sizeOf5 rfl rfl F rfl rfl rfl (qLd isAgg5 rfl rfl rfl (H.cell 0 rfl rfl) (qCv underlying5 underlying3 rfl rfl rfl (wrapB _) (qBin rfl rfl rfl rfl bGeq (qNK hK16 ?_))));clear hK16;clear F a;intro a F
  refine cIf F rfl (fun h30=>?_) (fun h30=>?_)
  ·
   replace h30:=of_decide_eq_true h30
   have h9:9≤x.op.toNat:=by omega
   refine cReg (sFa (f:=0) (k:=0) underlying44 rfl sizeOf5 rfl rfl F rfl rfl rfl ?_);clear F a;intro a F;refine sSt H 0 sizeOf5 F rfl rfl rfl rfl rfl rfl ?_;clear H;intro w H;refine nK hK15 ?_;clear hK15
   obtain ⟨z,hz,hzo,H⟩:=op_small (locs:=locs) (x:=x) H (by first | exact .inl ⟨rfl,by omega⟩ | exact .inr ⟨rfl,by omega⟩)
   refine cRegRO (by kernel_rfl) H ?_;replace H:=H.drew;refine eTF 0 rfl (by kernel_rfl) F rfl rfl rfl (fun w=>rFa (f:=0) (k:=0) underlying44 rfl sizeOf5 rfl rfl F rfl) H qq0 (qT 1 rfl (by kernel_rfl) rfl rfl rfl rfl (fun a F w H=>rLd isAgg5 F rfl (H.cell 0 rfl rfl)) H qq0 ?_);clear F a;intro a F
   refine eTakeF (k:=2) (i:=2) rfl (by kernel_rfl) F rfl rfl rfl (fun w=>rIaZ1 underlying110 sizeOf109 F rfl rfl ?_) H (fun _ _ _ h=>h) ?_
   focus exact hzo
   clear F a;intro a F
   refine eTake (k:=3) (i:=3) rfl (by kernel_rfl) F rfl rfl rfl rfl (fun w H=>rLd isAgg109 F rfl (H.cell 5 rfl (List.getElem?_eq_getElem (show z.op.toNat < (fmtFns V).length from hzo)))) H (fun _ _ _ h=>h) ?_;clear F a;intro a F
   refine eTake (k:=4) (i:=4) rfl (by kernel_rfl) F rfl rfl rfl rfl (fun w H=>rLr underlying44 rfl ?si F rfl (H.whole 0 rfl)) H (fun _ _ _ h=>h) ?_
   case si=>exact info_size sizeOf44
   clear F a;intro a F
   refine eOne (k:=5) (i:=5) rfl (by kernel_rfl) F rfl (oCallV F rfl rfl rfl (fmt_all z.op.toNat _ z (List.getElem?_eq_getElem (show z.op.toNat < (fmtFns V).length from hzo)) rfl hl hs hR hT (v:=y) ⟨A1,C1,tx1,wi1,lg1,H.selT 7 [1,2,3,4,5,6] rfl rfl,ht1,hv1⟩) ?_)
   rintro e w ⟨rfl,hW⟩
   obtain ⟨A3,C3,tx3,wi3,lg3,H,ht3,hv3⟩:=hW
   refine ⟨_,rfl,?_⟩;clear F a;intro a F;refine ePartO (by kernel_rfl) H ?_;refine eNil (k:=6) (by kernel_rfl) ?_;refine hK5 _ _ (cReg ?_);clear hK5
   refine sBin F rfl rfl rfl rfl (bAddN (j:=1) ?_) ?_
   focus omega
   clear F a;intro a F;refine sMv F rfl rfl rfl ?_;clear F a;intro a F;refine sNil ?_
   exact ⟨_,by omega,_,⟨i+1,wordsW y (insT locs z),rfl,rfl,by omega,by rw [← hc,hdr,hz,hy];rfl,A3,C3,tx3,wi3,lg3,H,ht3,hv3⟩,F.to (by repeat (first | exact trivial | refine Le.cons rfl ?_))⟩
  replace h30:=of_decide_eq_false h30
  have h9:¬ 9≤x.op.toNat:=by omega
  refine wp_skip (hK15 _ _ ?_);clear hK15
  obtain ⟨z,hz,hzo,H⟩:=op_small (locs:=locs) (x:=x) H (by first | exact .inl ⟨rfl,by omega⟩ | exact .inr ⟨rfl,by omega⟩)
  refine cRegRO (by kernel_rfl) H ?_;replace H:=H.drew;refine eTF 0 rfl (by kernel_rfl) F rfl rfl rfl (fun w=>rFa (f:=0) (k:=0) underlying44 rfl sizeOf5 rfl rfl F rfl) H qq0 (qT 1 rfl (by kernel_rfl) rfl rfl rfl rfl (fun a F w H=>rLd isAgg5 F rfl (H.cell 0 rfl rfl)) H qq0 ?_);clear F a;intro a F
  refine eTakeF (k:=2) (i:=2) rfl (by kernel_rfl) F rfl rfl rfl (fun w=>rIaZ1 underlying110 sizeOf109 F rfl rfl ?_) H (fun _ _ _ h=>h) ?_
  focus exact hzo
  clear F a;intro a F
  refine eTake (k:=3) (i:=3) rfl (by kernel_rfl) F rfl rfl rfl rfl (fun w H=>rLd isAgg109 F rfl (H.cell 5 rfl (List.getElem?_eq_getElem (show z.op.toNat < (fmtFns V).length from hzo)))) H (fun _ _ _ h=>h) ?_;clear F a;intro a F
  refine eTake (k:=4) (i:=4) rfl (by kernel_rfl) F rfl rfl rfl rfl (fun w H=>rLr underlying44 rfl ?si F rfl (H.whole 0 rfl)) H (fun _ _ _ h=>h) ?_
  case si=>exact info_size sizeOf44
  clear F a;intro a F
  refine eOne (k:=5) (i:=5) rfl (by kernel_rfl) F rfl (oCallV F rfl rfl rfl (fmt_all z.op.toNat _ z (List.getElem?_eq_getElem (show z.op.toNat < (fmtFns V).length from hzo)) rfl hl hs hR hT (v:=y) ⟨A1,C1,tx1,wi1,lg1,H.selT 7 [1,2,3,4,5,6] rfl rfl,ht1,hv1⟩) ?_)
  rintro e w ⟨rfl,hW⟩
  obtain ⟨A3,C3,tx3,wi3,lg3,H,ht3,hv3⟩:=hW
  refine ⟨_,rfl,?_⟩;clear F a;intro a F;refine ePartO (by kernel_rfl) H ?_;refine eNil (k:=6) (by kernel_rfl) ?_;refine hK5 _ _ (cReg ?_);clear hK5
  refine sBin F rfl rfl rfl rfl (bAddN (j:=1) ?_) ?_
  focus omega
  clear F a;intro a F;refine sMv F rfl rfl rfl ?_;clear F a;intro a F;refine sNil ?_
  exact ⟨_,by omega,_,⟨i+1,wordsW y (insT locs z),rfl,rfl,by omega,by rw [← hc,hdr,hz,hy];rfl,A3,C3,tx3,wi3,lg3,H,ht3,hv3⟩,F.to (by repeat (first | exact trivial | refine Le.cons rfl ?_))⟩
 replace h12:=of_decide_eq_false h12;refine wp_exit ?_
 first | refine bEnd results31 F ?_ | (simp only [Exit.then,Exit.inBlock,if_true];(repeat (first | rw [if_pos rfl] | rw [if_neg (by decide)]));refine bEnd results31 F ?_)
 first
 | (have hyl:y.1.length≤(codeW locs true v l).1.length:=by
      rw [← hc,hdr,hy]
      exact Nat.le_trans (wordsW_len (insT locs x) _) (codeW_len locs (l.drop (i+1)) false _)
    rcases hv1 with ⟨h,_⟩ | ⟨_,h⟩
    · cases h
    · exact ⟨rfl,WrAt.long (H.selT 7 [0,1,3,5] rfl rfl) ht1 h hyl⟩)
 | (have hu:u=codeW locs true v l:=by rw [← hc,List.drop_eq_nil_of_le (by omega)];rfl
    rw [← hu]
    exact ⟨rfl,A1,C1,tx1,wi1,lg1,H.selT 6 [0,1,3,5] rfl rfl,ht1,hv1⟩)
end
-- WrK
open Go.RowKit
set_option maxRecDepth 100000
def CondWr (locs:List ByteArray) (LA:Option Addr) (LC bp:Nat) (R:Res) (W:World) (h:Nat):Prop:=
 ∀ (w0:World) (rs:List Res) (v:WS) (cs:List Value) (c:Cnd),CondAt W h cs c→WrAt W w0 (R :: rs) bp (.slice LA locs.length LC) v →
   Calls Tryz.prog 33 #[.pointer (some ⟨bp,0,none⟩),.agg cs.toArray] w0 fun e w'=>e = .returned (.tuple #[])∧WrAt W w' (R :: rs) bp (.slice LA locs.length LC) (wordsW v (condWd locs c))
def kidWd (locs:List ByteArray) (and:Bool):Cnd→List (List UInt8)
 | .mk k t n v kids=>if k=4∨and=true∧k=3 then [40] :: (condWd locs (.mk k t n v kids)++[[41]]) else condWd locs (.mk k t n v kids)
theorem kidWd_mk (locs:List ByteArray) (and:Bool) (k t n v:UInt8) (kids:List Cnd):kidWd locs and (.mk k t n v kids)=if k=4∨and=true∧k=3 then [40] :: (condWd locs (.mk k t n v kids)++[[41]]) else condWd locs (.mk k t n v kids):=rfl
theorem wordsW_app (v:WS) (a b:List (List UInt8)):wordsW v (a++b)=wordsW (wordsW v a) b:=by unfold wordsW;rw [List.foldl_append]
set_option maxHeartbeats 4000000 in
theorem kid_of {locs:List ByteArray} {LA:Option Addr} {LC bp:Nat} {R:Res} {W:World} {h:Nat} (hC:CondWr locs LA LC bp R W h) (w0:World) (rs:List Res) (v:WS) (cs:List Value) (c:Cnd) (and:Bool) (hc:CondAt W h cs c)
   (hW:WrAt W w0 (R :: rs) bp (.slice LA locs.length LC) v) :
   Calls Tryz.prog 120 #[.pointer (some ⟨bp,0,none⟩),.agg cs.toArray,.bool and] w0 fun e w'=>e = .returned (.tuple #[])∧WrAt W w' (R :: rs) bp (.slice LA locs.length LC) (wordsW v (kidWd locs and c)):=by
 cases h with
 | zero=>exact hc.elim
 | succ h=>
 obtain ⟨k,t,n,val,kids⟩:=c
 have hc0:=hc
 obtain ⟨A0,C0,rfl,hkl,hA⟩:=hc
 obtain ⟨A,C,tx,wi,lg,H,ht,hv⟩:=hW
 refine enterF Tryz.func120 rfl Tryz.ntmps120 rfl (fun a F=>?_);refine cSR fun K1 hK1=>?_;refine sBx H F rfl rfl rfl ?_;clear F a H;intro b4 a w F H;refine nK hK1 ?_;clear hK1;refine cSeq (fun K2 hK2=>?_);refine cSR fun K3 hK3=>sFa (f:=0) (k:=0) Tryz.underlying27 rfl Tryz.sizeOf5 rfl rfl F rfl rfl rfl (qLd Tryz.isAgg5 rfl rfl rfl (H.cell 0 rfl rfl) (qBin rfl rfl rfl rfl (bEqlB (y:=4)) (qMv rfl rfl rfl ?_)));clear F a;intro a F
 refine F.split 9 rfl ?_ ?_ <;> (clear F;intro h9 F)
 ·
  replace h9:=beqT h9;refine sSk F rfl rfl (qSk rfl rfl (qSk rfl rfl (qSk rfl rfl (qSk rfl rfl (qSk rfl rfl (qPk rfl rfl rfl rfl (qNK hK3 ?_)))))));clear hK3;clear F a;intro a F;refine cIfT F rfl ?_;refine cSR fun K4 hK4=>sMv F rfl rfl rfl ?_;clear F a;intro a F;refine sBs1 H Tryz.underlying22 Tryz.sizeOf9 Tryz.zeroValue9 rfl F rfl rfl rfl rfl ?_;clear F a H;intro b18 a w F H;refine sCall Tryz.call44 F rfl rfl rfl (wwords1 (v:=v) [⟨#[40]⟩] (by simp) (by decide) (H.selT 5 [0,2,3,4,1] rfl rfl) ht hv) ?_;rintro e w ⟨rfl,hW⟩
  obtain ⟨A1,C1,tx1,wi1,lg1,H,ht1,hv1⟩:=hW
  refine ⟨_,rfl,?_⟩;clear F a;intro a F;refine nK hK4 (cSR fun K5 hK5=>sMv F rfl rfl rfl ?_);clear hK4;clear F a;intro a F
  refine sLr Tryz.underlying27 rfl ?si F rfl rfl rfl (H.whole 3 rfl) ?_
  case si=>exact info_size Tryz.sizeOf27
  clear F a;intro a F;refine sCall Tryz.call33 F rfl rfl rfl (hC _ _ (wordsW v [[40]]) _ (.mk k t n val kids) hc0 ⟨A1,C1,tx1,wi1,lg1,H,ht1,hv1⟩) ?_;rintro e w ⟨rfl,hW⟩
  obtain ⟨A2,C2,tx2,wi2,lg2,H,ht2,hv2⟩:=hW
  refine ⟨_,rfl,?_⟩;clear F a;intro a F;refine nK hK5 (cSR fun K6 hK6=>sMv F rfl rfl rfl ?_);clear hK5;clear F a;intro a F;refine sBs1 H Tryz.underlying22 Tryz.sizeOf9 Tryz.zeroValue9 rfl F rfl rfl rfl rfl ?_;clear F a H;intro b24 a w F H;refine sCall Tryz.call44 F rfl rfl rfl (wwords1 (v:=wordsW (wordsW v [[40]]) (condWd locs (.mk k t n val kids))) [⟨#[41]⟩] (by simp) (by decide) H ht2 hv2) ?_;rintro e w ⟨rfl,hW⟩
  obtain ⟨A3,C3,tx3,wi3,lg3,H,ht3,hv3⟩:=hW
  refine ⟨_,rfl,?_⟩;clear F a;intro a F;refine nK hK6 ?_;clear hK6;refine wp_ret ?_;simp only [Exit.then];refine bEndR Tryz.results120 F ?_
  first
  | (have e:kidWd locs and (.mk k t n val kids)=[[40]]++(condWd locs (.mk k t n val kids)++wd [⟨#[41]⟩]):=by
       rw [kidWd_mk,if_pos (by clear hC hA hc0;simp_all)];rfl
     rw [e,wordsW_app,wordsW_app]
     exact ⟨rfl,A3,C3,tx3,wi3,lg3,H.selT 4 [0,1,2] rfl rfl,ht3,hv3⟩)
  | (have e:kidWd locs and (.mk k t n val kids)=condWd locs (.mk k t n val kids):=by
       rw [kidWd_mk,if_neg (by clear hC hA hc0;simp_all)]
     rw [e]
     exact ⟨rfl,A2,C2,tx2,wi2,lg2,H.selT 4 [0,1,2] rfl rfl,ht2,hv2⟩)
 replace h9:=beqF h9;refine sMv F rfl rfl rfl (qMv rfl rfl rfl ?_);clear F a;intro a F
 refine F.split 11 rfl ?_ ?_ <;> (clear F;intro h11 F)
 ·
  refine sFa (f:=0) (k:=0) Tryz.underlying27 rfl Tryz.sizeOf5 rfl rfl F rfl rfl rfl (qLd Tryz.isAgg5 rfl rfl rfl (H.cell 0 rfl rfl) (qBin rfl rfl rfl rfl (bEqlB (y:=3)) (qPk rfl rfl rfl rfl (qPk rfl rfl rfl rfl (qNK hK3 ?_)))));clear hK3;clear F a;intro a F
  refine cIf F rfl (fun h16=>?_) (fun h16=>?_)
  ·
   replace h16:=beqT h16;refine cSR fun K7 hK7=>sMv F rfl rfl rfl ?_;clear F a;intro a F;refine sBs1 H Tryz.underlying22 Tryz.sizeOf9 Tryz.zeroValue9 rfl F rfl rfl rfl rfl ?_;clear F a H;intro b18 a w F H;refine sCall Tryz.call44 F rfl rfl rfl (wwords1 (v:=v) [⟨#[40]⟩] (by simp) (by decide) (H.selT 5 [0,2,3,4,1] rfl rfl) ht hv) ?_;rintro e w ⟨rfl,hW⟩
   obtain ⟨A1,C1,tx1,wi1,lg1,H,ht1,hv1⟩:=hW
   refine ⟨_,rfl,?_⟩;clear F a;intro a F;refine nK hK7 (cSR fun K8 hK8=>sMv F rfl rfl rfl ?_);clear hK7;clear F a;intro a F
   refine sLr Tryz.underlying27 rfl ?si F rfl rfl rfl (H.whole 3 rfl) ?_
   case si=>exact info_size Tryz.sizeOf27
   clear F a;intro a F;refine sCall Tryz.call33 F rfl rfl rfl (hC _ _ (wordsW v [[40]]) _ (.mk k t n val kids) hc0 ⟨A1,C1,tx1,wi1,lg1,H,ht1,hv1⟩) ?_;rintro e w ⟨rfl,hW⟩
   obtain ⟨A2,C2,tx2,wi2,lg2,H,ht2,hv2⟩:=hW
   refine ⟨_,rfl,?_⟩;clear F a;intro a F;refine nK hK8 (cSR fun K9 hK9=>sMv F rfl rfl rfl ?_);clear hK8;clear F a;intro a F;refine sBs1 H Tryz.underlying22 Tryz.sizeOf9 Tryz.zeroValue9 rfl F rfl rfl rfl rfl ?_;clear F a H;intro b24 a w F H;refine sCall Tryz.call44 F rfl rfl rfl (wwords1 (v:=wordsW (wordsW v [[40]]) (condWd locs (.mk k t n val kids))) [⟨#[41]⟩] (by simp) (by decide) H ht2 hv2) ?_;rintro e w ⟨rfl,hW⟩
   obtain ⟨A3,C3,tx3,wi3,lg3,H,ht3,hv3⟩:=hW
   refine ⟨_,rfl,?_⟩;clear F a;intro a F;refine nK hK9 ?_;clear hK9;refine wp_ret ?_;simp only [Exit.then];refine bEndR Tryz.results120 F ?_
   first
   | (have e:kidWd locs and (.mk k t n val kids)=[[40]]++(condWd locs (.mk k t n val kids)++wd [⟨#[41]⟩]):=by
        rw [kidWd_mk,if_pos (by clear hC hA hc0;simp_all)];rfl
      rw [e,wordsW_app,wordsW_app]
      exact ⟨rfl,A3,C3,tx3,wi3,lg3,H.selT 4 [0,1,2] rfl rfl,ht3,hv3⟩)
   | (have e:kidWd locs and (.mk k t n val kids)=condWd locs (.mk k t n val kids):=by
        rw [kidWd_mk,if_neg (by clear hC hA hc0;simp_all)]
      rw [e]
      exact ⟨rfl,A2,C2,tx2,wi2,lg2,H.selT 4 [0,1,2] rfl rfl,ht2,hv2⟩)
  replace h16:=beqF h16;refine wp_skip (hK2 _ _ (cReg (sMv F rfl rfl rfl ?_)));clear hK2;clear F a;intro a F
  refine sLr Tryz.underlying27 rfl ?si F rfl rfl rfl (H.whole 0 rfl) ?_
  case si=>exact info_size Tryz.sizeOf27
  clear F a;intro a F;refine sCall Tryz.call33 F rfl rfl rfl (hC _ _ v _ (.mk k t n val kids) hc0 ⟨A,C,tx,wi,lg,H.selT 4 [1,2,3,0] rfl rfl,ht,hv⟩) ?_;rintro e w ⟨rfl,hW⟩
  obtain ⟨A2,C2,tx2,wi2,lg2,H,ht2,hv2⟩:=hW
  refine ⟨_,rfl,?_⟩;clear F a;intro a F;refine sNil ?_
  first | refine bEnd Tryz.results120 F ?_ | (simp only [Exit.then,Exit.inBlock,if_true];(repeat (first | rw [if_pos rfl] | rw [if_neg (by decide)]));refine bEnd Tryz.results120 F ?_)
  first
  | (have e:kidWd locs and (.mk k t n val kids)=[[40]]++(condWd locs (.mk k t n val kids)++wd [⟨#[41]⟩]):=by
       rw [kidWd_mk,if_pos (by clear hC hA hc0;simp_all)];rfl
     rw [e,wordsW_app,wordsW_app]
     exact ⟨rfl,A3,C3,tx3,wi3,lg3,H.selT 4 [0,1,2] rfl rfl,ht3,hv3⟩)
  | (have e:kidWd locs and (.mk k t n val kids)=condWd locs (.mk k t n val kids):=by
       rw [kidWd_mk,if_neg (by clear hC hA hc0;simp_all)]
     rw [e]
     exact ⟨rfl,A2,C2,tx2,wi2,lg2,H.selT 4 [0,1,2] rfl rfl,ht2,hv2⟩)
 refine sSk F rfl rfl (qSk rfl rfl (qSk rfl rfl (qPk rfl rfl rfl rfl (qPk rfl rfl rfl rfl (qNK hK3 ?_)))));clear hK3;clear F a;intro a F;refine cIfF F rfl ?_;refine wp_skip (hK2 _ _ (cReg (sMv F rfl rfl rfl ?_)));clear hK2;clear F a;intro a F
 refine sLr Tryz.underlying27 rfl ?si F rfl rfl rfl (H.whole 0 rfl) ?_
 case si=>exact info_size Tryz.sizeOf27
 clear F a;intro a F;refine sCall Tryz.call33 F rfl rfl rfl (hC _ _ v _ (.mk k t n val kids) hc0 ⟨A,C,tx,wi,lg,H.selT 4 [1,2,3,0] rfl rfl,ht,hv⟩) ?_;rintro e w ⟨rfl,hW⟩
 obtain ⟨A2,C2,tx2,wi2,lg2,H,ht2,hv2⟩:=hW
 refine ⟨_,rfl,?_⟩;clear F a;intro a F;refine sNil ?_
 first | refine bEnd Tryz.results120 F ?_ | (simp only [Exit.then,Exit.inBlock,if_true];(repeat (first | rw [if_pos rfl] | rw [if_neg (by decide)]));refine bEnd Tryz.results120 F ?_)
 first
 | (have e:kidWd locs and (.mk k t n val kids)=[[40]]++(condWd locs (.mk k t n val kids)++wd [⟨#[41]⟩]):=by
      rw [kidWd_mk,if_pos (by clear hC hA hc0;simp_all)];rfl
    rw [e,wordsW_app,wordsW_app]
    exact ⟨rfl,A3,C3,tx3,wi3,lg3,H.selT 4 [0,1,2] rfl rfl,ht3,hv3⟩)
 | (have e:kidWd locs and (.mk k t n val kids)=condWd locs (.mk k t n val kids):=by
      rw [kidWd_mk,if_neg (by clear hC hA hc0;simp_all)]
    rw [e]
    exact ⟨rfl,A2,C2,tx2,wi2,lg2,H.selT 4 [0,1,2] rfl rfl,ht2,hv2⟩)
-- WrL
open Go.RowKit
set_option maxRecDepth 100000
theorem kidsT_cons (locs:List ByteArray) (and:Bool) (mid:List (List UInt8)) (b:Bool) (c:Cnd) (r:List Cnd):condWd.kidsT locs and mid b (c :: r)=(if b then [] else mid)++kidWd locs and c++condWd.kidsT locs and mid false r:=by
 obtain ⟨k,t,n,v,kids⟩:=c
 rw [condWd.kidsT,kidWd_mk]
theorem kidsT_nil (locs:List ByteArray) (and:Bool) (mid:List (List UInt8)) (b:Bool):condWd.kidsT locs and mid b []=[]:=by rw [condWd.kidsT]
set_option maxHeartbeats 4000000 in
theorem kids_of {locs:List ByteArray} {LA:Option Addr} {LC bp:Nat} {R:Res} {W:World} {h:Nat} (hC:CondWr locs LA LC bp R W h) (w0:World) (rs:List Res) (v:WS) (A0:Option Addr) (C0:Nat) (kids:List Cnd) (and:Bool) (MA:Option Addr) (MC:Nat) (S3:Nat→Prop) (mids:List ByteArray) (hml:mids.length≤1000) (hms:∀ s ∈ mids,s.size≤1000)
   (hkl:kids.length≤9223372036854775807) (hA:∀ (j:Nat) (kid:Cnd),kids[j]? = some kid→∃ b off cs',A0=some ⟨b,off,none⟩∧W.rangeAt b (off+j * 5) cs'∧CondAt W h cs' kid)
   (hW:WrAt W w0 (R :: .held S3 MA 1 (strC mids) :: rs) bp (.slice LA locs.length LC) v) :
   Calls Tryz.prog 67 #[.pointer (some ⟨bp,0,none⟩),.slice A0 kids.length C0,.bool and,.slice MA mids.length MC] w0 fun e w'=>e = .returned (.tuple #[])∧WrAt W w' (R :: .held S3 MA 1 (strC mids) :: rs) bp (.slice LA locs.length LC) (wordsW v (condWd.kidsT locs and (wd mids) true kids)):=by
 obtain ⟨A,C,tx,wi,lg,H,ht,hv⟩:=hW
 refine enterF Tryz.func67 rfl Tryz.ntmps67 rfl (fun a F=>?_);refine cSR fun K1 hK1=>sMv F rfl rfl rfl (qLen Tryz.underlying25 rfl rfl rfl (qMv rfl rfl rfl (qNK hK1 ?_)));clear hK1;clear F a;intro a F;refine wp_block ?_
 refine cLoopR [0,2,3,10,11] (fun m ups w=>∃ (i:Nat) (u:WS),m=kids.length - i∧ups=[(12,.int .i64 ((i:Nat):Int))]∧i≤kids.length∧wordsW u (condWd.kidsT locs and (wd mids) (i == 0) (kids.drop i))=wordsW v (condWd.kidsT locs and (wd mids) true kids)∧WrAt W w (R :: .held S3 MA 1 (strC mids) :: rs) bp (.slice LA locs.length LC) u) F (kids.length) [(12,.int .i64 ((0:Nat):Int))] (by repeat (first | exact SubR.nil | (apply SubR.cons;· rfl))) ?_ ?_ ?_
 · exact ⟨0,v,rfl,rfl,Nat.zero_le _,rfl,A,C,tx,wi,lg,H,ht,hv⟩
 · repeat (first | exact trivial | refine Le.cons rfl ?_)
 clear F
 clear H
 intro m ups a w hI F
 obtain ⟨i,u,rfl,rfl,hi,hc,A1,C1,tx1,wi1,lg1,H,ht1,hv1⟩:=hI
 refine cSR fun K2 hK2=>sBin F rfl rfl rfl rfl bLss (qNK hK2 ?_);clear hK2;clear F a;intro a F;refine cSeq (fun K3 hK3=>?_)
 refine cIf F rfl (fun h13=>?_) (fun h13=>?_)
 ·
  replace h13:=of_decide_eq_true h13
  obtain ⟨x,hx⟩:∃ x,kids[i]? = some x:=⟨_,List.getElem?_eq_getElem (by omega)⟩
  have hdr:kids.drop i=x :: kids.drop (i+1):=by obtain ⟨h1,h2⟩:=List.getElem?_eq_some_iff.1 hx;rw [List.drop_eq_getElem_cons h1,h2]
  obtain ⟨bA,oA,csA,rfl,hAx,hCA⟩:=hA i x hx
  obtain ⟨a1,a2,a3,a4,a5,a6,a7,rfl⟩:=condShape hCA
  refine wp_skip (hK3 _ _ ?_);clear hK3;refine cSeq (fun K4 hK4=>?_);refine wp_block ?_;refine cSR fun K5 hK5=>sMv F rfl rfl rfl ?_;clear F a;intro a F
  refine sIx Tryz.underlying25 Tryz.sizeOf27 F rfl rfl rfl rfl ?_ ?_
  focus (first | omega | decide | (simp;omega))
  clear F a;intro a F
  refine sLr Tryz.underlying27 rfl ?si F rfl rfl rfl (H.argR hAx) ?_
  case si=>exact info_size Tryz.sizeOf27
  clear F a;intro a F;refine sAl H Tryz.zeroValue27 F rfl rfl ?_;clear F a H;intro b9 a w F H;refine sAs F rfl rfl rfl ?_;clear F a;intro a F
  refine sSr H 0 ?si F rfl rfl rfl ?s1 rfl rfl ?_
  case si=>exact info_size Tryz.sizeOf27
  case s1=>first | rfl | (repeat (first | exact one_nil | (apply one_cons;· first | rfl | assumption | exact one_bif rfl rfl)))
  clear H;intro w H;refine nK hK5 ?_;clear hK5;refine cSeq (fun K6 hK6=>?_);refine cSR fun K7 hK7=>sMv F rfl rfl rfl (qNc rfl rfl rfl (qFa (f:=0) (k:=0) Tryz.underlying58 rfl Tryz.sizeOf56 rfl rfl rfl rfl rfl (qFa (f:=2) (k:=2) Tryz.underlying56 rfl Tryz.sizeOf4 rfl rfl rfl rfl rfl (qLd Tryz.isAgg4 rfl rfl rfl (H.cell 1 rfl rfl) (qNK hK7 ?_)))));clear hK7;clear F a;intro a F
  refine cIf F rfl (fun h21=>?_) (fun h21=>?_)
  ·
   have hlg:lg1=true:=h21
   subst hlg;refine wp_ret ?_;simp only [Exit.inBlock,Exit.then];refine bEndR Tryz.results67 F ?_
   first
   | (rcases hv1 with ⟨h,_⟩ | ⟨_,h⟩
      · cases h
      · exact ⟨rfl,WrAt.long (H.selT 5 [1,2,3,4] rfl rfl) ht1 h (by rw [← hc];exact wordsW_len _ _)⟩)
   | (have hu:u=wordsW v (condWd.kidsT locs and (wd mids) true kids):=by rw [← hc,List.drop_eq_nil_of_le (by omega),kidsT_nil];rfl
      rw [← hu]
      exact ⟨rfl,A1,C1,tx1,wi1,lg1,H,ht1,hv1⟩)
  refine wp_skip (hK6 _ _ ?_);clear hK6;refine cSeq (fun K8 hK8=>?_);refine cSR fun K9 hK9=>sMv F rfl rfl rfl (qBin rfl rfl rfl rfl bGtr (qNK hK9 ?_));clear hK9;clear F a;intro a F
  refine cIf F rfl (fun h23=>?_) (fun h23=>?_)
  ·
   replace h23:=of_decide_eq_true h23
   have hi0:i ≠ 0:=by omega
   refine cReg (sMv F rfl rfl rfl (qMv rfl rfl rfl ?_));clear F a;intro a F;refine sCall Tryz.call44 F rfl rfl rfl (wwords_any mids MA MC (v:=u) (by omega) (fun s h=>Nat.le_trans (hms s h) (by decide)) ⟨A1,C1,tx1,wi1,lg1,H.selT 5 [1,2,4,0,3] rfl rfl,ht1,hv1⟩) ?_;rintro e w ⟨rfl,hW⟩
   obtain ⟨A1,C1,tx1,wi1,lg1,H,ht1,hv1⟩:=hW
   replace H:=H.selT 5 [3,0,1,4,2] rfl rfl
   obtain ⟨y,hy⟩:∃ y,y=wordsW u (wd mids):=⟨_,rfl⟩
   rw [← hy] at hv1
   replace hy:y=wordsW u (if (i == 0)=true then [] else wd mids):=by rw [hy];simp [hi0]
   refine ⟨_,rfl,?_⟩;clear F a;intro a F;refine nK hK8 (cReg (sMv F rfl rfl rfl ?_));clear hK8;clear F a;intro a F
   refine sLr Tryz.underlying27 rfl ?si F rfl rfl rfl (H.whole 0 rfl) ?_
   case si=>exact info_size Tryz.sizeOf27
   clear F a;intro a F;refine sMv F rfl rfl rfl ?_;clear F a;intro a F;refine sCall Tryz.call120 F rfl rfl rfl (kid_of hC _ _ y _ x and hCA ⟨A1,C1,tx1,wi1,lg1,H.selT 5 [1,2,3,4] rfl rfl,ht1,hv1⟩) ?_;rintro e w ⟨rfl,hW⟩
   obtain ⟨A3,C3,tx3,wi3,lg3,H,ht3,hv3⟩:=hW
   refine ⟨_,rfl,?_⟩;clear F a;intro a F;refine nK hK4 (cReg ?_);clear hK4
   refine sBin F rfl rfl rfl rfl (bAddN (j:=1) ?_) ?_
   focus omega
   clear F a;intro a F;refine sMv F rfl rfl rfl ?_;clear F a;intro a F;refine sNil ?_
   exact ⟨_,by omega,_,⟨i+1,wordsW y (kidWd locs and x),rfl,rfl,by omega,by rw [← hc,hdr,kidsT_cons,wordsW_app,wordsW_app,← hy];rfl,A3,C3,tx3,wi3,lg3,H,ht3,hv3⟩,F.to (by repeat (first | exact trivial | refine Le.cons rfl ?_))⟩
  replace h23:=of_decide_eq_false h23
  have hi0:i=0:=by omega
  obtain ⟨y,hy⟩:∃ y,y=u:=⟨_,rfl⟩
  rw [← hy] at hv1
  replace hy:y=wordsW u (if (i == 0)=true then [] else wd mids):=by rw [hy];simp [hi0];rfl
  refine wp_skip (hK8 _ _ (cReg (sMv F rfl rfl rfl ?_)));clear hK8;clear F a;intro a F
  refine sLr Tryz.underlying27 rfl ?si F rfl rfl rfl (H.whole 0 rfl) ?_
  case si=>exact info_size Tryz.sizeOf27
  clear F a;intro a F;refine sMv F rfl rfl rfl ?_;clear F a;intro a F;refine sCall Tryz.call120 F rfl rfl rfl (kid_of hC _ _ y _ x and hCA ⟨A1,C1,tx1,wi1,lg1,H.selT 5 [1,2,3,4] rfl rfl,ht1,hv1⟩) ?_;rintro e w ⟨rfl,hW⟩
  obtain ⟨A3,C3,tx3,wi3,lg3,H,ht3,hv3⟩:=hW
  refine ⟨_,rfl,?_⟩;clear F a;intro a F;refine nK hK4 (cReg ?_);clear hK4
  refine sBin F rfl rfl rfl rfl (bAddN (j:=1) ?_) ?_
  focus omega
  clear F a;intro a F;refine sMv F rfl rfl rfl ?_;clear F a;intro a F;refine sNil ?_
  exact ⟨_,by omega,_,⟨i+1,wordsW y (kidWd locs and x),rfl,rfl,by omega,by rw [← hc,hdr,kidsT_cons,wordsW_app,wordsW_app,← hy];rfl,A3,C3,tx3,wi3,lg3,H,ht3,hv3⟩,F.to (by repeat (first | exact trivial | refine Le.cons rfl ?_))⟩
 replace h13:=of_decide_eq_false h13;refine wp_exit ?_
 first | refine bEnd Tryz.results67 F ?_ | (simp only [Exit.then,Exit.inBlock,if_true];(repeat (first | rw [if_pos rfl] | rw [if_neg (by decide)]));refine bEnd Tryz.results67 F ?_)
 first
 | (rcases hv1 with ⟨h,_⟩ | ⟨_,h⟩
    · cases h
    · exact ⟨rfl,WrAt.long (H.selT 5 [0,1,2,3] rfl rfl) ht1 h (by rw [← hc];exact wordsW_len _ _)⟩)
 | (have hu:u=wordsW v (condWd.kidsT locs and (wd mids) true kids):=by rw [← hc,List.drop_eq_nil_of_le (by omega),kidsT_nil];rfl
    rw [← hu]
    exact ⟨rfl,A1,C1,tx1,wi1,lg1,H,ht1,hv1⟩)
end Go.Proofs.YtkchaoajegkadaaGreatDoor
