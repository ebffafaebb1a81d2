/-
  WALK2. Package print: sameThread, and slices.Equal at bytes; both answers. Conditions: the rows lie in memory.
-/
import Derived.Test.YtkchaoajegkadaaGreatDoorKtF
import Derived.Test.YtkchaoajegkadaaGreatDoorWrA
set_option linter.unusedSimpArgs false
set_option linter.unusedVariables false
namespace Go.Proofs.YtkchaoajegkadaaGreatDoor
-- WrH
open Go.Proofs.Tryz
open Go.RowKit
set_option maxRecDepth 100000
theorem bNeI2 {x y:Operand} {u v:Ins}:BinR Tryz.prog .neq 44 x y (.agg u.cells.toArray) (.agg v.cells.toArray) (.bool (!ceq u.cells v.cells)):=
 bNeT (x':=x) (y':=y) eTI (by kernel_rfl) (by decide) (fitsI u) (fitsI v)
theorem b8_inj {a b:UInt8} (h:cellEq (b8 a) (b8 b)=true):a=b:=by
 simp only [cellEq,b8,beq_iff_eq] at h
 exact UInt8.toNat_inj.1 (by omega)
theorem ceq_ins {u v:Ins} (h:ceq u.cells v.cells=true):u=v:=by
 obtain ⟨a1,a2,a3,a4,a5,a6,a7,a8,a9,a10⟩:=u
 obtain ⟨c1,c2,c3,c4,c5,c6,c7,c8,c9,c10⟩:=v
 simp only [Ins.cells,ceq,Bool.and_eq_true,and_true] at h
 obtain ⟨h1,h2,h3,h4,h5,h6,h7,h8,h9,h10⟩:=h
 rw [b8_inj h1,b8_inj h2,b8_inj h3,b8_inj h5,b8_inj h7,b8_inj h8,b8_inj h9,b8_inj h10]
 simp only [cellEq,beq_iff_eq] at h4 h6
 rw [h4,h6]
set_option maxHeartbeats 2000000 in
theorem sameThread_any (A B:Option Addr) (CA CB:Nat) (l k:List Ins) (w0:World) (hA:RowsAt w0 A 10 (l.map Ins.cells)) (hB:RowsAt w0 B 10 (k.map Ins.cells)) (hl:l.length≤9223372036854775807) (hk:k.length≤9223372036854775807) :
   Calls Tryz.prog 47 #[.slice A l.length CA,.slice B k.length CB] w0 fun e w'=>(∃ b:Bool,e = .returned (.bool b)∧(b=true ↔ l=k))∧Below w0.heap.size w0 w':=by
 have H:=Own.start w0 none
 refine enterF func47 rfl ntmps47 rfl (fun a F=>?_);refine cSR fun K1 hK1=>sAs F rfl rfl rfl (qNK hK1 ?_);clear hK1;clear F a;intro a F;refine cSeq (fun K2 hK2=>?_);refine cSR fun K3 hK3=>sMv F rfl rfl rfl (qLen underlying52 rfl rfl rfl (qMv rfl rfl rfl (qLen underlying52 rfl rfl rfl (qBin rfl rfl rfl rfl bNeq (qNK hK3 ?_)))));clear hK3;clear F a;intro a F
 refine cIf F rfl (fun h10=>?_) (fun h10=>?_)
 ·
  replace h10:=bneT h10
  have hne:l.length ≠ k.length:=by intro e;apply h10;rw [e]
  refine cSR fun K4 hK4=>sAs F rfl rfl rfl (qNK hK4 ?_);clear hK4;clear F a;intro a F;refine wp_ret ?_;simp only [Exit.then];refine bRet results47 F rfl ?_
  first
  | exact ⟨⟨_,rfl,by simp only [Bool.false_eq_true,false_iff];intro e;exact hne (by rw [e])⟩,H.below⟩
  | exact ⟨⟨_,rfl,by
      simp only [Bool.false_eq_true,false_iff];intro e
      subst e
      obtain rfl:x=y:=Option.some.inj (hx.symm.trans hy)
      rw [ceqI] at h24
      exact absurd h24 (by decide)⟩,H.below⟩
  | exact ⟨⟨_,rfl,by
      simp only [true_iff]
      refine List.ext_getElem? fun j=>?_
      by_cases hj:j < i
      · exact hsm j hj
      · rw [List.getElem?_eq_none (by omega),List.getElem?_eq_none (by omega)]⟩,H.below⟩
 replace h10:=bneF h10
 have hq:l.length=k.length:=by omega
 refine wp_skip (hK2 _ _ ?_);clear hK2;refine cSeq (fun K5 hK5=>?_);refine cSR fun K6 hK6=>sMv F rfl rfl rfl (qLen underlying52 rfl rfl rfl (qMv rfl rfl rfl (qNK hK6 ?_)));clear hK6;clear F a;intro a F;refine wp_block ?_
 refine cLoopR [0,1,12] (fun m ups w=>∃ i:Nat,m=l.length - i∧ups=[(13,.int .i64 ((i:Nat):Int))]∧i≤l.length∧(∀ j,j < i→l[j]? = k[j]?)∧Own w0 none w []) F (l.length) [(13,.int .i64 ((0:Nat):Int))] (by repeat (first | exact SubR.nil | (apply SubR.cons;· rfl))) ?_ ?_ ?_
 · exact ⟨0,rfl,rfl,by omega,fun j h=>by omega,H.sel [] rfl rfl⟩
 · repeat (first | exact trivial | refine Le.cons rfl ?_)
 clear F
 clear H
 intro m ups a w hI F
 obtain ⟨i,rfl,rfl,hi,hsm,H⟩:=hI
 refine cSR fun K7 hK7=>sBin F rfl rfl rfl rfl bLss (qNK hK7 ?_);clear hK7;clear F a;intro a F;refine cSeq (fun K8 hK8=>?_)
 refine cIf F rfl (fun h14=>?_) (fun h14=>?_)
 ·
  replace h14:=of_decide_eq_true h14
  obtain ⟨x,hx⟩:∃ x,l[i]? = some x:=⟨_,List.getElem?_eq_getElem (by omega)⟩
  obtain ⟨y,hy⟩:∃ y,k[i]? = some y:=⟨_,List.getElem?_eq_getElem (by omega)⟩
  obtain ⟨bA,oA,rfl,hAx⟩:=mapAt hA hx
  obtain ⟨bB,oB,rfl,hBx⟩:=mapAt hB hy
  refine wp_skip (hK8 _ _ ?_);clear hK8;refine cSeq (fun K9 hK9=>?_);refine wp_block ?_;refine cSR fun K10 hK10=>sMv F rfl rfl rfl (qAs rfl rfl rfl (qNK hK10 ?_));clear hK10;clear F a;intro a F;refine cSeq (fun K11 hK11=>?_);refine cRegRO (by kernel_rfl) H ?_;replace H:=H.drew;refine eTF 0 rfl (by kernel_rfl) F rfl rfl rfl (fun w=>rMv F rfl) H qq0 (qTF 1 rfl (by kernel_rfl) rfl rfl rfl (fun a F w=>rMv F rfl) H qq0 ?_);clear F a;intro a F
  refine eTakeF (k:=2) (i:=2) rfl (by kernel_rfl) F rfl rfl rfl (fun w=>rIx underlying52 sizeOf44 F rfl rfl ?_) H (fun _ _ _ h=>h) ?_
  focus (first | omega | decide | (simp;omega))
  clear F a;intro a F
  refine eTake (k:=3) (i:=3) rfl (by kernel_rfl) F rfl rfl rfl rfl (fun w H=>rLr underlying44 rfl ?si F rfl (H.argR hAx)) H (fun _ _ _ h=>h) ?_
  case si=>exact info_size sizeOf44
  clear F a;intro a F;refine eTF 4 rfl (by kernel_rfl) F rfl rfl rfl (fun w=>rMv F rfl) H qq0 (qTF 5 rfl (by kernel_rfl) rfl rfl rfl (fun a F w=>rMv F rfl) H qq0 ?_);clear F a;intro a F
  refine eTakeF (k:=6) (i:=6) rfl (by kernel_rfl) F rfl rfl rfl (fun w=>rIx underlying52 sizeOf44 F rfl rfl ?_) H (fun _ _ _ h=>h) ?_
  focus (first | omega | decide | (simp;omega))
  clear F a;intro a F
  refine eTake (k:=7) (i:=7) rfl (by kernel_rfl) F rfl rfl rfl rfl (fun w H=>rLr underlying44 rfl ?si F rfl (H.argR hBx)) H (fun _ _ _ h=>h) ?_
  case si=>exact info_size sizeOf44
  clear F a;intro a F;refine eTF 8 rfl (by kernel_rfl) F rfl rfl rfl (fun w=>rBin F rfl rfl bNeI2) H qq0 ?_;clear F a;intro a F;refine eNil (k:=9) (by kernel_rfl) ?_;refine hK11 _ _ ?_;clear hK11
  refine cIf F rfl (fun h24=>?_) (fun h24=>?_)
  ·
   refine cSR fun K12 hK12=>sAs F rfl rfl rfl (qNK hK12 ?_);clear hK12;clear F a;intro a F;refine wp_ret ?_;simp only [Exit.inBlock,Exit.then];refine bRet results47 F rfl ?_
   first
   | exact ⟨⟨_,rfl,by simp only [Bool.false_eq_true,false_iff];intro e;exact hne (by rw [e])⟩,H.below⟩
   | exact ⟨⟨_,rfl,by
       simp only [Bool.false_eq_true,false_iff];intro e
       subst e
       obtain rfl:x=y:=Option.some.inj (hx.symm.trans hy)
       rw [ceqI] at h24
       exact absurd h24 (by decide)⟩,H.below⟩
   | exact ⟨⟨_,rfl,by
       simp only [true_iff]
       refine List.ext_getElem? fun j=>?_
       by_cases hj:j < i
       · exact hsm j hj
       · rw [List.getElem?_eq_none (by omega),List.getElem?_eq_none (by omega)]⟩,H.below⟩
  refine wp_skip (hK9 _ _ (cReg ?_));clear hK9
  refine sBin F rfl rfl rfl rfl (bAddN (j:=1) ?_) ?_
  focus omega
  clear F a;intro a F;refine sMv F rfl rfl rfl ?_;clear F a;intro a F;refine sNil ?_
  have hxy:x=y:=ceq_ins (by simpa using h24)
  exact ⟨_,by omega,_,⟨i+1,rfl,rfl,by omega,fun j hj=>by rcases Nat.lt_succ_iff_lt_or_eq.1 hj with h | rfl;exact hsm j h;rw [hx,hy,hxy],H.sel [] rfl rfl⟩,F.to (by repeat (first | exact trivial | refine Le.cons rfl ?_))⟩
 replace h14:=of_decide_eq_false h14;refine wp_exit ?_;refine hK5 _ _ (cSR fun K13 hK13=>sAs F rfl rfl rfl (qNK hK13 ?_));clear hK5 hK13;clear F a;intro a F;refine wp_ret ?_;refine bRet results47 F rfl ?_
 first
 | exact ⟨⟨_,rfl,by simp only [Bool.false_eq_true,false_iff];intro e;exact hne (by rw [e])⟩,H.below⟩
 | exact ⟨⟨_,rfl,by
     simp only [Bool.false_eq_true,false_iff];intro e
     subst e
     obtain rfl:x=y:=Option.some.inj (hx.symm.trans hy)
     rw [ceqI] at h24
     exact absurd h24 (by decide)⟩,H.below⟩
 | exact ⟨⟨_,rfl,by
     simp only [true_iff]
     refine List.ext_getElem? fun j=>?_
     by_cases hj:j < i
     · exact hsm j hj
     · rw [List.getElem?_eq_none (by omega),List.getElem?_eq_none (by omega)]⟩,H.below⟩
set_option maxHeartbeats 2000000 in
theorem equalB_any (A B:Option Addr) (CA CB:Nat) (l k:List UInt8) (w0:World) (hA:RowsAt w0 A 1 (l.map fun x=>[b8 x])) (hB:RowsAt w0 B 1 (k.map fun x=>[b8 x])) (hl:l.length≤9223372036854775807) (hk:k.length≤9223372036854775807) :
   Calls Tryz.prog 49 #[.slice A l.length CA,.slice B k.length CB] w0 fun e w'=>(∃ b:Bool,e = .returned (.bool b)∧(b=true ↔ l=k))∧Below w0.heap.size w0 w':=by
 have H:=Own.start w0 none
 refine enterF func49 rfl ntmps49 rfl (fun a F=>?_);refine cSR fun K1 hK1=>sAs F rfl rfl rfl (qNK hK1 ?_);clear hK1;clear F a;intro a F;refine cSeq (fun K2 hK2=>?_);refine cSR fun K3 hK3=>sMv F rfl rfl rfl (qLen underlying23 rfl rfl rfl (qMv rfl rfl rfl (qLen underlying23 rfl rfl rfl (qBin rfl rfl rfl rfl bNeq (qNK hK3 ?_)))));clear hK3;clear F a;intro a F
 refine cIf F rfl (fun h10=>?_) (fun h10=>?_)
 ·
  replace h10:=bneT h10
  have hne:l.length ≠ k.length:=by intro e;apply h10;rw [e]
  refine cSR fun K4 hK4=>sAs F rfl rfl rfl (qNK hK4 ?_);clear hK4;clear F a;intro a F;refine wp_ret ?_;simp only [Exit.then];refine bRet results49 F rfl ?_
  first
  | exact ⟨⟨_,rfl,by simp only [Bool.false_eq_true,false_iff];intro e;exact hne (by rw [e])⟩,H.below⟩
  | exact ⟨⟨_,rfl,by
      simp only [Bool.false_eq_true,false_iff];intro e
      subst e
      obtain rfl:x=y:=Option.some.inj (hx.symm.trans hy)
      first | exact absurd rfl h24 | simp at h24⟩,H.below⟩
  | exact ⟨⟨_,rfl,by
      simp only [true_iff]
      refine List.ext_getElem? fun j=>?_
      by_cases hj:j < i
      · exact hsm j hj
      · rw [List.getElem?_eq_none (by omega),List.getElem?_eq_none (by omega)]⟩,H.below⟩
 replace h10:=bneF h10
 have hq:l.length=k.length:=by omega
 refine wp_skip (hK2 _ _ ?_);clear hK2;refine cSeq (fun K5 hK5=>?_);refine cSR fun K6 hK6=>sMv F rfl rfl rfl (qLen underlying23 rfl rfl rfl (qMv rfl rfl rfl (qNK hK6 ?_)));clear hK6;clear F a;intro a F;refine wp_block ?_
 refine cLoopR [0,1,12] (fun m ups w=>∃ i:Nat,m=l.length - i∧ups=[(13,.int .i64 ((i:Nat):Int))]∧i≤l.length∧(∀ j,j < i→l[j]? = k[j]?)∧Own w0 none w []) F (l.length) [(13,.int .i64 ((0:Nat):Int))] (by repeat (first | exact SubR.nil | (apply SubR.cons;· rfl))) ?_ ?_ ?_
 · exact ⟨0,rfl,rfl,by omega,fun j h=>by omega,H.sel [] rfl rfl⟩
 · repeat (first | exact trivial | refine Le.cons rfl ?_)
 clear F
 clear H
 intro m ups a w hI F
 obtain ⟨i,rfl,rfl,hi,hsm,H⟩:=hI
 refine cSR fun K7 hK7=>sBin F rfl rfl rfl rfl bLss (qNK hK7 ?_);clear hK7;clear F a;intro a F;refine cSeq (fun K8 hK8=>?_)
 refine cIf F rfl (fun h14=>?_) (fun h14=>?_)
 ·
  replace h14:=of_decide_eq_true h14
  obtain ⟨x,hx⟩:∃ x,l[i]? = some x:=⟨_,List.getElem?_eq_getElem (by omega)⟩
  obtain ⟨y,hy⟩:∃ y,k[i]? = some y:=⟨_,List.getElem?_eq_getElem (by omega)⟩
  obtain ⟨bA,oA,rfl,hAx⟩:=mapAt hA hx
  obtain ⟨bB,oB,rfl,hBx⟩:=mapAt hB hy
  refine wp_skip (hK8 _ _ ?_);clear hK8;refine cSeq (fun K9 hK9=>?_);refine wp_block ?_;refine cSR fun K10 hK10=>sMv F rfl rfl rfl (qAs rfl rfl rfl (qNK hK10 ?_));clear hK10;clear F a;intro a F;refine cSeq (fun K11 hK11=>?_);refine cRegRO (by kernel_rfl) H ?_;replace H:=H.drew;refine eTF 0 rfl (by kernel_rfl) F rfl rfl rfl (fun w=>rMv F rfl) H qq0 (qTF 1 rfl (by kernel_rfl) rfl rfl rfl (fun a F w=>rMv F rfl) H qq0 ?_);clear F a;intro a F
  refine eTakeF (k:=2) (i:=2) rfl (by kernel_rfl) F rfl rfl rfl (fun w=>rIx underlying23 sizeOf5 F rfl rfl ?_) H (fun _ _ _ h=>h) ?_
  focus (first | omega | decide | (simp;omega))
  clear F a;intro a F;refine eT 3 rfl (by kernel_rfl) F rfl rfl rfl rfl (fun w H=>rLd isAgg5 F rfl (H.arg (hAx 0 _ rfl))) H qq0 (qTF 4 rfl (by kernel_rfl) rfl rfl rfl (fun a F w=>rMv F rfl) H qq0 (qTF 5 rfl (by kernel_rfl) rfl rfl rfl (fun a F w=>rMv F rfl) H qq0 ?_));clear F a;intro a F
  refine eTakeF (k:=6) (i:=6) rfl (by kernel_rfl) F rfl rfl rfl (fun w=>rIx underlying23 sizeOf5 F rfl rfl ?_) H (fun _ _ _ h=>h) ?_
  focus (first | omega | decide | (simp;omega))
  clear F a;intro a F;refine eT 7 rfl (by kernel_rfl) F rfl rfl rfl rfl (fun w H=>rLd isAgg5 F rfl (H.arg (hBx 0 _ rfl))) H qq0 (qTF 8 rfl (by kernel_rfl) rfl rfl rfl (fun a F w=>rBin F rfl rfl bNeqB) H qq0 ?_);clear F a;intro a F;refine eNil (k:=9) (by kernel_rfl) ?_;refine hK11 _ _ ?_;clear hK11
  refine cIf F rfl (fun h24=>?_) (fun h24=>?_)
  ·
   replace h24:=bneT h24;refine cSR fun K12 hK12=>sAs F rfl rfl rfl (qNK hK12 ?_);clear hK12;clear F a;intro a F;refine wp_ret ?_;simp only [Exit.inBlock,Exit.then];refine bRet results49 F rfl ?_
   first
   | exact ⟨⟨_,rfl,by simp only [Bool.false_eq_true,false_iff];intro e;exact hne (by rw [e])⟩,H.below⟩
   | exact ⟨⟨_,rfl,by
       simp only [Bool.false_eq_true,false_iff];intro e
       subst e
       obtain rfl:x=y:=Option.some.inj (hx.symm.trans hy)
       first | exact absurd rfl h24 | simp at h24⟩,H.below⟩
   | exact ⟨⟨_,rfl,by
       simp only [true_iff]
       refine List.ext_getElem? fun j=>?_
       by_cases hj:j < i
       · exact hsm j hj
       · rw [List.getElem?_eq_none (by omega),List.getElem?_eq_none (by omega)]⟩,H.below⟩
  replace h24:=bneF h24;refine wp_skip (hK9 _ _ (cReg ?_));clear hK9
  refine sBin F rfl rfl rfl rfl (bAddN (j:=1) ?_) ?_
  focus omega
  clear F a;intro a F;refine sMv F rfl rfl rfl ?_;clear F a;intro a F;refine sNil ?_
  have hxy:x=y:=by first | exact h24 | simpa using h24
  exact ⟨_,by omega,_,⟨i+1,rfl,rfl,by omega,fun j hj=>by rcases Nat.lt_succ_iff_lt_or_eq.1 hj with h | rfl;exact hsm j h;rw [hx,hy,hxy],H.sel [] rfl rfl⟩,F.to (by repeat (first | exact trivial | refine Le.cons rfl ?_))⟩
 replace h14:=of_decide_eq_false h14;refine wp_exit ?_;refine hK5 _ _ (cSR fun K13 hK13=>sAs F rfl rfl rfl (qNK hK13 ?_));clear hK5 hK13;clear F a;intro a F;refine wp_ret ?_;refine bRet results49 F rfl ?_
 first
 | exact ⟨⟨_,rfl,by simp only [Bool.false_eq_true,false_iff];intro e;exact hne (by rw [e])⟩,H.below⟩
 | exact ⟨⟨_,rfl,by
     simp only [Bool.false_eq_true,false_iff];intro e
     subst e
     obtain rfl:x=y:=Option.some.inj (hx.symm.trans hy)
     first | exact absurd rfl h24 | simp at h24⟩,H.below⟩
 | exact ⟨⟨_,rfl,by
     simp only [true_iff]
     refine List.ext_getElem? fun j=>?_
     by_cases hj:j < i
     · exact hsm j hj
     · rw [List.getElem?_eq_none (by omega),List.getElem?_eq_none (by omega)]⟩,H.below⟩
set_option maxHeartbeats 2000000 in
theorem equalS_any (A B:Option Addr) (CA CB:Nat) (l k:List ByteArray) (w0:World) (hA:RowsAt w0 A 1 (l.map fun x=>[.string x])) (hB:RowsAt w0 B 1 (k.map fun x=>[.string x])) (hl:l.length≤9223372036854775807) (hk:k.length≤9223372036854775807) :
   Calls Tryz.prog 48 #[.slice A l.length CA,.slice B k.length CB] w0 fun e w'=>(∃ b:Bool,e = .returned (.bool b)∧(b=true ↔ l=k))∧Below w0.heap.size w0 w':=by
 have H:=Own.start w0 none
 refine enterF func48 rfl ntmps48 rfl (fun a F=>?_);refine cSR fun K1 hK1=>sAs F rfl rfl rfl (qNK hK1 ?_);clear hK1;clear F a;intro a F;refine cSeq (fun K2 hK2=>?_);refine cSR fun K3 hK3=>sMv F rfl rfl rfl (qLen underlying22 rfl rfl rfl (qMv rfl rfl rfl (qLen underlying22 rfl rfl rfl (qBin rfl rfl rfl rfl bNeq (qNK hK3 ?_)))));clear hK3;clear F a;intro a F
 refine cIf F rfl (fun h10=>?_) (fun h10=>?_)
 ·
  replace h10:=bneT h10
  have hne:l.length ≠ k.length:=by intro e;apply h10;rw [e]
  refine cSR fun K4 hK4=>sAs F rfl rfl rfl (qNK hK4 ?_);clear hK4;clear F a;intro a F;refine wp_ret ?_;simp only [Exit.then];refine bRet results48 F rfl ?_
  first
  | exact ⟨⟨_,rfl,by simp only [Bool.false_eq_true,false_iff];intro e;exact hne (by rw [e])⟩,H.below⟩
  | exact ⟨⟨_,rfl,by
      simp only [Bool.false_eq_true,false_iff];intro e
      subst e
      obtain rfl:x=y:=Option.some.inj (hx.symm.trans hy)
      first | exact absurd rfl h24 | simp at h24⟩,H.below⟩
  | exact ⟨⟨_,rfl,by
      simp only [true_iff]
      refine List.ext_getElem? fun j=>?_
      by_cases hj:j < i
      · exact hsm j hj
      · rw [List.getElem?_eq_none (by omega),List.getElem?_eq_none (by omega)]⟩,H.below⟩
 replace h10:=bneF h10
 have hq:l.length=k.length:=by omega
 refine wp_skip (hK2 _ _ ?_);clear hK2;refine cSeq (fun K5 hK5=>?_);refine cSR fun K6 hK6=>sMv F rfl rfl rfl (qLen underlying22 rfl rfl rfl (qMv rfl rfl rfl (qNK hK6 ?_)));clear hK6;clear F a;intro a F;refine wp_block ?_
 refine cLoopR [0,1,12] (fun m ups w=>∃ i:Nat,m=l.length - i∧ups=[(13,.int .i64 ((i:Nat):Int))]∧i≤l.length∧(∀ j,j < i→l[j]? = k[j]?)∧Own w0 none w []) F (l.length) [(13,.int .i64 ((0:Nat):Int))] (by repeat (first | exact SubR.nil | (apply SubR.cons;· rfl))) ?_ ?_ ?_
 · exact ⟨0,rfl,rfl,by omega,fun j h=>by omega,H.sel [] rfl rfl⟩
 · repeat (first | exact trivial | refine Le.cons rfl ?_)
 clear F
 clear H
 intro m ups a w hI F
 obtain ⟨i,rfl,rfl,hi,hsm,H⟩:=hI
 refine cSR fun K7 hK7=>sBin F rfl rfl rfl rfl bLss (qNK hK7 ?_);clear hK7;clear F a;intro a F;refine cSeq (fun K8 hK8=>?_)
 refine cIf F rfl (fun h14=>?_) (fun h14=>?_)
 ·
  replace h14:=of_decide_eq_true h14
  obtain ⟨x,hx⟩:∃ x,l[i]? = some x:=⟨_,List.getElem?_eq_getElem (by omega)⟩
  obtain ⟨y,hy⟩:∃ y,k[i]? = some y:=⟨_,List.getElem?_eq_getElem (by omega)⟩
  obtain ⟨bA,oA,rfl,hAx⟩:=mapAt hA hx
  obtain ⟨bB,oB,rfl,hBx⟩:=mapAt hB hy
  refine wp_skip (hK8 _ _ ?_);clear hK8;refine cSeq (fun K9 hK9=>?_);refine wp_block ?_;refine cSR fun K10 hK10=>sMv F rfl rfl rfl (qAs rfl rfl rfl (qNK hK10 ?_));clear hK10;clear F a;intro a F;refine cSeq (fun K11 hK11=>?_);refine cRegRO (by kernel_rfl) H ?_;replace H:=H.drew;refine eTF 0 rfl (by kernel_rfl) F rfl rfl rfl (fun w=>rMv F rfl) H qq0 (qTF 1 rfl (by kernel_rfl) rfl rfl rfl (fun a F w=>rMv F rfl) H qq0 ?_);clear F a;intro a F
  refine eTakeF (k:=2) (i:=2) rfl (by kernel_rfl) F rfl rfl rfl (fun w=>rIx underlying22 sizeOf9 F rfl rfl ?_) H (fun _ _ _ h=>h) ?_
  focus (first | omega | decide | (simp;omega))
  clear F a;intro a F;refine eT 3 rfl (by kernel_rfl) F rfl rfl rfl rfl (fun w H=>rLd isAgg9 F rfl (H.arg (hAx 0 _ rfl))) H qq0 (qTF 4 rfl (by kernel_rfl) rfl rfl rfl (fun a F w=>rMv F rfl) H qq0 (qTF 5 rfl (by kernel_rfl) rfl rfl rfl (fun a F w=>rMv F rfl) H qq0 ?_));clear F a;intro a F
  refine eTakeF (k:=6) (i:=6) rfl (by kernel_rfl) F rfl rfl rfl (fun w=>rIx underlying22 sizeOf9 F rfl rfl ?_) H (fun _ _ _ h=>h) ?_
  focus (first | omega | decide | (simp;omega))
  clear F a;intro a F;refine eT 7 rfl (by kernel_rfl) F rfl rfl rfl rfl (fun w H=>rLd isAgg9 F rfl (H.arg (hBx 0 _ rfl))) H qq0 (qTF 8 rfl (by kernel_rfl) rfl rfl rfl (fun a F w=>rBin F rfl rfl bStrNe) H qq0 ?_);clear F a;intro a F;refine eNil (k:=9) (by kernel_rfl) ?_;refine hK11 _ _ ?_;clear hK11
  refine cIf F rfl (fun h24=>?_) (fun h24=>?_)
  ·
   replace h24:=nbeqT h24;refine cSR fun K12 hK12=>sAs F rfl rfl rfl (qNK hK12 ?_);clear hK12;clear F a;intro a F;refine wp_ret ?_;simp only [Exit.inBlock,Exit.then];refine bRet results48 F rfl ?_
   first
   | exact ⟨⟨_,rfl,by simp only [Bool.false_eq_true,false_iff];intro e;exact hne (by rw [e])⟩,H.below⟩
   | exact ⟨⟨_,rfl,by
       simp only [Bool.false_eq_true,false_iff];intro e
       subst e
       obtain rfl:x=y:=Option.some.inj (hx.symm.trans hy)
       first | exact absurd rfl h24 | simp at h24⟩,H.below⟩
   | exact ⟨⟨_,rfl,by
       simp only [true_iff]
       refine List.ext_getElem? fun j=>?_
       by_cases hj:j < i
       · exact hsm j hj
       · rw [List.getElem?_eq_none (by omega),List.getElem?_eq_none (by omega)]⟩,H.below⟩
  replace h24:=nbeqF h24;refine wp_skip (hK9 _ _ (cReg ?_));clear hK9
  refine sBin F rfl rfl rfl rfl (bAddN (j:=1) ?_) ?_
  focus omega
  clear F a;intro a F;refine sMv F rfl rfl rfl ?_;clear F a;intro a F;refine sNil ?_
  have hxy:x=y:=eq_of_toList (by first | exact h24 | simpa using h24)
  exact ⟨_,by omega,_,⟨i+1,rfl,rfl,by omega,fun j hj=>by rcases Nat.lt_succ_iff_lt_or_eq.1 hj with h | rfl;exact hsm j h;rw [hx,hy,hxy],H.sel [] rfl rfl⟩,F.to (by repeat (first | exact trivial | refine Le.cons rfl ?_))⟩
 replace h14:=of_decide_eq_false h14;refine wp_exit ?_;refine hK5 _ _ (cSR fun K13 hK13=>sAs F rfl rfl rfl (qNK hK13 ?_));clear hK5 hK13;clear F a;intro a F;refine wp_ret ?_;refine bRet results48 F rfl ?_
 first
 | exact ⟨⟨_,rfl,by simp only [Bool.false_eq_true,false_iff];intro e;exact hne (by rw [e])⟩,H.below⟩
 | exact ⟨⟨_,rfl,by
     simp only [Bool.false_eq_true,false_iff];intro e
     subst e
     obtain rfl:x=y:=Option.some.inj (hx.symm.trans hy)
     first | exact absurd rfl h24 | simp at h24⟩,H.below⟩
 | exact ⟨⟨_,rfl,by
     simp only [true_iff]
     refine List.ext_getElem? fun j=>?_
     by_cases hj:j < i
     · exact hsm j hj
     · rw [List.getElem?_eq_none (by omega),List.getElem?_eq_none (by omega)]⟩,H.below⟩
-- WrI
open Go.Proofs.Tryz
open Go.RowKit
set_option maxRecDepth 100000
def SameP (h:Nat):Prop:=∀ (h2:Nat) (cs1 cs2:List Value) (c d:Cnd) (w0:World),CondAt w0 h cs1 c→CondAt w0 h2 cs2 d →
 Calls Tryz.prog 35 #[.agg cs1.toArray,.agg cs2.toArray] w0 fun e w'=>(∃ b:Bool,e = .returned (.bool b)∧(b=true ↔ c=d))∧Below w0.heap.size w0 w'
set_option maxHeartbeats 4000000 in
theorem samePC_any (h:Nat):SameP h:=by
 induction h with
 | zero=>exact fun _ _ _ _ _ _ h=>h.elim
 | succ h ih=>
   intro h2 cs1 cs2 c d w0 hc1 hc2
   obtain ⟨k,t,n,v,kids⟩:=c
   obtain ⟨k',t',n',v',kids'⟩:=d
   obtain ⟨A,CA,rfl,hkl,hA⟩:=hc1
   obtain ⟨q2,rfl⟩:∃ q,h2=q+1:=by
     cases h2 with
     | zero=>exact hc2.elim
     | succ q=>exact ⟨q,rfl⟩
   obtain ⟨B,CB,rfl,hkl',hB⟩:=hc2
   have H:=Own.start w0 none
   refine enterF func35 rfl ntmps35 rfl (fun a F=>?_);refine cSR fun K1 hK1=>?_;refine sBx H F rfl rfl rfl ?_;clear F a H;intro b2 a w F H;refine sBx H F rfl rfl rfl ?_;clear F a H;intro b3 a w F H;refine sAs F rfl rfl rfl (qNK hK1 ?_);clear hK1;clear F a;intro a F;refine cSeq (fun K2 hK2=>?_);refine cSR fun K3 hK3=>sFa (f:=0) (k:=0) underlying27 rfl sizeOf5 rfl rfl F rfl rfl rfl (qLd isAgg5 rfl rfl rfl (H.cell 1 rfl rfl) (qFa (f:=0) (k:=0) underlying27 rfl sizeOf5 rfl rfl rfl rfl rfl (qLd isAgg5 rfl rfl rfl (H.cell 0 rfl rfl) (qBin rfl rfl rfl rfl bNeqB (qMv rfl rfl rfl ?_)))));clear F a;intro a F
   refine F.split 11 rfl ?_ ?_ <;> (clear F;intro h11 F)
   ·
    replace h11:=bneT h11;refine sSk F rfl rfl (qSk rfl rfl (qSk rfl rfl (qSk rfl rfl (qSk rfl rfl (qPk rfl rfl rfl rfl (qMv rfl rfl rfl (qSk rfl rfl (qSk rfl rfl (qSk rfl rfl (qSk rfl rfl (qSk rfl rfl (qPk rfl rfl rfl rfl (qMv rfl rfl rfl (qSk rfl rfl (qSk rfl rfl (qSk rfl rfl (qSk rfl rfl (qSk rfl rfl (qPk rfl rfl rfl rfl (qMv rfl rfl rfl (qSk rfl rfl (qSk rfl rfl (qSk rfl rfl (qSk rfl rfl (qSk rfl rfl (qSk rfl rfl (qSk rfl rfl (qPk rfl rfl rfl rfl (qNK hK3 ?_)))))))))))))))))))))))))))));clear hK3;clear F a;intro a F;refine cIfT F rfl ?_;refine cSR fun K4 hK4=>sAs F rfl rfl rfl (qNK hK4 ?_);clear hK4;clear F a;intro a F;refine wp_ret ?_;simp only [Exit.then];refine bRet results35 F rfl ?_
    first
    | exact ⟨⟨_,rfl,by simp only [Bool.false_eq_true,false_iff];intro e;cases e;simp_all;done⟩,H.below⟩
    | exact ⟨⟨_,rfl,by
        simp only [true_iff]
        have hk:kids=kids':=by
          refine List.ext_getElem? fun j=>?_
          by_cases hj:j < i
          · exact hsm j hj
          · rw [List.getElem?_eq_none (by omega),List.getElem?_eq_none (by omega)]
        simp_all⟩,H.below⟩
   replace h11:=bneF h11;refine sFa (f:=1) (k:=1) underlying27 rfl sizeOf5 rfl rfl F rfl rfl rfl (qLd isAgg5 rfl rfl rfl (H.cell 1 rfl rfl) (qFa (f:=1) (k:=1) underlying27 rfl sizeOf5 rfl rfl rfl rfl rfl (qLd isAgg5 rfl rfl rfl (H.cell 0 rfl rfl) (qBin rfl rfl rfl rfl bNeqB (qPk rfl rfl rfl rfl (qMv rfl rfl rfl ?_))))));clear F a;intro a F
   refine F.split 18 rfl ?_ ?_ <;> (clear F;intro h18 F)
   ·
    replace h18:=bneT h18;refine sSk F rfl rfl (qSk rfl rfl (qSk rfl rfl (qSk rfl rfl (qSk rfl rfl (qPk rfl rfl rfl rfl (qMv rfl rfl rfl (qSk rfl rfl (qSk rfl rfl (qSk rfl rfl (qSk rfl rfl (qSk rfl rfl (qPk rfl rfl rfl rfl (qMv rfl rfl rfl (qSk rfl rfl (qSk rfl rfl (qSk rfl rfl (qSk rfl rfl (qSk rfl rfl (qSk rfl rfl (qSk rfl rfl (qPk rfl rfl rfl rfl (qNK hK3 ?_))))))))))))))))))))));clear hK3;clear F a;intro a F;refine cIfT F rfl ?_;refine cSR fun K5 hK5=>sAs F rfl rfl rfl (qNK hK5 ?_);clear hK5;clear F a;intro a F;refine wp_ret ?_;simp only [Exit.then];refine bRet results35 F rfl ?_
    first
    | exact ⟨⟨_,rfl,by simp only [Bool.false_eq_true,false_iff];intro e;cases e;simp_all;done⟩,H.below⟩
    | exact ⟨⟨_,rfl,by
        simp only [true_iff]
        have hk:kids=kids':=by
          refine List.ext_getElem? fun j=>?_
          by_cases hj:j < i
          · exact hsm j hj
          · rw [List.getElem?_eq_none (by omega),List.getElem?_eq_none (by omega)]
        simp_all⟩,H.below⟩
   replace h18:=bneF h18;refine sFa (f:=2) (k:=2) underlying27 rfl sizeOf5 rfl rfl F rfl rfl rfl (qLd isAgg5 rfl rfl rfl (H.cell 1 rfl rfl) (qFa (f:=2) (k:=2) underlying27 rfl sizeOf5 rfl rfl rfl rfl rfl (qLd isAgg5 rfl rfl rfl (H.cell 0 rfl rfl) (qBin rfl rfl rfl rfl bNeqB (qPk rfl rfl rfl rfl (qMv rfl rfl rfl ?_))))));clear F a;intro a F
   refine F.split 25 rfl ?_ ?_ <;> (clear F;intro h25 F)
   ·
    replace h25:=bneT h25;refine sSk F rfl rfl (qSk rfl rfl (qSk rfl rfl (qSk rfl rfl (qSk rfl rfl (qPk rfl rfl rfl rfl (qMv rfl rfl rfl (qSk rfl rfl (qSk rfl rfl (qSk rfl rfl (qSk rfl rfl (qSk rfl rfl (qSk rfl rfl (qSk rfl rfl (qPk rfl rfl rfl rfl (qNK hK3 ?_)))))))))))))));clear hK3;clear F a;intro a F;refine cIfT F rfl ?_;refine cSR fun K6 hK6=>sAs F rfl rfl rfl (qNK hK6 ?_);clear hK6;clear F a;intro a F;refine wp_ret ?_;simp only [Exit.then];refine bRet results35 F rfl ?_
    first
    | exact ⟨⟨_,rfl,by simp only [Bool.false_eq_true,false_iff];intro e;cases e;simp_all;done⟩,H.below⟩
    | exact ⟨⟨_,rfl,by
        simp only [true_iff]
        have hk:kids=kids':=by
          refine List.ext_getElem? fun j=>?_
          by_cases hj:j < i
          · exact hsm j hj
          · rw [List.getElem?_eq_none (by omega),List.getElem?_eq_none (by omega)]
        simp_all⟩,H.below⟩
   replace h25:=bneF h25;refine sFa (f:=3) (k:=3) underlying27 rfl sizeOf5 rfl rfl F rfl rfl rfl (qLd isAgg5 rfl rfl rfl (H.cell 1 rfl rfl) (qFa (f:=3) (k:=3) underlying27 rfl sizeOf5 rfl rfl rfl rfl rfl (qLd isAgg5 rfl rfl rfl (H.cell 0 rfl rfl) (qBin rfl rfl rfl rfl bNeqB (qPk rfl rfl rfl rfl (qMv rfl rfl rfl ?_))))));clear F a;intro a F
   refine F.split 32 rfl ?_ ?_ <;> (clear F;intro h32 F)
   ·
    replace h32:=bneT h32;refine sSk F rfl rfl (qSk rfl rfl (qSk rfl rfl (qSk rfl rfl (qSk rfl rfl (qSk rfl rfl (qSk rfl rfl (qPk rfl rfl rfl rfl (qNK hK3 ?_))))))));clear hK3;clear F a;intro a F;refine cIfT F rfl ?_;refine cSR fun K7 hK7=>sAs F rfl rfl rfl (qNK hK7 ?_);clear hK7;clear F a;intro a F;refine wp_ret ?_;simp only [Exit.then];refine bRet results35 F rfl ?_
    first
    | exact ⟨⟨_,rfl,by simp only [Bool.false_eq_true,false_iff];intro e;cases e;simp_all;done⟩,H.below⟩
    | exact ⟨⟨_,rfl,by
        simp only [true_iff]
        have hk:kids=kids':=by
          refine List.ext_getElem? fun j=>?_
          by_cases hj:j < i
          · exact hsm j hj
          · rw [List.getElem?_eq_none (by omega),List.getElem?_eq_none (by omega)]
        simp_all⟩,H.below⟩
   replace h32:=bneF h32;refine sFa (f:=4) (k:=4) underlying27 rfl sizeOf25 rfl rfl F rfl rfl rfl (qLd isAgg25 rfl rfl rfl (H.cell 1 rfl rfl) (qLen underlying25 rfl rfl rfl (qFa (f:=4) (k:=4) underlying27 rfl sizeOf25 rfl rfl rfl rfl rfl (qLd isAgg25 rfl rfl rfl (H.cell 0 rfl rfl) (qLen underlying25 rfl rfl rfl (qBin rfl rfl rfl rfl bNeq (qPk rfl rfl rfl rfl (qNK hK3 ?_))))))));clear hK3;clear F a;intro a F
   refine cIf F rfl (fun h40=>?_) (fun h40=>?_)
   ·
    replace h40:=bneT h40;refine cSR fun K8 hK8=>sAs F rfl rfl rfl (qNK hK8 ?_);clear hK8;clear F a;intro a F;refine wp_ret ?_;simp only [Exit.then];refine bRet results35 F rfl ?_
    first
    | exact ⟨⟨_,rfl,by simp only [Bool.false_eq_true,false_iff];intro e;cases e;simp_all;done⟩,H.below⟩
    | exact ⟨⟨_,rfl,by
        simp only [true_iff]
        have hk:kids=kids':=by
          refine List.ext_getElem? fun j=>?_
          by_cases hj:j < i
          · exact hsm j hj
          · rw [List.getElem?_eq_none (by omega),List.getElem?_eq_none (by omega)]
        simp_all⟩,H.below⟩
   replace h40:=bneF h40;refine wp_skip (hK2 _ _ ?_);clear hK2;refine cSeq (fun K9 hK9=>?_);refine cSR fun K10 hK10=>sFa (f:=4) (k:=4) underlying27 rfl sizeOf25 rfl rfl F rfl rfl rfl (qLd isAgg25 rfl rfl rfl (H.cell 1 rfl rfl) (qLen underlying25 rfl rfl rfl (qMv rfl rfl rfl (qNK hK10 ?_))));clear hK10;clear F a;intro a F;refine wp_block ?_
   refine cLoopR [2,3,43] (fun m ups w=>∃ i:Nat,m=kids.length - i∧ups=[(44,.int .i64 ((i:Nat):Int))]∧i≤kids.length∧(∀ j,j < i→kids[j]? = kids'[j]?)∧Own w0 none w [.blk b3 [b8 k',b8 t',b8 n',b8 v',.slice B kids'.length CB] 27,.blk b2 [b8 k,b8 t,b8 n,b8 v,.slice A kids.length CA] 27]) F (kids.length) [(44,.int .i64 ((0:Nat):Int))] (by repeat (first | exact SubR.nil | (apply SubR.cons;· rfl))) ?_ ?_ ?_
   · exact ⟨0,rfl,rfl,by omega,fun j h=>by omega,H⟩
   · repeat (first | exact trivial | refine Le.cons rfl ?_)
   clear F
   clear H
   intro m ups a w hI F
   obtain ⟨i,rfl,rfl,hi,hsm,H⟩:=hI
   refine cSR fun K11 hK11=>sBin F rfl rfl rfl rfl bLss (qNK hK11 ?_);clear hK11;clear F a;intro a F;refine cSeq (fun K12 hK12=>?_)
   refine cIf F rfl (fun h45=>?_) (fun h45=>?_)
   ·
    replace h45:=of_decide_eq_true h45
    obtain ⟨x,hx⟩:∃ x,kids[i]? = some x:=⟨_,List.getElem?_eq_getElem (by omega)⟩
    obtain ⟨y,hy⟩:∃ y,kids'[i]? = some y:=⟨_,List.getElem?_eq_getElem (by omega)⟩
    obtain ⟨bA,oA,csA,rfl,hAx,hCA⟩:=hA i x hx
    obtain ⟨bB,oB,csB,rfl,hBx,hCB⟩:=hB i y hy
    obtain ⟨a1,a2,a3,a4,a5,a6,a7,rfl⟩:=condShape hCA
    obtain ⟨c1,c2,c3,c4,c5,c6,c7,rfl⟩:=condShape hCB
    refine wp_skip (hK12 _ _ ?_);clear hK12;refine cSeq (fun K13 hK13=>?_);refine wp_block ?_;refine cSR fun K14 hK14=>sMv F rfl rfl rfl (qAs rfl rfl rfl (qNK hK14 ?_));clear hK14;clear F a;intro a F;refine cSeq (fun K15 hK15=>?_);refine cRegRO (by kernel_rfl) H ?_;replace H:=H.drew;refine eTF 0 rfl (by kernel_rfl) F rfl rfl rfl (fun w=>rFa (f:=4) (k:=4) underlying27 rfl sizeOf25 rfl rfl F rfl) H qq0 (qT 1 rfl (by kernel_rfl) rfl rfl rfl rfl (fun a F w H=>rLd isAgg25 F rfl (H.cell 1 rfl rfl)) H qq0 (qTF 2 rfl (by kernel_rfl) rfl rfl rfl (fun a F w=>rMv F rfl) H qq0 ?_));clear F a;intro a F
    refine eTakeF (k:=3) (i:=3) rfl (by kernel_rfl) F rfl rfl rfl (fun w=>rIx underlying25 sizeOf27 F rfl rfl ?_) H (fun _ _ _ h=>h) ?_
    focus (first | omega | decide | (simp;omega))
    clear F a;intro a F
    refine eTake (k:=4) (i:=4) rfl (by kernel_rfl) F rfl rfl rfl rfl (fun w H=>rLr underlying27 rfl ?si F rfl (H.argR hAx)) H (fun _ _ _ h=>h) ?_
    case si=>exact info_size sizeOf27
    clear F a;intro a F;refine eTF 5 rfl (by kernel_rfl) F rfl rfl rfl (fun w=>rFa (f:=4) (k:=4) underlying27 rfl sizeOf25 rfl rfl F rfl) H qq0 (qT 6 rfl (by kernel_rfl) rfl rfl rfl rfl (fun a F w H=>rLd isAgg25 F rfl (H.cell 0 rfl rfl)) H qq0 (qTF 7 rfl (by kernel_rfl) rfl rfl rfl (fun a F w=>rMv F rfl) H qq0 ?_));clear F a;intro a F
    refine eTakeF (k:=8) (i:=8) rfl (by kernel_rfl) F rfl rfl rfl (fun w=>rIx underlying25 sizeOf27 F rfl rfl ?_) H (fun _ _ _ h=>h) ?_
    focus (first | omega | decide | (simp;omega))
    clear F a;intro a F
    refine eTake (k:=9) (i:=9) rfl (by kernel_rfl) F rfl rfl rfl rfl (fun w H=>rLr underlying27 rfl ?si F rfl (H.argR hBx)) H (fun _ _ _ h=>h) ?_
    case si=>exact info_size sizeOf27
    clear F a;intro a F;refine eOne (k:=10) (i:=10) rfl (by kernel_rfl) F rfl (oCall call35 F rfl rfl (ih q2 _ _ x y _ (CondAt.grown H.grown rfl _ _ _ hCA) (CondAt.grown H.grown rfl _ _ _ hCB)) ?_);rintro e w ⟨⟨sb,rfl,hsb⟩,hb⟩;replace H:=H.grow hb;clear hb;refine ⟨_,rfl,?_⟩;clear F a;intro a F;refine ePartO (by kernel_rfl) H ?_;refine eTF 11 rfl (by kernel_rfl) F rfl rfl rfl (fun w=>rNot F rfl) H qq0 ?_;clear F a;intro a F;refine eNil (k:=12) (by kernel_rfl) ?_;refine hK15 _ _ ?_;clear hK15
    refine cIf F rfl (fun h58=>?_) (fun h58=>?_)
    ·
     replace h58:=notT h58;refine cSR fun K16 hK16=>sAs F rfl rfl rfl (qNK hK16 ?_);clear hK16;clear F a;intro a F;refine wp_ret ?_;simp only [Exit.inBlock,Exit.then];refine bRet results35 F rfl ?_
     first
     | exact ⟨⟨_,rfl,by simp only [Bool.false_eq_true,false_iff];intro e;cases e;simp_all;done⟩,H.below⟩
     | exact ⟨⟨_,rfl,by
         simp only [true_iff]
         have hk:kids=kids':=by
           refine List.ext_getElem? fun j=>?_
           by_cases hj:j < i
           · exact hsm j hj
           · rw [List.getElem?_eq_none (by omega),List.getElem?_eq_none (by omega)]
         simp_all⟩,H.below⟩
    replace h58:=notF h58;refine wp_skip (hK13 _ _ (cReg ?_));clear hK13
    refine sBin F rfl rfl rfl rfl (bAddN (j:=1) ?_) ?_
    focus omega
    clear F a;intro a F;refine sMv F rfl rfl rfl ?_;clear F a;intro a F;refine sNil ?_
    have hxy:x=y:=hsb.1 (by first | exact h58 | simpa using h58)
    exact ⟨_,by omega,_,⟨i+1,rfl,rfl,by omega,fun j hj=>by rcases Nat.lt_succ_iff_lt_or_eq.1 hj with h | rfl;exact hsm j h;rw [hx,hy,hxy],H⟩,F.to (by repeat (first | exact trivial | refine Le.cons rfl ?_))⟩
   replace h45:=of_decide_eq_false h45;refine wp_exit ?_;refine hK9 _ _ (cSR fun K17 hK17=>sAs F rfl rfl rfl (qNK hK17 ?_));clear hK9 hK17;clear F a;intro a F;refine wp_ret ?_;refine bRet results35 F rfl ?_
   first
   | exact ⟨⟨_,rfl,by simp only [Bool.false_eq_true,false_iff];intro e;cases e;simp_all;done⟩,H.below⟩
   | exact ⟨⟨_,rfl,by
       simp only [true_iff]
       have hk:kids=kids':=by
         refine List.ext_getElem? fun j=>?_
         by_cases hj:j < i
         · exact hsm j hj
         · rw [List.getElem?_eq_none (by omega),List.getElem?_eq_none (by omega)]
       simp_all⟩,H.below⟩
end Go.Proofs.YtkchaoajegkadaaGreatDoor
