/-
  WALK2. Package parse: the functions on tokens that may fail. Conditions: the parser and its tokens lie in memory.
-/
import Derived.Test.YtkchaoajegkadaaGreatDoorJn6
import Derived.Test.YtkchaoajegkadaaGreatDoorJn2
set_option linter.unusedSimpArgs false
set_option linter.unusedVariables false
namespace Go.Proofs.YtkchaoajegkadaaGreatDoor
-- PrB
open Go.RowKit
set_option maxRecDepth 100000
theorem numV_ok {s:ByteArray} (h:numOk s=true):numV s≤255:=by
 unfold numV
 rw [if_pos h]
 unfold numOk at h
 split at h
 · simp only [Bool.and_eq_true,decide_eq_true_eq] at h;exact h.2
 · cases h
theorem b8_num {s:ByteArray} (h:numOk s=true):Value.int .u8 (numV s:Int)=b8 (UInt8.ofNat (numV s)):=by
 have:=numV_ok h
 unfold b8
 rw [UInt8.toNat_ofNat',Nat.mod_eq_of_lt (by omega)]
theorem b8_reg {s:ByteArray} (h:regOk s=true):Value.int .u8 (regV s)=b8 (UInt8.ofNat (regV s).toNat):=by
 have h1:=regV_lt h
 have h2:0≤regV s:=by
   unfold regV
   unfold regOk at h
   split at h
   next hs=>
     rw [dif_pos hs]
     simp only [Bool.and_eq_true,beq_iff_eq,decide_eq_true_eq] at h
     split <;> omega
   next=>cases h
 unfold b8
 rw [UInt8.toNat_ofNat',Nat.mod_eq_of_lt (by omega),Int.toNat_of_nonneg h2]
theorem PX.Ok.textLe {c:PX} (hc:c.Ok) (i:Nat):(c.text i).size≤maxLen:=by
 unfold maxLen PX.text
 cases h:c.ts[i]? with
 | some t=>have:=(hc.text i t h).1;show t.text.size≤_;omega
 | none=>show ByteArray.empty.size≤_;exact Nat.zero_le _
theorem PX.Ok.wordLe {c:PX} (hc:c.Ok) (i:Nat):(c.word i).size≤maxLen:=by
 unfold PX.word
 split
 · exact hc.textLe i
 · exact Nat.zero_le _
theorem psign_any (str:List UInt8) {W w0:World} {rs:List Res} {c:PX} (hc:c.Ok) {A:Option Addr} {C bp:Nat} {S:Nat→Prop} {s:PS} {Y:List Value} (hp:s.pos≤1000000) (H:Own W none w0 (.blk bp (curC c A C s Y) 66 :: .held S A 3 (rowsT c.ts) :: rs)) :
   Calls Tryz.prog 134 #[.pointer (some ⟨bp,0,none⟩),.string ⟨str.toArray⟩] w0 fun e w'=>Ans W rs (signP c str s) (fun v t e w'=>e = .returned (.tuple #[])∧Own W none w' (.blk bp (curC c A C t Y) 66 :: .held S A 3 (rowsT c.ts) :: rs)) e w':=by
 refine enterF Tryz.func134 rfl Tryz.ntmps134 rfl (fun a F=>?_);refine cSeq (fun K1 hK1=>?_);refine cSR fun K2 hK2=>sMv F rfl rfl rfl (qMv rfl rfl rfl ?_);clear F a;intro a F;refine sCall Tryz.call145 F rfl rfl rfl (pis_any str hc hp H) ?_;rintro e w ⟨rfl,H⟩;refine ⟨_,rfl,?_⟩;clear F a;intro a F;refine sNot F rfl rfl rfl (qNK hK2 ?_);clear hK2;clear F a;intro a F
 refine cIf F rfl (fun h7=>?_) (fun h7=>?_)
 ·
  replace h7:=notT h7
  have hk:c.is s.pos str=false:=by simpa using h7
  refine cReg (sMv F rfl rfl rfl ?_);clear F a;intro a F;refine sCall Tryz.call52 F rfl rfl rfl (pplace_any hc hp H) ?_;rintro e w ⟨rfl,H⟩;refine ⟨_,rfl,?_⟩;clear F a;intro a F;refine sCallP Tryz.call59 F rfl rfl rfl (fail_any _ 50 H) ?_;rintro e w ⟨rfl,H⟩
  refine .inl ⟨_,rfl,?_⟩
  exact And.intro F.nod (Ans.no (by unfold signP;rw [if_neg (by rw [hk];exact Bool.false_ne_true)];rfl) H.tail.tail)
 replace h7:=notF h7
 have hk:c.is s.pos str=true:=by simpa using h7
 refine wp_skip (hK1 _ _ (cReg (sMv F rfl rfl rfl ?_)));clear hK1;clear F a;intro a F;refine sCall Tryz.call102 F rfl rfl rfl (pstep_any hc hp H) ?_;rintro e w ⟨rfl,H⟩;refine ⟨_,rfl,?_⟩;clear F a;intro a F;refine sNil ?_
 first | refine bEnd Tryz.results134 F ?_ | (simp only [Exit.then,Exit.inBlock,if_true];(repeat (first | rw [if_pos rfl] | rw [if_neg (by decide)]));refine bEnd Tryz.results134 F ?_)
 exact Ans.ok (by unfold signP;rw [if_pos hk]) ⟨rfl,H⟩
theorem pend_any {W w0:World} {rs:List Res} {c:PX} (hc:c.Ok) {A:Option Addr} {C bp:Nat} {S:Nat→Prop} {s:PS} {Y:List Value} (hp:s.pos≤1000000) (H:Own W none w0 (.blk bp (curC c A C s Y) 66 :: .held S A 3 (rowsT c.ts) :: rs)) :
   Calls Tryz.prog 56 #[.pointer (some ⟨bp,0,none⟩)] w0 fun e w'=>Ans W rs (endP c s) (fun v t e w'=>e = .returned (.tuple #[])∧Own W none w' (.blk bp (curC c A C t Y) 66 :: .held S A 3 (rowsT c.ts) :: rs)) e w':=by
 refine enterF Tryz.func56 rfl Tryz.ntmps56 rfl (fun a F=>?_);refine cSeq (fun K1 hK1=>?_);refine cSR fun K2 hK2=>sMv F rfl rfl rfl ?_;clear F a;intro a F;refine sCall Tryz.call101 F rfl rfl rfl (pends_any hc hp H) ?_;rintro e w ⟨rfl,H⟩;refine ⟨_,rfl,?_⟩;clear F a;intro a F;refine sNot F rfl rfl rfl (qNK hK2 ?_);clear hK2;clear F a;intro a F
 refine cIf F rfl (fun h4=>?_) (fun h4=>?_)
 ·
  replace h4:=notT h4
  have hk:¬ c.kind s.pos=4:=by simpa using h4
  refine cReg (sMv F rfl rfl rfl ?_);clear F a;intro a F;refine sCall Tryz.call52 F rfl rfl rfl (pplace_any hc hp H) ?_;rintro e w ⟨rfl,H⟩;refine ⟨_,rfl,?_⟩;clear F a;intro a F;refine sCallP Tryz.call59 F rfl rfl rfl (fail_any _ 50 H) ?_;rintro e w ⟨rfl,H⟩
  refine .inl ⟨_,rfl,?_⟩
  exact And.intro F.nod (Ans.no (by unfold endP;rw [if_neg hk];rfl) H.tail.tail)
 replace h4:=notF h4
 have hk:c.kind s.pos=4:=by simpa using h4
 refine wp_skip (hK1 _ _ (cReg (sMv F rfl rfl rfl ?_)));clear hK1;clear F a;intro a F;refine sCall Tryz.call102 F rfl rfl rfl (pstep_any hc hp H) ?_;rintro e w ⟨rfl,H⟩;refine ⟨_,rfl,?_⟩;clear F a;intro a F;refine sNil ?_
 first | refine bEnd Tryz.results56 F ?_ | (simp only [Exit.then,Exit.inBlock,if_true];(repeat (first | rw [if_pos rfl] | rw [if_neg (by decide)]));refine bEnd Tryz.results56 F ?_)
 exact Ans.ok (by unfold endP;rw [if_pos hk]) ⟨rfl,H⟩
theorem pfinish_any {W w0:World} {rs:List Res} {c:PX} (hc:c.Ok) {A:Option Addr} {C bp:Nat} {S:Nat→Prop} {s:PS} {Y:List Value} (hp:s.pos≤1000000) (H:Own W none w0 (.blk bp (curC c A C s Y) 66 :: .held S A 3 (rowsT c.ts) :: rs)) :
   Calls Tryz.prog 57 #[.pointer (some ⟨bp,0,none⟩)] w0 fun e w'=>Ans W rs (if s.pos < c.ts.length then failP c s 50 else .ok () s) (fun v t e w'=>e = .returned (.tuple #[])∧Own W none w' (.blk bp (curC c A C t Y) 66 :: .held S A 3 (rowsT c.ts) :: rs)) e w':=by
 have hfew:=hc.few
 refine enterF Tryz.func57 rfl Tryz.ntmps57 rfl (fun a F=>?_);refine cSeq (fun K1 hK1=>?_);refine cRegRO (by kernel_rfl) H ?_;replace H:=H.drew;refine eTF 0 rfl (by kernel_rfl) F rfl rfl rfl (fun w=>rMv F rfl) H qq0 (qT 1 rfl (by kernel_rfl) rfl rfl rfl rfl (fun a F w H=>rNc F rfl) H qq0 (qTF 2 rfl (by kernel_rfl) rfl rfl rfl (fun a F w=>rFa (f:=1) (k:=1) Tryz.underlying64 rfl Tryz.sizeOf3 rfl rfl F rfl) H qq0 (qT 3 rfl (by kernel_rfl) rfl rfl rfl rfl (fun a F w H=>rLd Tryz.isAgg3 F rfl (H.cell 0 rfl rfl)) H qq0 (qTF 4 rfl (by kernel_rfl) rfl rfl rfl (fun a F w=>rMv F rfl) H qq0 (qT 5 rfl (by kernel_rfl) rfl rfl rfl rfl (fun a F w H=>rNc F rfl) H qq0 (qTF 6 rfl (by kernel_rfl) rfl rfl rfl (fun a F w=>rFa (f:=0) (k:=0) Tryz.underlying64 rfl Tryz.sizeOf62 rfl rfl F rfl) H qq0 (qT 7 rfl (by kernel_rfl) rfl rfl rfl rfl (fun a F w H=>rLd Tryz.isAgg62 F rfl (H.cell 0 rfl rfl)) H qq0 (qT 8 rfl (by kernel_rfl) rfl rfl rfl rfl (fun a F w H=>rLen Tryz.underlying62 F rfl) H qq0 (qTF 9 rfl (by kernel_rfl) rfl rfl rfl (fun a F w=>rBin F rfl rfl bLss) H qq0 ?_)))))))));clear F a;intro a F;refine eNil (k:=10) (by kernel_rfl) ?_;refine hK1 _ _ ?_;clear hK1
 refine cIf F rfl (fun h11=>?_) (fun h11=>?_)
 ·
  replace h11:=of_decide_eq_true h11
  have hk:s.pos < c.ts.length:=by omega
  refine cReg (sMv F rfl rfl rfl ?_);clear F a;intro a F;refine sCall Tryz.call52 F rfl rfl rfl (pplace_any hc hp H) ?_;rintro e w ⟨rfl,H⟩;refine ⟨_,rfl,?_⟩;clear F a;intro a F;refine sCallP Tryz.call59 F rfl rfl rfl (fail_any _ 50 H) ?_;rintro e w ⟨rfl,H⟩
  refine .inl ⟨_,rfl,?_⟩
  exact And.intro F.nod (Ans.no (by rw [if_pos hk];rfl) H.tail.tail)
 replace h11:=of_decide_eq_false h11
 have hk:¬ s.pos < c.ts.length:=by omega
 refine wp_skip ?_
 first | refine bEnd Tryz.results57 F ?_ | (simp only [Exit.then,Exit.inBlock,if_true];(repeat (first | rw [if_pos rfl] | rw [if_neg (by decide)]));refine bEnd Tryz.results57 F ?_)
 exact Ans.ok (by rw [if_neg hk]) ⟨rfl,H⟩
theorem pnum_any {W w0:World} {rs:List Res} {c:PX} (hc:c.Ok) {A:Option Addr} {C bp:Nat} {S:Nat→Prop} {s:PS} {Y:List Value} (hp:s.pos≤1000000) (H:Own W none w0 (.blk bp (curC c A C s Y) 66 :: .held S A 3 (rowsT c.ts) :: rs)) :
   Calls Tryz.prog 135 #[.pointer (some ⟨bp,0,none⟩)] w0 fun e w'=>Ans W rs (numQ c s) (fun v t e w'=>e = .returned (b8 v)∧Own W none w' (.blk bp (curC c A C t Y) 66 :: .held S A 3 (rowsT c.ts) :: rs)) e w':=by
 refine enterF Tryz.func135 rfl Tryz.ntmps135 rfl (fun a F=>?_);refine cSR fun K1 hK1=>sAs F rfl rfl rfl (qNK hK1 (qSR fun K2 hK2=>qMv rfl rfl rfl ?_));clear hK1;clear F a;intro a F;refine sCall Tryz.call100 F rfl rfl rfl (ptoken_any hc hp H) ?_;rintro e w ⟨rfl,H⟩;refine ⟨_,rfl,?_⟩;clear F a;intro a F;refine sAl H Tryz.zeroValue140 F rfl rfl ?_;clear F a H;intro b3 a w F H
 refine sSr H 0 ?si F rfl rfl rfl ?s1 rfl rfl ?_
 case si=>exact info_size Tryz.sizeOf140
 case s1=>first | rfl | (repeat (first | exact one_nil | (apply one_cons;· first | rfl | assumption | exact one_bif rfl rfl)))
 clear H;intro w H;refine nK hK2 (cSR fun K3 hK3=>sFa (f:=1) (k:=1) Tryz.underlying140 rfl Tryz.sizeOf9 rfl rfl F rfl rfl rfl (qLd Tryz.isAgg9 rfl rfl rfl (H.cell 0 rfl rfl) ?_));clear hK2;clear F a;intro a F;refine sCall Tryz.call156 F rfl rfl rfl (num_any (c.text s.pos) _ (hc.textLe _) _ rfl) ?_;rintro e w ⟨rfl,rfl⟩;refine ⟨_,rfl,?_⟩;clear F a;intro a F;refine sMv F rfl rfl rfl (qExt rfl rfl rfl rfl (qExt rfl rfl rfl rfl (qAs rfl rfl rfl (qAs rfl rfl rfl (qNK hK3 ?_)))));clear hK3;clear F a;intro a F;refine cSeq (fun K4 hK4=>?_);refine cSR fun K5 hK5=>sFa (f:=0) (k:=0) Tryz.underlying140 rfl Tryz.sizeOf138 rfl rfl F rfl rfl rfl (qLd Tryz.isAgg138 rfl rfl rfl (H.cell 0 rfl rfl) (qBin rfl rfl rfl rfl bNeq (qMv rfl rfl rfl ?_)));clear F a;intro a F
 refine F.split 17 rfl ?_ ?_ <;> (clear F;intro h17 F)
 ·
  replace h17:=bneT h17
  have hk:¬ (c.kind s.pos=2∧numOk (c.text s.pos)=true):=fun h=>by omega
  refine sSk F rfl rfl (qSk rfl rfl (qPk rfl rfl rfl rfl (qNK hK5 ?_)));clear hK5;clear F a;intro a F;refine cIfT F rfl ?_;refine cReg (sMv F rfl rfl rfl ?_);clear F a;intro a F;refine sCall Tryz.call52 F rfl rfl rfl (pplace_any hc hp H.tail) ?_;rintro e w ⟨rfl,H⟩;refine ⟨_,rfl,?_⟩;clear F a;intro a F;refine sCallP Tryz.call59 F rfl rfl rfl (fail_any _ 50 H) ?_;rintro e w ⟨rfl,H⟩
  refine .inl ⟨_,rfl,?_⟩
  exact And.intro F.nod (Ans.no (by unfold numQ;rw [if_neg hk];rfl) H.tail.tail)
 replace h17:=bneF h17
 have hk0:c.kind s.pos=2:=by omega
 refine sMv F rfl rfl rfl (qNot rfl rfl rfl (qPk rfl rfl rfl rfl (qNK hK5 ?_)));clear hK5;clear F a;intro a F
 refine cIf F rfl (fun h20=>?_) (fun h20=>?_)
 ·
  replace h20:=notT h20
  have hk:¬ (c.kind s.pos=2∧numOk (c.text s.pos)=true):=fun h=>by simp [h.2] at h20
  refine cReg (sMv F rfl rfl rfl ?_);clear F a;intro a F;refine sCall Tryz.call52 F rfl rfl rfl (pplace_any hc hp H.tail) ?_;rintro e w ⟨rfl,H⟩;refine ⟨_,rfl,?_⟩;clear F a;intro a F;refine sCallP Tryz.call59 F rfl rfl rfl (fail_any _ 50 H) ?_;rintro e w ⟨rfl,H⟩
  refine .inl ⟨_,rfl,?_⟩
  exact And.intro F.nod (Ans.no (by unfold numQ;rw [if_neg hk];rfl) H.tail.tail)
 replace h20:=notF h20
 have hk:c.kind s.pos=2∧numOk (c.text s.pos)=true:=⟨hk0,by simpa using h20⟩
 refine wp_skip (hK4 _ _ (cSR fun K6 hK6=>sMv F rfl rfl rfl ?_));clear hK4;clear F a;intro a F;refine sCall Tryz.call102 F rfl rfl rfl (pstep_any hc hp H.tail) ?_;rintro e w ⟨rfl,H⟩;refine ⟨_,rfl,?_⟩;clear F a;intro a F;refine nK hK6 (cSR fun K7 hK7=>sMv F rfl rfl rfl (qAs rfl rfl rfl (qNK hK7 ?_)));clear hK6 hK7;clear F a;intro a F;refine wp_ret ?_;refine bRet Tryz.results135 F rfl ?_
 exact Ans.ok (by unfold numQ;rw [if_pos hk]) ⟨congrArg Ending.returned (b8_num hk.2),H⟩
theorem preg_any {W w0:World} {rs:List Res} {c:PX} (hc:c.Ok) {A:Option Addr} {C bp:Nat} {S:Nat→Prop} {s:PS} {Y:List Value} (hp:s.pos≤1000000) (H:Own W none w0 (.blk bp (curC c A C s Y) 66 :: .held S A 3 (rowsT c.ts) :: rs)) :
   Calls Tryz.prog 138 #[.pointer (some ⟨bp,0,none⟩)] w0 fun e w'=>Ans W rs (regQ c s) (fun v t e w'=>e = .returned (b8 v)∧Own W none w' (.blk bp (curC c A C t Y) 66 :: .held S A 3 (rowsT c.ts) :: rs)) e w':=by
 refine enterF Tryz.func138 rfl Tryz.ntmps138 rfl (fun a F=>?_);refine cSR fun K1 hK1=>sAs F rfl rfl rfl (qNK hK1 (qSR fun K2 hK2=>qMv rfl rfl rfl ?_));clear hK1;clear F a;intro a F;refine sCall Tryz.call54 F rfl rfl rfl (pword_any hc hp H) ?_;rintro e w ⟨rfl,H⟩;refine ⟨_,rfl,?_⟩;clear F a;intro a F;refine sCall Tryz.call116 F rfl rfl rfl (reg_any (c.word s.pos) _ _ rfl) ?_;rintro e w ⟨rfl,rfl⟩;refine ⟨_,rfl,?_⟩;clear F a;intro a F;refine sMv F rfl rfl rfl (qExt rfl rfl rfl rfl (qExt rfl rfl rfl rfl (qAs rfl rfl rfl (qAs rfl rfl rfl (qNK hK2 ?_)))));clear hK2;clear F a;intro a F;refine cSeq (fun K3 hK3=>?_);refine cSR fun K4 hK4=>sMv F rfl rfl rfl (qNot rfl rfl rfl (qNK hK4 ?_));clear hK4;clear F a;intro a F
 refine cIf F rfl (fun h12=>?_) (fun h12=>?_)
 ·
  replace h12:=notT h12
  have hk:¬ regOk (c.word s.pos)=true:=fun h=>by simp [h] at h12
  refine cReg (sMv F rfl rfl rfl ?_);clear F a;intro a F;refine sCall Tryz.call52 F rfl rfl rfl (pplace_any hc hp H) ?_;rintro e w ⟨rfl,H⟩;refine ⟨_,rfl,?_⟩;clear F a;intro a F;refine sCallP Tryz.call59 F rfl rfl rfl (fail_any _ 50 H) ?_;rintro e w ⟨rfl,H⟩
  refine .inl ⟨_,rfl,?_⟩
  exact And.intro F.nod (Ans.no (by unfold regQ;rw [if_neg hk];rfl) H.tail.tail)
 replace h12:=notF h12
 have hk:regOk (c.word s.pos)=true:=by simpa using h12
 refine wp_skip (hK3 _ _ (cSR fun K5 hK5=>sMv F rfl rfl rfl ?_));clear hK3;clear F a;intro a F;refine sCall Tryz.call102 F rfl rfl rfl (pstep_any hc hp H) ?_;rintro e w ⟨rfl,H⟩;refine ⟨_,rfl,?_⟩;clear F a;intro a F;refine nK hK5 (cSR fun K6 hK6=>sMv F rfl rfl rfl (qAs rfl rfl rfl (qNK hK6 ?_)));clear hK5 hK6;clear F a;intro a F;refine wp_ret ?_;refine bRet Tryz.results138 F rfl ?_
 exact Ans.ok (by unfold regQ;rw [if_pos hk]) ⟨congrArg Ending.returned (b8_reg hk),H⟩
theorem parg_any {W w0:World} {rs:List Res} {c:PX} (hc:c.Ok) {A:Option Addr} {C bp:Nat} {S:Nat→Prop} {s:PS} {Y:List Value} (hp:s.pos≤1000000) (H:Own W none w0 (.blk bp (curC c A C s Y) 66 :: .held S A 3 (rowsT c.ts) :: rs)) :
   Calls Tryz.prog 140 #[.pointer (some ⟨bp,0,none⟩)] w0 fun e w'=>Ans W rs (argP' c s) (fun v t e w'=>e = .returned (.agg #[.bool v.1,b8 v.2])∧Own W none w' (.blk bp (curC c A C t Y) 66 :: .held S A 3 (rowsT c.ts) :: rs)) e w':=by
 refine enterF Tryz.func140 rfl Tryz.ntmps140 rfl (fun a F=>?_);refine cSR fun K1 hK1=>?_;refine sAl H Tryz.zeroValue42 F rfl rfl ?_;clear F a H;intro b2 a w F H;refine nK hK1 ?_;clear hK1;refine cSeq (fun K2 hK2=>?_);refine cSR fun K3 hK3=>sMv F rfl rfl rfl ?_;clear F a;intro a F;refine sCall Tryz.call100 F rfl rfl rfl (ptoken_any hc hp (H.selT 3 [1,2,0] rfl rfl)) ?_;rintro e w ⟨rfl,H⟩;refine ⟨_,rfl,?_⟩;clear F a;intro a F;refine sFd (f:=0) Tryz.underlying140 rfl Tryz.isAgg138 F rfl rfl rfl rfl (qBin rfl rfl rfl rfl bEql (qNK hK3 ?_));clear hK3;clear F a;intro a F
 refine cIf F rfl (fun h6=>?_) (fun h6=>?_)
 ·
  replace h6:=beqT h6
  have hk:c.kind s.pos=2:=by omega
  refine cSR fun K4 hK4=>sMv F rfl rfl rfl ?_;clear F a;intro a F;refine sCallP Tryz.call135 F rfl rfl rfl (pnum_any hc hp H) ?_;rintro e w hq9
  rcases hq9.cases with ⟨p9,e9,hn8,rfl,H⟩ | ⟨v,t,hr8,rfl,H⟩
  ·
   refine .inl ⟨_,rfl,?_⟩
   exact And.intro F.nod (Ans.no (by unfold argP';rw [if_pos hk,hn8];rfl) H.tail)
  refine .inr ⟨_,rfl,?_⟩
  clear F a;intro a F;refine sBd (places:=[(0,1),(1,1)]) Tryz.zeroValue42 Tryz.underlying42 (by kernel_rfl) F rfl rfl rfl rfl ?_;clear F a;intro a F
  refine sSr H 2 ?si F rfl rfl rfl ?s1 rfl rfl ?_
  case si=>exact info_size Tryz.sizeOf42
  case s1=>first | rfl | (repeat (first | exact one_nil | (apply one_cons;· first | rfl | assumption | exact one_bif rfl rfl)))
  clear H;intro w H;refine nK hK4 ?_;clear hK4;refine wp_ret ?_;simp only [Exit.then];refine bRetC Tryz.results140 F rfl Tryz.underlying42 rfl H 2 rfl Tryz.sizeOf42 rfl ?_
  first | exact Ans.ok (by unfold argP';rw [if_pos hk,hr8];rfl) ⟨rfl,H.selT 3 [0,1] rfl rfl⟩ | exact Ans.ok (by unfold argP';rw [if_neg hk,hr11];rfl) ⟨rfl,H.selT 3 [0,1] rfl rfl⟩
 replace h6:=beqF h6
 have hk:¬ c.kind s.pos=2:=by omega
 refine wp_skip (hK2 _ _ (cSR fun K5 hK5=>sMv F rfl rfl rfl ?_));clear hK2;clear F a;intro a F;refine sCallP Tryz.call138 F rfl rfl rfl (preg_any hc hp H) ?_;rintro e w hq9
 rcases hq9.cases with ⟨p9,e9,hn11,rfl,H⟩ | ⟨v,t,hr11,rfl,H⟩
 ·
  refine .inl ⟨_,rfl,?_⟩
  exact And.intro F.nod (Ans.no (by unfold argP';rw [if_neg hk,hn11];rfl) H.tail)
 refine .inr ⟨_,rfl,?_⟩
 clear F a;intro a F;refine sBd (places:=[(0,1),(1,1)]) Tryz.zeroValue42 Tryz.underlying42 (by kernel_rfl) F rfl rfl rfl rfl ?_;clear F a;intro a F
 refine sSr H 2 ?si F rfl rfl rfl ?s1 rfl rfl ?_
 case si=>exact info_size Tryz.sizeOf42
 case s1=>first | rfl | (repeat (first | exact one_nil | (apply one_cons;· first | rfl | assumption | exact one_bif rfl rfl)))
 clear H;intro w H;refine nK hK5 ?_;clear hK5;refine wp_ret ?_;refine bRetC Tryz.results140 F rfl Tryz.underlying42 rfl H 2 rfl Tryz.sizeOf42 rfl ?_
 first | exact Ans.ok (by unfold argP';rw [if_pos hk,hr8];rfl) ⟨rfl,H.selT 3 [0,1] rfl rfl⟩ | exact Ans.ok (by unfold argP';rw [if_neg hk,hr11];rfl) ⟨rfl,H.selT 3 [0,1] rfl rfl⟩
theorem pneed_any (b:Bool) {W w0:World} {rs:List Res} {c:PX} (hc:c.Ok) {A:Option Addr} {C bp:Nat} {S:Nat→Prop} {s:PS} {Y:List Value} (hp:s.pos≤1000000) (H:Own W none w0 (.blk bp (curC c A C s Y) 66 :: .held S A 3 (rowsT c.ts) :: rs)) :
   Calls Tryz.prog 64 #[.pointer (some ⟨bp,0,none⟩),.bool b] w0 fun e w'=>Ans W rs (if b then .ok () s else failP c s 50) (fun v t e w'=>e = .returned (.tuple #[])∧Own W none w' (.blk bp (curC c A C t Y) 66 :: .held S A 3 (rowsT c.ts) :: rs)) e w':=by
 refine enterF Tryz.func64 rfl Tryz.ntmps64 rfl (fun a F=>?_);refine cSR fun K1 hK1=>sMv F rfl rfl rfl (qNot rfl rfl rfl (qNK hK1 ?_));clear hK1;clear F a;intro a F
 refine cIf F rfl (fun h5=>?_) (fun h5=>?_)
 ·
  replace h5:=notT h5
  obtain rfl:b=false:=by simpa using h5
  refine cReg (sMv F rfl rfl rfl (qNc rfl rfl rfl (qFa (f:=0) (k:=0) Tryz.underlying66 rfl Tryz.sizeOf64 rfl rfl rfl rfl rfl ?_)));clear F a;intro a F;refine sCall Tryz.call52 F rfl rfl rfl (pplace_any hc hp H) ?_;rintro e w ⟨rfl,H⟩;refine ⟨_,rfl,?_⟩;clear F a;intro a F;refine sCallP Tryz.call59 F rfl rfl rfl (fail_any _ 50 H) ?_;rintro e w ⟨rfl,H⟩
  refine .inl ⟨_,rfl,?_⟩
  exact And.intro F.nod (Ans.no (rfl) H.tail.tail)
 replace h5:=notF h5
 obtain rfl:b=true:=by simpa using h5
 refine wp_skip ?_
 first | refine bEnd Tryz.results64 F ?_ | (simp only [Exit.then,Exit.inBlock,if_true];(repeat (first | rw [if_pos rfl] | rw [if_neg (by decide)]));refine bEnd Tryz.results64 F ?_)
 exact Ans.ok rfl ⟨rfl,H⟩
-- PrC
open Go.Proofs.Tryz
open Go.RowKit
set_option maxRecDepth 100000
theorem need_no {c:PX} {b:Bool} {s:PS} {p e:Nat} (h:(if b then Rs.ok () s else failP c s 50) = .no p e):b=false∧c.place s.pos=p∧50=e:=by
 cases b with
 | true=>cases h
 | false=>cases h;exact ⟨rfl,rfl,rfl⟩
theorem need_ok {c:PX} {b:Bool} {s t:PS} {v:Unit} (h:(if b then Rs.ok () s else failP c s 50) = .ok v t):b=true∧s=t:=by
 cases b with
 | true=>cases h;exact ⟨rfl,rfl⟩
 | false=>cases h
theorem nms_false {W:World} {fx:Bool} {A:Option Addr} {C:Nat} {l:List ByteArray} (h:fx=false):Res.nms W fx A C l = .rws 9 1 (.slice A l.length C) (strC l):=by subst h;rfl
theorem strC_snoc (l:List ByteArray) (w:ByteArray):strC l++[[.string w]]=strC (l++[w]):=by simp [strC]
theorem strC_length (l:List ByteArray):(strC l).length=l.length:=by simp [strC]
theorem idxI_lt {o:Option Nat}:idxI o < 0 ↔ o=none:=by
 cases o with
 | none=>simp [idxI]
 | some k=>simp [idxI]
section
variable {c:PX} {s:PS}
theorem loc_bad (h:nameOk (c.word s.pos)=false):locP c s=failP c s 50:=by unfold locP;rw [if_neg (by rw [h];exact Bool.false_ne_true)]
theorem loc_old (h:nameOk (c.word s.pos)=true) {k:Nat} (hi:idxOf (c.word s.pos) s.names 0=some k):locP c s = .ok (UInt8.ofNat k) s.next:=by unfold locP;rw [if_pos h,hi]
theorem loc_fix (h:nameOk (c.word s.pos)=true) (hi:idxOf (c.word s.pos) s.names 0=none) (hf:c.fixed=true):locP c s=failP c s 6:=by unfold locP;rw [if_pos h,hi];exact if_pos hf
theorem loc_full (h:nameOk (c.word s.pos)=true) (hi:idxOf (c.word s.pos) s.names 0=none) (hf:¬ c.fixed=true) (h6:s.names.length=6):locP c s=failP c s 5:=by unfold locP;rw [if_pos h,hi];exact (if_neg hf).trans (if_pos h6)
theorem loc_new (h:nameOk (c.word s.pos)=true) (hi:idxOf (c.word s.pos) s.names 0=none) (hf:¬ c.fixed=true) (h6:¬ s.names.length=6):locP c s = .ok (UInt8.ofNat s.names.length) ⟨s.pos+1,s.names++[c.word s.pos]⟩:=by unfold locP;rw [if_pos h,hi];exact (if_neg hf).trans (if_neg h6)
end
theorem b8_rem (k:Nat):b8 (UInt8.ofNat (k % 256))=b8 (UInt8.ofNat k):=by
 congr 1
 apply UInt8.toNat_inj.1
 rw [UInt8.toNat_ofNat',UInt8.toNat_ofNat'];omega
theorem ploc_any {W w0:World} {rs:List Res} {c:PX} (hc:c.Ok) {A:Option Addr} {C bp:Nat} {S:Nat→Prop} {s:PS} {B:Option Addr} {D:Nat} {X:List Value} (hp:s.pos≤999000) (hnl:s.names.length≤c.lim) (H:Own W none w0 (.blk bp (parC c A C s B D X) 66 :: .held S A 3 (rowsT c.ts) :: .nms W c.fixed B D s.names :: rs)) :
   Calls Tryz.prog 133 #[.pointer (some ⟨bp,0,none⟩),.slice B s.names.length D] w0 fun e w'=>Ans W rs (locP c s) (fun v t e w'=>e = .returned (b8 v)∧∃ B D,Own W none w' (.blk bp (parC c A C t B D X) 66 :: .held S A 3 (rowsT c.ts) :: .nms W c.fixed B D t.names :: rs)) e w':=by
 have hlim:=c.lim_le
 refine enterF func133 rfl ntmps133 rfl (fun a F=>?_);refine cSR fun K1 hK1=>sAs F rfl rfl rfl (qNK hK1 (qSR fun K2 hK2=>qMv rfl rfl rfl (qMv rfl rfl rfl (qNc rfl rfl rfl (qFa (f:=0) (k:=0) underlying66 rfl sizeOf64 rfl rfl rfl rfl rfl ?_)))));clear hK1;clear F a;intro a F;refine sCall call54 F rfl rfl rfl (pword_any hc (by omega) H) ?_;rintro e w ⟨rfl,H⟩;refine ⟨_,rfl,?_⟩;clear F a;intro a F;refine sCall call119 F rfl rfl rfl (name_any (c.word s.pos) _ (hc.wordLe _) _ rfl) ?_;rintro e w ⟨rfl,rfl⟩;refine ⟨_,rfl,?_⟩;clear F a;intro a F;refine sCallP call64 F rfl rfl rfl (pneed_any _ hc (s:=s) (by omega) H) ?_;rintro e w hq9
 rcases hq9.cases with ⟨p9,e9,hn12,rfl,H⟩ | ⟨v12,t12,hr12,rfl,H⟩
 ·
  refine .inl ⟨_,rfl,?_⟩
  exact And.intro F.nod (Ans.no (by obtain ⟨h1,rfl,rfl⟩:=need_no hn12;exact loc_bad h1) H.tail)
 obtain ⟨hnm,rfl⟩:=need_ok hr12
 refine .inr ⟨_,rfl,?_⟩
 clear F a;intro a F;refine nK hK2 (cSR fun K3 hK3=>sMv F rfl rfl rfl (qMv rfl rfl rfl (qNc rfl rfl rfl (qFa (f:=0) (k:=0) underlying66 rfl sizeOf64 rfl rfl rfl rfl rfl ?_))));clear hK2;clear F a;intro a F;refine sCall call54 F rfl rfl rfl (pword_any hc (by omega) H) ?_;rintro e w ⟨rfl,H⟩;refine ⟨_,rfl,?_⟩;clear F a;intro a F;refine sCall call150 F rfl rfl rfl (index_any B D s.names (c.word s.pos) _ (nmsAt H 2 rfl) (by omega)) ?_;rintro e w ⟨rfl,hb⟩;replace H:=H.grow hb;clear hb;refine ⟨_,rfl,?_⟩;clear F a;intro a F;refine sAs F rfl rfl rfl (qNK hK3 ?_);clear hK3;clear F a;intro a F;refine cSeq (fun K4 hK4=>?_);refine cSR fun K5 hK5=>sMv F rfl rfl rfl (qBin rfl rfl rfl rfl bLss (qNK hK5 ?_));clear hK5;clear F a;intro a F
 refine cIf F rfl (fun h20=>?_) (fun h20=>?_)
 ·
  replace h20:=of_decide_eq_true h20
  have hix:=idxI_lt.1 h20
  refine cSR fun K6 hK6=>sMv F rfl rfl rfl (qLen underlying22 rfl rfl rfl (qAs rfl rfl rfl (qNK hK6 ?_)));clear hK6;clear F a;intro a F;refine cSeq (fun K7 hK7=>?_);refine cSR fun K8 hK8=>sMv F rfl rfl rfl (qNc rfl rfl rfl (qFa (f:=2) (k:=4) underlying66 rfl sizeOf4 rfl rfl rfl rfl rfl (qLd isAgg4 rfl rfl rfl (H.cell 0 rfl rfl) (qNK hK8 ?_))));clear hK8;clear F a;intro a F
  refine cIf F rfl (fun h26=>?_) (fun h26=>?_)
  ·
   refine cReg (sMv F rfl rfl rfl (qNc rfl rfl rfl (qFa (f:=0) (k:=0) underlying66 rfl sizeOf64 rfl rfl rfl rfl rfl ?_)));clear F a;intro a F;refine sCall call52 F rfl rfl rfl (pplace_any hc (s:=s) (by omega) H) ?_;rintro e w ⟨rfl,H⟩;refine ⟨_,rfl,?_⟩;clear F a;intro a F;refine sCallP call59 F rfl rfl rfl (fail_any _ 6 H) ?_;rintro e w ⟨rfl,H⟩
   refine .inl ⟨_,rfl,?_⟩
   exact And.intro F.nod (Ans.no (loc_fix hnm hix h26) H.tail.tail.tail)
  have hfx:¬ c.fixed=true:=by rw [h26];exact Bool.false_ne_true
  refine wp_skip (hK7 _ _ ?_);clear hK7;refine cSeq (fun K9 hK9=>?_);refine cSR fun K10 hK10=>sMv F rfl rfl rfl (qBin rfl rfl rfl rfl bEql (qNK hK10 ?_));clear hK10;clear F a;intro a F
  refine cIf F rfl (fun h33=>?_) (fun h33=>?_)
  ·
   replace h33:=beqT h33
   have h6:s.names.length=6:=by omega
   refine cReg (sMv F rfl rfl rfl (qNc rfl rfl rfl (qFa (f:=0) (k:=0) underlying66 rfl sizeOf64 rfl rfl rfl rfl rfl ?_)));clear F a;intro a F;refine sCall call52 F rfl rfl rfl (pplace_any hc (s:=s) (by omega) H) ?_;rintro e w ⟨rfl,H⟩;refine ⟨_,rfl,?_⟩;clear F a;intro a F;refine sCallP call59 F rfl rfl rfl (fail_any _ 5 H) ?_;rintro e w ⟨rfl,H⟩
   refine .inl ⟨_,rfl,?_⟩
   exact And.intro F.nod (Ans.no (loc_full hnm hix hfx h6) H.tail.tail.tail)
  replace h33:=beqF h33
  have h6:¬ s.names.length=6:=by omega
  rw [nms_false h26] at H;refine wp_skip (hK9 _ _ ?_);clear hK9;refine cRegRO (by kernel_rfl) H ?_;replace H:=H.drew;refine eTF 0 rfl (by kernel_rfl) F rfl rfl rfl (fun w=>rMv F rfl) H qq0 (qTF 1 rfl (by kernel_rfl) rfl rfl rfl (fun a F w=>rMv F rfl) H qq0 (qT 2 rfl (by kernel_rfl) rfl rfl rfl rfl (fun a F w H=>rNc F rfl) H qq0 (qTF 3 rfl (by kernel_rfl) rfl rfl rfl (fun a F w=>rFa (f:=1) (k:=3) underlying66 rfl sizeOf22 rfl rfl F rfl) H qq0 (qT 4 rfl (by kernel_rfl) rfl rfl rfl rfl (fun a F w H=>rLd isAgg22 F rfl (H.cell 0 rfl rfl)) H qq0 (qTF 5 rfl (by kernel_rfl) rfl rfl rfl (fun a F w=>rMv F rfl) H qq0 (qT 6 rfl (by kernel_rfl) rfl rfl rfl rfl (fun a F w H=>rNc F rfl) H qq0 (qTF 7 rfl (by kernel_rfl) rfl rfl rfl (fun a F w=>rFa (f:=0) (k:=0) underlying66 rfl sizeOf64 rfl rfl F rfl) H qq0 ?_)))))));clear F a;intro a F;refine eOne (k:=8) (i:=8) rfl (by kernel_rfl) F rfl (oCall call54 F rfl rfl (pword_any hc (s:=s) (by omega) H) ?_);rintro e w ⟨rfl,H⟩;refine ⟨_,rfl,?_⟩;clear F a;intro a F;refine eKeep H ?_;refine eOne (k:=9) (i:=9) rfl (by kernel_rfl) F rfl (oBs1 H underlying22 sizeOf9 zeroValue9 rfl F rfl rfl rfl ?_);clear F a H;intro b48 a w F H;refine eKeep H.tail ?_
  refine eOne (k:=10) (i:=10) rfl (by kernel_rfl) F rfl (oApp1 (bytes:=16) H 3 underlying22 typeInfo9 rfl rfl rfl rfl rfl rfl F rfl rfl rfl rfl (H.whole 0 rfl) rfl ?s1 ?s2 ?_)
  case s1=>first | rfl | (repeat (first | exact one_nil | (apply one_cons;· first | rfl | assumption | exact one_bif rfl rfl)))
  case s2=>(simp only [strC,List.length_map];omega)
  clear F a H;intro A49 c49 a w F H;refine ePartO (by kernel_rfl) H ?_;refine eT 11 rfl (by kernel_rfl) F rfl rfl rfl rfl (fun w H=>rNc F rfl) H qq0 (qTF 12 rfl (by kernel_rfl) rfl rfl rfl (fun a F w=>rFa (f:=1) (k:=3) underlying66 rfl sizeOf22 rfl rfl F rfl) H qq0 ?_);clear F a;intro a F;refine eOne (k:=13) (i:=13) rfl (by kernel_rfl) F rfl (oSt H 1 sizeOf22 F rfl rfl rfl rfl rfl ?_);clear H;intro w H;refine ePartO (by kernel_rfl) H ?_;refine eNil (k:=14) (by kernel_rfl) ?_;rw [strC_snoc,strC_length] at H
  replace H:Own W none w (.blk bp (parC c A C ⟨s.pos,s.names++[c.word s.pos]⟩ A49 c49 X) 66 :: .held S A 3 (rowsT c.ts) :: .nms W c.fixed A49 c49 (s.names++[c.word s.pos]) :: rs):=by
    rw [nms_false h26]
    exact H.tail
  refine hK4 _ _ (cSR fun K11 hK11=>sMv F rfl rfl rfl (qNc rfl rfl rfl (qFa (f:=0) (k:=0) underlying66 rfl sizeOf64 rfl rfl rfl rfl rfl ?_)));clear hK4;clear F a;intro a F;refine sCall call102 F rfl rfl rfl (pstep_any hc (by show s.pos≤_;omega) H) ?_;rintro e w ⟨rfl,H⟩;refine ⟨_,rfl,?_⟩;clear F a;intro a F;refine nK hK11 (cSR fun K12 hK12=>sMv F rfl rfl rfl ?_);clear hK11;clear F a;intro a F
  refine sBin F rfl rfl rfl rfl (bRemN (j:=256) ?_) ?_
  focus omega
  clear F a;intro a F;refine sCv underlying3 underlying5 F rfl rfl rfl (wrap8 _) (qAs rfl rfl rfl (qNK hK12 ?_));clear hK12;clear F a;intro a F;refine wp_ret ?_;refine bRet results133 F rfl ?_
  first | exact Ans.ok (loc_old hnm hix) ⟨congrArg Ending.returned (b8_rem _),_,_,H⟩ | exact Ans.ok (loc_new hnm hix hfx h6) ⟨congrArg Ending.returned (b8_rem _),_,_,H⟩
 replace h20:=of_decide_eq_false h20
 obtain ⟨k,hix⟩:∃ k,idxOf (c.word s.pos) s.names 0=some k:=by
   cases hh:idxOf (c.word s.pos) s.names 0 with
   | none=>exact absurd (idxI_lt.2 hh) (by omega)
   | some k=>exact ⟨k,rfl⟩
 rw [hix,show idxI (some k)=(k:Int) from rfl] at F;refine wp_skip (hK4 _ _ (cSR fun K13 hK13=>sMv F rfl rfl rfl (qNc rfl rfl rfl (qFa (f:=0) (k:=0) underlying66 rfl sizeOf64 rfl rfl rfl rfl rfl ?_))));clear hK4;clear F a;intro a F;refine sCall call102 F rfl rfl rfl (pstep_any hc (by show s.pos≤_;omega) H) ?_;rintro e w ⟨rfl,H⟩;refine ⟨_,rfl,?_⟩;clear F a;intro a F;refine nK hK13 (cSR fun K14 hK14=>sMv F rfl rfl rfl ?_);clear hK13;clear F a;intro a F
 refine sBin F rfl rfl rfl rfl (bRemN (j:=256) ?_) ?_
 focus omega
 clear F a;intro a F;refine sCv underlying3 underlying5 F rfl rfl rfl (wrap8 _) (qAs rfl rfl rfl (qNK hK14 ?_));clear hK14;clear F a;intro a F;refine wp_ret ?_;refine bRet results133 F rfl ?_
 first | exact Ans.ok (loc_old hnm hix) ⟨congrArg Ending.returned (b8_rem _),_,_,H⟩ | exact Ans.ok (loc_new hnm hix hfx h6) ⟨congrArg Ending.returned (b8_rem _),_,_,H⟩
-- PrD
open Go.Proofs.Tryz
open Go.RowKit
set_option maxRecDepth 100000
theorem pneedF_any {W w0:World} {rs:List Res} {c:PX} (hc:c.Ok) {A:Option Addr} {C bp:Nat} {S:Nat→Prop} {s:PS} {Y:List Value} (hp:s.pos≤1000000) (H:Own W none w0 (.blk bp (curC c A C s Y) 66 :: .held S A 3 (rowsT c.ts) :: rs)) :
   Calls Tryz.prog 64 #[.pointer (some ⟨bp,0,none⟩),.bool false] w0 fun q w'=>q = .panicked (flt (c.place s.pos) 50)∧Own W none w' rs:=
 (pneed_any false hc hp H).mono fun _ _ h=>h
theorem kw_lit {c:PX} {i:Nat} (l:List UInt8):((c.word i).toList == (⟨l.toArray⟩:ByteArray).toList)=c.kw i l:=by rw [lit_toList l];rfl
theorem loc_six {c:PX} {s:PS} (h:s.names.length≤c.lim):(locP c s).All fun _ t=>t.names.length≤c.lim∧t.pos=s.pos+1:=by
 unfold locP failP
 refine .ite (fun _=>?_) (fun _=>.no)
 cases idxOf (c.word s.pos) s.names 0 with
 | some k=>exact .ok ⟨h,rfl⟩
 | none=>exact .ite (fun _=>.no) (fun hf=>.ite (fun _=>.no) (fun h6=>.ok ⟨by show (s.names++[c.word s.pos]).length≤c.lim;rw [PX.lim_six hf] at h ⊢;rw [List.length_append,List.length_singleton];omega,rfl⟩))
theorem pfence_any {W w0:World} {rs:List Res} {c:PX} (hc:c.Ok) {A:Option Addr} {C bp:Nat} {S:Nat→Prop} {s:PS} {B:Option Addr} {D:Nat} {X:List Value} (hp:s.pos≤999000) (hnl:s.names.length≤c.lim) (H:Own W none w0 (.blk bp (parC c A C s B D X) 66 :: .held S A 3 (rowsT c.ts) :: .nms W c.fixed B D s.names :: rs)) :
   Calls Tryz.prog 136 #[.pointer (some ⟨bp,0,none⟩)] w0 fun e w'=>Ans W rs (fenceP c s) (fun v t e w'=>e = .returned (.agg v.cells.toArray)∧∃ B D,Own W none w' (.blk bp (parC c A C t B D X) 66 :: .held S A 3 (rowsT c.ts) :: .nms W c.fixed B D t.names :: rs)) e w':=by
 refine enterF func136 rfl ntmps136 rfl (fun a F=>?_);refine cSR fun K1 hK1=>?_;refine sAl H zeroValue44 F rfl rfl ?_;clear F a H;intro b2 a w F H;refine nK hK1 (cSR fun K2 hK2=>sMv F rfl rfl rfl (qNc rfl rfl rfl (qFa (f:=0) (k:=0) underlying66 rfl sizeOf64 rfl rfl rfl rfl rfl ?_)));clear hK1;clear F a;intro a F;refine sCall call102 F rfl rfl rfl (pstep_any hc (by omega) (H.selT 4 [1,2,3,0] rfl rfl)) ?_;rintro e w ⟨rfl,H⟩;refine ⟨_,rfl,?_⟩;clear F a;intro a F;refine nK hK2 (cSR fun K3 hK3=>sBd (places:=[(0,1),(1,1),(2,1),(3,2),(5,2),(7,1),(8,1),(9,1)]) zeroValue44 underlying44 (by kernel_rfl) F rfl rfl rfl rfl ?_);clear hK2;clear F a;intro a F;refine sAl H zeroValue44 F rfl rfl ?_;clear F a H;intro b3 a w F H
 refine sSr H 0 ?si F rfl rfl rfl ?s1 rfl rfl ?_
 case si=>exact info_size sizeOf44
 case s1=>first | rfl | (repeat (first | exact one_nil | (apply one_cons;· first | rfl | assumption | exact one_bif rfl rfl)))
 clear H;intro w H;refine nK hK3 ?_;clear hK3;refine cSeq (fun K4 hK4=>?_);refine cSR fun K5 hK5=>sMv F rfl rfl rfl (qNc rfl rfl rfl (qFa (f:=0) (k:=0) underlying66 rfl sizeOf64 rfl rfl rfl rfl rfl ?_));clear F a;intro a F;refine sCall call139 F rfl rfl rfl (ptakes_any [108,111,97,100,115] hc (by simp only [PS.next];omega) (H.selT 5 [1,2,3,0,4] rfl rfl)) ?_;rintro e w ⟨rfl,H⟩;refine ⟨_,rfl,?_⟩;clear F a;intro a F;refine nK hK5 ?_;clear hK5
 refine cIf F rfl (fun h12=>?_) (fun h12=>?_)
 ·
  rw [if_pos h12] at H
  have k1:c.kw (s.pos+1) [108,111,97,100,115]=true:=h12
  refine cReg (sFa (f:=6) (k:=8) underlying44 rfl sizeOf5 rfl rfl F rfl rfl rfl ?_);clear F a;intro a F;refine sSt H 3 sizeOf5 F rfl rfl rfl rfl rfl rfl ?_;clear H;intro w H;refine nK hK4 (cSR fun K6 hK6=>?_);clear hK4
  refine sLr underlying44 rfl ?si F rfl rfl rfl (H.whole 3 rfl) ?_
  case si=>exact info_size sizeOf44
  clear F a;intro a F
  refine sSr H 4 ?si F rfl rfl rfl ?s1 rfl rfl ?_
  case si=>exact info_size sizeOf44
  case s1=>first | rfl | (repeat (first | exact one_nil | (apply one_cons;· first | rfl | assumption | exact one_bif rfl rfl)))
  clear H;intro w H;refine nK hK6 ?_;clear hK6;refine wp_ret ?_;refine bRetC results136 F rfl underlying44 rfl H 4 rfl sizeOf44 rfl ?_
  first
  | exact Ans.ok (by unfold fenceP;rw [if_pos k1]) ⟨rfl,_,_,H.selT 5 [0,1,2] rfl rfl⟩
  | exact Ans.ok (by unfold fenceP;rw [if_neg k1,if_pos k2]) ⟨rfl,_,_,H.selT 5 [0,1,2] rfl rfl⟩
  | exact Ans.ok (by unfold fenceP;rw [if_neg k1,if_neg k2]) ⟨rfl,_,_,H.selT 5 [0,1,2] rfl rfl⟩
 rw [if_neg (by rw [h12];exact Bool.false_ne_true)] at H
 have k1:¬ c.kw (s.pos+1) [108,111,97,100,115]=true:=by show ¬ c.kw s.next.pos _=true;rw [h12];exact Bool.false_ne_true
 refine cSR fun K7 hK7=>sMv F rfl rfl rfl (qNc rfl rfl rfl (qFa (f:=0) (k:=0) underlying66 rfl sizeOf64 rfl rfl rfl rfl rfl ?_));clear F a;intro a F;refine sCall call139 F rfl rfl rfl (ptakes_any [115,116,111,114,101,115] hc (by simp only [PS.next];omega) H) ?_;rintro e w ⟨rfl,H⟩;refine ⟨_,rfl,?_⟩;clear F a;intro a F;refine nK hK7 ?_;clear hK7
 refine cIf F rfl (fun h17=>?_) (fun h17=>?_)
 ·
  rw [if_pos h17] at H
  have k2:c.kw (s.pos+1) [115,116,111,114,101,115]=true:=h17
  refine cReg (sFa (f:=6) (k:=8) underlying44 rfl sizeOf5 rfl rfl F rfl rfl rfl ?_);clear F a;intro a F;refine sSt H 3 sizeOf5 F rfl rfl rfl rfl rfl rfl ?_;clear H;intro w H;refine nK hK4 (cSR fun K8 hK8=>?_);clear hK4
  refine sLr underlying44 rfl ?si F rfl rfl rfl (H.whole 3 rfl) ?_
  case si=>exact info_size sizeOf44
  clear F a;intro a F
  refine sSr H 4 ?si F rfl rfl rfl ?s1 rfl rfl ?_
  case si=>exact info_size sizeOf44
  case s1=>first | rfl | (repeat (first | exact one_nil | (apply one_cons;· first | rfl | assumption | exact one_bif rfl rfl)))
  clear H;intro w H;refine nK hK8 ?_;clear hK8;refine wp_ret ?_;refine bRetC results136 F rfl underlying44 rfl H 4 rfl sizeOf44 rfl ?_
  first
  | exact Ans.ok (by unfold fenceP;rw [if_pos k1]) ⟨rfl,_,_,H.selT 5 [0,1,2] rfl rfl⟩
  | exact Ans.ok (by unfold fenceP;rw [if_neg k1,if_pos k2]) ⟨rfl,_,_,H.selT 5 [0,1,2] rfl rfl⟩
  | exact Ans.ok (by unfold fenceP;rw [if_neg k1,if_neg k2]) ⟨rfl,_,_,H.selT 5 [0,1,2] rfl rfl⟩
 rw [if_neg (by rw [h17];exact Bool.false_ne_true)] at H
 have k2:¬ c.kw (s.pos+1) [115,116,111,114,101,115]=true:=by show ¬ c.kw s.next.pos _=true;rw [h17];exact Bool.false_ne_true
 refine wp_skip (hK4 _ _ (cSR fun K9 hK9=>?_));clear hK4
 refine sLr underlying44 rfl ?si F rfl rfl rfl (H.whole 3 rfl) ?_
 case si=>exact info_size sizeOf44
 clear F a;intro a F
 refine sSr H 4 ?si F rfl rfl rfl ?s1 rfl rfl ?_
 case si=>exact info_size sizeOf44
 case s1=>first | rfl | (repeat (first | exact one_nil | (apply one_cons;· first | rfl | assumption | exact one_bif rfl rfl)))
 clear H;intro w H;refine nK hK9 ?_;clear hK9;refine wp_ret ?_;refine bRetC results136 F rfl underlying44 rfl H 4 rfl sizeOf44 rfl ?_
 first
 | exact Ans.ok (by unfold fenceP;rw [if_pos k1]) ⟨rfl,_,_,H.selT 5 [0,1,2] rfl rfl⟩
 | exact Ans.ok (by unfold fenceP;rw [if_neg k1,if_pos k2]) ⟨rfl,_,_,H.selT 5 [0,1,2] rfl rfl⟩
 | exact Ans.ok (by unfold fenceP;rw [if_neg k1,if_neg k2]) ⟨rfl,_,_,H.selT 5 [0,1,2] rfl rfl⟩
set_option maxHeartbeats 4000000 in
theorem pstore_any {W w0:World} {rs:List Res} {c:PX} (hc:c.Ok) {A:Option Addr} {C bp:Nat} {S:Nat→Prop} {s:PS} {B:Option Addr} {D:Nat} {X:List Value} (hp:s.pos≤999000) (hnl:s.names.length≤c.lim) (H:Own W none w0 (.blk bp (parC c A C s B D X) 66 :: .held S A 3 (rowsT c.ts) :: .nms W c.fixed B D s.names :: rs)) :
   Calls Tryz.prog 118 #[.pointer (some ⟨bp,0,none⟩)] w0 fun e w'=>Ans W rs (storeP c s) (fun v t e w'=>e = .returned (.agg v.cells.toArray)∧∃ B D,Own W none w' (.blk bp (parC c A C t B D X) 66 :: .held S A 3 (rowsT c.ts) :: .nms W c.fixed B D t.names :: rs)) e w':=by
 refine enterF func118 rfl ntmps118 rfl (fun a F=>?_);refine cSR fun K1 hK1=>?_;refine sAl H zeroValue44 F rfl rfl ?_;clear F a H;intro b2 a w F H;refine nK hK1 (cSR fun K2 hK2=>sMv F rfl rfl rfl (qMv rfl rfl rfl (qNc rfl rfl rfl (qFa (f:=1) (k:=3) underlying66 rfl sizeOf22 rfl rfl rfl rfl rfl (qLd isAgg22 rfl rfl rfl (H.cell 1 rfl rfl) ?_)))));clear hK1;clear F a;intro a F;refine sCallP call133 F rfl rfl rfl (ploc_any hc hp hnl (H.selT 4 [1,2,3,0] rfl rfl)) ?_;rintro e w hq9
 rcases hq9.cases with ⟨p9,e9,hn9,rfl,H⟩ | ⟨v9,t9,hr9,rfl,B9,D9,H⟩
 ·
  refine .inl ⟨_,rfl,?_⟩
  exact And.intro F.nod (Ans.no (by unfold storeP;rw [hn9];rfl) H.tail)
 obtain ⟨hn6,hp9⟩:=loc_six hnl v9 t9 hr9
 refine .inr ⟨_,rfl,?_⟩
 clear F a;intro a F;refine sBd (places:=[(0,1),(1,1),(2,1),(3,2),(5,2),(7,1),(8,1),(9,1)]) zeroValue44 underlying44 (by kernel_rfl) F rfl rfl rfl rfl ?_;clear F a;intro a F;refine sAl H zeroValue44 F rfl rfl ?_;clear F a H;intro b3 a w F H
 refine sSr H 0 ?si F rfl rfl rfl ?s1 rfl rfl ?_
 case si=>exact info_size sizeOf44
 case s1=>first | rfl | (repeat (first | exact one_nil | (apply one_cons;· first | rfl | assumption | exact one_bif rfl rfl)))
 clear H;intro w H;refine nK hK2 (cSR fun K3 hK3=>sMv F rfl rfl rfl (qNc rfl rfl rfl (qFa (f:=0) (k:=0) underlying66 rfl sizeOf64 rfl rfl rfl rfl rfl ?_)));clear hK2;clear F a;intro a F;refine sCallP call134 F rfl rfl rfl (psign_any [61] hc (by omega) (H.selT 5 [1,2,3,0,4] rfl rfl)) ?_;rintro e w hq9
 rcases hq9.cases with ⟨p9,e9,hn14,rfl,H⟩ | ⟨v14,t14,hr14,rfl,H⟩
 ·
  refine .inl ⟨_,rfl,?_⟩
  exact And.intro F.nod (Ans.no (by unfold storeP;rw [hr9];show (signP c [61] t9).bind _=_;rw [hn14];rfl) H.tail.tail.tail)
 obtain rfl:=(signP_all v14 t14 hr14).2
 refine .inr ⟨_,rfl,?_⟩
 clear F a;intro a F;refine nK hK3 (cSR fun K4 hK4=>sMv F rfl rfl rfl (qNc rfl rfl rfl (qFa (f:=0) (k:=0) underlying66 rfl sizeOf64 rfl rfl rfl rfl rfl ?_)));clear hK3;clear F a;intro a F;refine sCallP call140 F rfl rfl rfl (parg_any hc (by simp only [PS.next];omega) H) ?_;rintro e w hq9
 rcases hq9.cases with ⟨p9,e9,hn18,rfl,H⟩ | ⟨v18,t18,hr18,rfl,H⟩
 ·
  refine .inl ⟨_,rfl,?_⟩
  exact And.intro F.nod (Ans.no (by unfold storeP;rw [hr9];show (signP c [61] t9).bind _=_;rw [hr14];show (argP' c t9.next).bind _=_;rw [hn18];rfl) H.tail.tail.tail)
 obtain rfl:=(argP_all v18 t18 hr18).2.1
 refine .inr ⟨_,rfl,?_⟩
 clear F a;intro a F;refine sFa (f:=3) (k:=3) underlying44 rfl sizeOf42 rfl rfl F rfl rfl rfl ?_;clear F a;intro a F
 refine sSr H 3 ?si F rfl rfl rfl ?s1 rfl rfl ?_
 case si=>exact info_size sizeOf42
 case s1=>first | rfl | (repeat (first | exact one_nil | (apply one_cons;· first | rfl | assumption | exact one_bif rfl rfl)))
 clear H;intro w H;refine nK hK4 ?_;clear hK4;refine cSeq (fun K5 hK5=>?_);refine cSR fun K6 hK6=>sMv F rfl rfl rfl (qNc rfl rfl rfl (qFa (f:=0) (k:=0) underlying66 rfl sizeOf64 rfl rfl rfl rfl rfl ?_));clear F a;intro a F;refine sCall call139 F rfl rfl rfl (ptakes_any [114,101,108] hc (by simp only [PS.next];omega) H) ?_;rintro e w ⟨rfl,H⟩;refine ⟨_,rfl,?_⟩;clear F a;intro a F;refine nK hK6 ?_;clear hK6
 refine cIf F rfl (fun h23=>?_) (fun h23=>?_)
 ·
  rw [if_pos h23] at H
  have k1:c.kw t9.next.next.pos [114,101,108]=true:=h23
  refine cReg (sFa (f:=6) (k:=8) underlying44 rfl sizeOf5 rfl rfl F rfl rfl rfl ?_);clear F a;intro a F;refine sSt H 3 sizeOf5 F rfl rfl rfl rfl rfl rfl ?_;clear H;intro w H;refine nK hK5 (cSR fun K7 hK7=>?_);clear hK5
  refine sLr underlying44 rfl ?si F rfl rfl rfl (H.whole 3 rfl) ?_
  case si=>exact info_size sizeOf44
  clear F a;intro a F
  refine sSr H 4 ?si F rfl rfl rfl ?s1 rfl rfl ?_
  case si=>exact info_size sizeOf44
  case s1=>first | rfl | (repeat (first | exact one_nil | (apply one_cons;· first | rfl | assumption | exact one_bif rfl rfl)))
  clear H;intro w H;refine nK hK7 ?_;clear hK7;refine wp_ret ?_;refine bRetC results118 F rfl underlying44 rfl H 4 rfl sizeOf44 rfl ?_
  first
  | exact Ans.ok (by unfold storeP;rw [hr9];show (signP c [61] t9).bind _=_;rw [hr14];show (argP' c t9.next).bind _=_;rw [hr18];exact if_pos k1) ⟨rfl,_,_,H.selT 5 [0,1,2] rfl rfl⟩
  | exact Ans.ok (by unfold storeP;rw [hr9];show (signP c [61] t9).bind _=_;rw [hr14];show (argP' c t9.next).bind _=_;rw [hr18];exact if_neg k1) ⟨rfl,_,_,H.selT 5 [0,1,2] rfl rfl⟩
 rw [if_neg (by rw [h23];exact Bool.false_ne_true)] at H
 have k1:¬ c.kw t9.next.next.pos [114,101,108]=true:=by rw [h23];exact Bool.false_ne_true
 refine wp_skip (hK5 _ _ (cSR fun K8 hK8=>?_));clear hK5
 refine sLr underlying44 rfl ?si F rfl rfl rfl (H.whole 3 rfl) ?_
 case si=>exact info_size sizeOf44
 clear F a;intro a F
 refine sSr H 4 ?si F rfl rfl rfl ?s1 rfl rfl ?_
 case si=>exact info_size sizeOf44
 case s1=>first | rfl | (repeat (first | exact one_nil | (apply one_cons;· first | rfl | assumption | exact one_bif rfl rfl)))
 clear H;intro w H;refine nK hK8 ?_;clear hK8;refine wp_ret ?_;refine bRetC results118 F rfl underlying44 rfl H 4 rfl sizeOf44 rfl ?_
 first
 | exact Ans.ok (by unfold storeP;rw [hr9];show (signP c [61] t9).bind _=_;rw [hr14];show (argP' c t9.next).bind _=_;rw [hr18];exact if_pos k1) ⟨rfl,_,_,H.selT 5 [0,1,2] rfl rfl⟩
 | exact Ans.ok (by unfold storeP;rw [hr9];show (signP c [61] t9).bind _=_;rw [hr14];show (argP' c t9.next).bind _=_;rw [hr18];exact if_neg k1) ⟨rfl,_,_,H.selT 5 [0,1,2] rfl rfl⟩
end Go.Proofs.YtkchaoajegkadaaGreatDoor
