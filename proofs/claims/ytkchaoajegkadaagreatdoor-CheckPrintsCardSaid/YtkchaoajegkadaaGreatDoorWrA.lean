/-
  WALK2. Package print: the writer: put, newline, words. Conditions: the writer lies in memory; what is put is not too long.
-/
import Derived.Test.YtkchaoajegkadaaGreatDoorJn18
import Derived.Test.YtkchaoajegkadaaGreatDoorJn6
import Derived.Test.YtkchaoajegkadaaGreatDoorJn2
set_option linter.unusedSimpArgs false
set_option linter.unusedVariables false
namespace Go.Proofs.YtkchaoajegkadaaGreatDoor
open Go.Proofs.Tryz
open Go.RowKit
set_option maxRecDepth 100000
def WrAt (W w:World) (rs:List Res) (bp:Nat) (lv:Value) (v:WS):Prop:=
 ∃ (A:Option Addr) (C:Nat) (tx:List UInt8) (wi lg:Bool),Own W none w (.blk bp [.slice A tx.length C,.bool wi,.bool lg,lv] 58 :: .rws 5 1 (.slice A tx.length C) (bytC tx) :: rs)∧tx.length≤16384∧(lg=false∧tx=v.1∧wi=v.2∨lg=true∧16384 < v.1.length)
theorem WrAt.long {W w:World} {rs:List Res} {bp:Nat} {lv:Value} {v u:WS} {A:Option Addr} {C:Nat} {tx:List UInt8} {wi:Bool} (H:Own W none w (.blk bp [.slice A tx.length C,.bool wi,.bool true,lv] 58 :: .rws 5 1 (.slice A tx.length C) (bytC tx) :: rs)) (ht:tx.length≤16384) (hv:16384 < v.1.length) (hu:v.1.length≤u.1.length):WrAt W w rs bp lv u:=
 ⟨A,C,tx,wi,true,H,ht,.inr ⟨rfl,by omega⟩⟩
theorem wput_any (s:ByteArray) (hs:s.size≤140737488355328) {W w0:World} {rs:List Res} {bp:Nat} {lv:Value} {v:WS} (hW:WrAt W w0 rs bp lv v) :
   Calls Tryz.prog 93 #[.pointer (some ⟨bp,0,none⟩),.string s] w0 fun e w'=>e = .returned (.tuple #[])∧WrAt W w' rs bp lv (v.1++s.data.toList,v.2):=by
 obtain ⟨A,C,tx,wi,lg,H,ht,hv⟩:=hW
 have hsl:s.data.toList.length=s.size:=Array.length_toList
 refine enterF func93 rfl ntmps93 rfl (fun a F=>?_);refine cSeq (fun K1 hK1=>?_);refine cSR fun K2 hK2=>sMv F rfl rfl rfl (qNc rfl rfl rfl (qFa (f:=2) (k:=2) underlying56 rfl sizeOf4 rfl rfl rfl rfl rfl (qLd isAgg4 rfl rfl rfl (H.cell 0 rfl rfl) (qMv rfl rfl rfl ?_))));clear F a;intro a F
 refine F.split 8 rfl ?_ ?_ <;> (clear F;intro h8 F)
 ·
  have hlg:lg=true:=h8
  subst hlg;refine sSk F rfl rfl (qSk rfl rfl (qSk rfl rfl (qSk rfl rfl (qSk rfl rfl (qSk rfl rfl (qSk rfl rfl (qSk rfl rfl (qSk rfl rfl (qPk rfl rfl rfl rfl (qNK hK2 ?_))))))))));clear hK2;clear F a;intro a F;refine cIfT F rfl ?_;refine cSR fun K3 hK3=>sMv F rfl rfl rfl (qNc rfl rfl rfl (qFa (f:=2) (k:=2) underlying56 rfl sizeOf4 rfl rfl rfl rfl rfl ?_));clear F a;intro a F;refine sSt H 0 sizeOf4 F rfl rfl rfl rfl rfl rfl ?_;clear H;intro w H;refine nK hK3 ?_;clear hK3;refine wp_ret ?_;simp only [Exit.then];refine bEndR results93 F ?_
  first
  | (rcases hv with ⟨h,_⟩ | ⟨_,h⟩
     · cases h
     · exact ⟨rfl,WrAt.long H ht h (by simp only [List.length_append];omega)⟩)
  | (rcases hv with ⟨_,h1,h2⟩ | ⟨h,_⟩
     · exact ⟨rfl,_,_,tx,wi,true,H,ht,.inr ⟨rfl,by simp only [List.length_append,← h1];omega⟩⟩
     · cases h)
  | (rcases hv with ⟨_,h1,h2⟩ | ⟨h,_⟩
     · exact ⟨rfl,_,_,tx++s.data.toList,wi,false,H,by rw [List.length_append];omega,.inl ⟨rfl,by rw [h1],h2⟩⟩
     · cases h)
 have hlg:lg=false:=h8
 subst hlg;refine sMv F rfl rfl rfl (qNc rfl rfl rfl (qFa (f:=0) (k:=0) underlying56 rfl sizeOf23 rfl rfl rfl rfl rfl (qLd isAgg23 rfl rfl rfl (H.cell 0 rfl rfl) (qLen underlying23 rfl rfl rfl (qMv rfl rfl rfl (qLenS underlying9 rfl rfl rfl ?_))))));clear F a;intro a F
 refine sBin F rfl rfl rfl rfl (bAddN ?_) ?_
 focus omega
 clear F a;intro a F;refine sBin F rfl rfl rfl rfl bGtr (qPk rfl rfl rfl rfl (qNK hK2 ?_));clear hK2;clear F a;intro a F
 refine cIf F rfl (fun h18=>?_) (fun h18=>?_)
 ·
  replace h18:=of_decide_eq_true h18;refine cSR fun K4 hK4=>sMv F rfl rfl rfl (qNc rfl rfl rfl (qFa (f:=2) (k:=2) underlying56 rfl sizeOf4 rfl rfl rfl rfl rfl ?_));clear F a;intro a F;refine sSt H 0 sizeOf4 F rfl rfl rfl rfl rfl rfl ?_;clear H;intro w H;refine nK hK4 ?_;clear hK4;refine wp_ret ?_;simp only [Exit.then];refine bEndR results93 F ?_
  first
  | (rcases hv with ⟨h,_⟩ | ⟨_,h⟩
     · cases h
     · exact ⟨rfl,WrAt.long H ht h (by simp only [List.length_append];omega)⟩)
  | (rcases hv with ⟨_,h1,h2⟩ | ⟨h,_⟩
     · exact ⟨rfl,_,_,tx,wi,true,H,ht,.inr ⟨rfl,by simp only [List.length_append,← h1];omega⟩⟩
     · cases h)
  | (rcases hv with ⟨_,h1,h2⟩ | ⟨h,_⟩
     · exact ⟨rfl,_,_,tx++s.data.toList,wi,false,H,by rw [List.length_append];omega,.inl ⟨rfl,by rw [h1],h2⟩⟩
     · cases h)
 replace h18:=of_decide_eq_false h18
 have hsm:tx.length+s.size≤16384:=by omega
 refine wp_skip (hK1 _ _ (cReg (sMv F rfl rfl rfl (qMv rfl rfl rfl (qNc rfl rfl rfl (qFa (f:=0) (k:=0) underlying56 rfl sizeOf23 rfl rfl rfl rfl rfl (qLd isAgg23 rfl rfl rfl (H.cell 0 rfl rfl) (qMv rfl rfl rfl ?_))))))));clear hK1;clear F a;intro a F;refine sAppS H 1 underlying23 underlying9 typeInfo5 rfl rfl rfl F rfl rfl rfl rfl rfl (Nat.le_trans hsm (by decide)) ?_;clear F a H;intro A28 c28 a w F H;refine sNc F rfl rfl rfl (qFa (f:=0) (k:=0) underlying56 rfl sizeOf23 rfl rfl rfl rfl rfl ?_);clear F a;intro a F;refine sSt H 0 sizeOf23 F rfl rfl rfl rfl rfl rfl ?_;clear H;intro w H;refine sNil ?_
 first | refine bEnd results93 F ?_ | (simp only [Exit.then,Exit.inBlock,if_true];(repeat (first | rw [if_pos rfl] | rw [if_neg (by decide)]));refine bEnd results93 F ?_)
 first
 | (rcases hv with ⟨h,_⟩ | ⟨_,h⟩
    · cases h
    · exact ⟨rfl,WrAt.long H ht h (by simp only [List.length_append];omega)⟩)
 | (rcases hv with ⟨_,h1,h2⟩ | ⟨h,_⟩
    · exact ⟨rfl,_,_,tx,wi,true,H,ht,.inr ⟨rfl,by simp only [List.length_append,← h1];omega⟩⟩
    · cases h)
 | (rcases hv with ⟨_,h1,h2⟩ | ⟨h,_⟩
    · exact ⟨rfl,_,_,tx++s.data.toList,wi,false,H,by rw [List.length_append];omega,.inl ⟨rfl,by rw [h1],h2⟩⟩
    · cases h)
theorem wnewline_any {W w0:World} {rs:List Res} {bp:Nat} {lv:Value} {v:WS} (hW:WrAt W w0 rs bp lv v) :
   Calls Tryz.prog 45 #[.pointer (some ⟨bp,0,none⟩)] w0 fun e w'=>e = .returned (.tuple #[])∧WrAt W w' rs bp lv (lineW v):=by
 refine enterF func45 rfl ntmps45 rfl (fun a F=>?_);refine cSR fun K1 hK1=>sMv F rfl rfl rfl ?_;clear F a;intro a F;refine sCall call93 F rfl rfl rfl (wput_any ⟨#[10]⟩ (by decide) hW) ?_;rintro e w ⟨rfl,hW⟩
 obtain ⟨A,C,tx,wi,lg,H,ht,hv⟩:=hW
 refine ⟨_,rfl,?_⟩;clear F a;intro a F;refine nK hK1 (cReg (sMv F rfl rfl rfl (qNc rfl rfl rfl (qFa (f:=1) (k:=1) underlying56 rfl sizeOf4 rfl rfl rfl rfl rfl ?_))));clear hK1;clear F a;intro a F;refine sSt H 0 sizeOf4 F rfl rfl rfl rfl rfl rfl ?_;clear H;intro w H;refine sNil ?_
 first | refine bEnd results45 F ?_ | (simp only [Exit.then,Exit.inBlock,if_true];(repeat (first | rw [if_pos rfl] | rw [if_neg (by decide)]));refine bEnd results45 F ?_)
 rcases hv with ⟨h1,h2,h3⟩ | ⟨h1,h2⟩
 · exact ⟨rfl,A,C,tx,false,lg,H,ht,.inl ⟨h1,h2,rfl⟩⟩
 · exact ⟨rfl,A,C,tx,false,lg,H,ht,.inr ⟨h1,h2⟩⟩
def wd (l:List ByteArray):List (List UInt8):=l.map fun s=>s.data.toList
theorem wordsW_snoc (v:WS) (l:List ByteArray) (s:ByteArray):wordsW v (wd (l++[s]))=wordW (wordsW v (wd l)) s.data.toList:=by
 unfold wordsW wd
 rw [List.map_append,List.foldl_append];rfl
set_option maxHeartbeats 4000000 in
theorem wwords_any (l:List ByteArray) (A:Option Addr) (C:Nat) {S:Nat→Prop} (hl:l.length≤1000000) (hs:∀ s ∈ l,s.size≤140737488355328) {W w0:World} {rs:List Res} {bp:Nat} {lv:Value} {v:WS} (hW:WrAt W w0 (.held S A 1 (strC l) :: rs) bp lv v) :
   Calls Tryz.prog 44 #[.pointer (some ⟨bp,0,none⟩),.slice A l.length C] w0 fun e w'=>e = .returned (.tuple #[])∧WrAt W w' (.held S A 1 (strC l) :: rs) bp lv (wordsW v (wd l)):=by
 obtain ⟨A0,C0,tx0,wi0,lg0,H,ht0,hv0⟩:=hW
 refine enterF func44 rfl ntmps44 rfl (fun a F=>?_);refine cSR fun K1 hK1=>sMv F rfl rfl rfl (qLen underlying22 rfl rfl rfl (qMv rfl rfl rfl (qNK hK1 ?_)));clear hK1;clear F a;intro a F;refine wp_block ?_
 refine cLoopR [0,6,7] (fun m ups w=>∃ i:Nat,m=l.length - i∧ups=[(8,.int .i64 ((i:Nat):Int))]∧i≤l.length∧WrAt W w (.held S A 1 (strC l) :: rs) bp lv (wordsW v (wd (l.take i)))) F (l.length) [(8,.int .i64 ((0:Nat):Int))] (by repeat (first | exact SubR.nil | (apply SubR.cons;· rfl))) ?_ ?_ ?_
 · exact ⟨0,rfl,rfl,Nat.zero_le _,A0,C0,tx0,wi0,lg0,H,ht0,hv0⟩
 · repeat (first | exact trivial | refine Le.cons rfl ?_)
 clear F
 clear H
 intro m ups a w hI F
 obtain ⟨i,rfl,rfl,hi,A1,C1,tx,wi,lg,H,ht,hv⟩:=hI
 refine cSR fun K2 hK2=>sBin F rfl rfl rfl rfl bLss (qNK hK2 ?_);clear hK2;clear F a;intro a F;refine cSeq (fun K3 hK3=>?_)
 refine cIf F rfl (fun h9=>?_) (fun h9=>?_)
 ·
  replace h9:=of_decide_eq_true h9
  obtain ⟨x,hx⟩:∃ x,l[i]? = some x:=⟨_,List.getElem?_eq_getElem (by omega)⟩
  have hxs:=hs x (List.mem_of_getElem? hx)
  have htk:l.take (i+1)=l.take i++[x]:=by obtain ⟨h1,h2⟩:=List.getElem?_eq_some_iff.1 hx;rw [List.take_succ_eq_append_getElem h1,h2]
  obtain ⟨sb,so,rfl,_⟩:=H.held 2 rfl i _ (by unfold strC;rw [List.getElem?_map,hx];rfl)
  refine wp_skip (hK3 _ _ ?_);clear hK3;refine cSeq (fun K4 hK4=>?_);refine wp_block ?_;refine cSR fun K5 hK5=>?_
  refine sIx underlying22 sizeOf9 F rfl rfl rfl rfl ?_ ?_
  focus (first | omega | decide | (simp;omega))
  clear F a;intro a F
  refine sLd isAgg9 F rfl rfl rfl ((heldRow H 2 rfl (by unfold strC;rw [List.getElem?_map,hx];rfl)) 0 _ rfl) ?_;clear F a;intro a F
  refine sAs F rfl rfl rfl (qNK hK5 ?_);clear hK5;clear F a;intro a F;refine cSeq (fun K6 hK6=>?_);refine cSR fun K7 hK7=>sMv F rfl rfl rfl (qNc rfl rfl rfl (qFa (f:=0) (k:=0) underlying58 rfl sizeOf56 rfl rfl rfl rfl rfl (qFa (f:=1) (k:=1) underlying56 rfl sizeOf4 rfl rfl rfl rfl rfl (qLd isAgg4 rfl rfl rfl (H.cell 0 rfl rfl) (qNK hK7 ?_)))));clear hK7;clear F a;intro a F
  refine cIf F rfl (fun h16=>?_) (fun h16=>?_)
  ·
   have hw1:wi=true:=h16
   refine cReg (sMv F rfl rfl rfl (qNc rfl rfl rfl (qFa (f:=0) (k:=0) underlying58 rfl sizeOf56 rfl rfl rfl rfl rfl ?_)));clear F a;intro a F;refine sCall call93 F rfl rfl rfl (wput_any ⟨#[32]⟩ (by decide) ⟨A1,C1,tx,wi,lg,H,ht,hv⟩) ?_;rintro e w ⟨rfl,hW⟩
   obtain ⟨u,hU,hJ⟩:∃ u:WS,WrAt W w (.held S (some ⟨sb,so,none⟩) 1 (strC l) :: rs) bp lv u∧(16384 < (wordsW v (wd (l.take i))).1.length∧(wordsW v (wd (l.take i))).1.length≤u.1.length∨u.1=(wordsW v (wd (l.take i))).1++(if (wordsW v (wd (l.take i))).2 then [32] else [])):=by
     refine ⟨_,hW,?_⟩
     rcases hv with ⟨_,_,h3⟩ | ⟨_,h2⟩
     · right;rw [← h3,hw1];rfl
     · exact .inl ⟨h2,by simp only [List.length_append];omega⟩
   obtain ⟨A2,C2,tx2,wi2,lg2,H,ht2,hv2⟩:=hU
   refine ⟨_,rfl,?_⟩;clear F a;intro a F;refine nK hK6 (cSR fun K8 hK8=>sMv F rfl rfl rfl (qNc rfl rfl rfl (qFa (f:=0) (k:=0) underlying58 rfl sizeOf56 rfl rfl rfl rfl rfl (qMv rfl rfl rfl ?_))));clear hK6;clear F a;intro a F;refine sCall call93 F rfl rfl rfl (wput_any x hxs (v:=u) ⟨A2,C2,tx2,wi2,lg2,H,ht2,hv2⟩) ?_;rintro e w ⟨rfl,hW⟩
   obtain ⟨A3,C3,tx3,wi3,lg3,H,ht3,hv3⟩:=hW
   refine ⟨_,rfl,?_⟩;clear F a;intro a F;refine nK hK8 (cReg (sMv F rfl rfl rfl (qNc rfl rfl rfl (qFa (f:=0) (k:=0) underlying58 rfl sizeOf56 rfl rfl rfl rfl rfl (qFa (f:=1) (k:=1) underlying56 rfl sizeOf4 rfl rfl rfl rfl rfl ?_)))));clear hK8;clear F a;intro a F;refine sSt H 0 sizeOf4 F rfl rfl rfl rfl rfl rfl ?_;clear H;intro w H;refine nK hK4 (cReg ?_);clear hK4
   refine sBin F rfl rfl rfl rfl (bAddN (j:=1) ?_) ?_
   focus omega
   clear F a;intro a F;refine sMv F rfl rfl rfl ?_;clear F a;intro a F;refine sNil ?_
   have hfin:lg3=false∧tx3=(wordsW v (wd (l.take (i+1)))).1∧true=(wordsW v (wd (l.take (i+1)))).2∨lg3=true∧16384 < (wordsW v (wd (l.take (i+1)))).1.length:=by
     rw [htk,wordsW_snoc]
     rcases hv3 with ⟨h1,h2,_⟩ | ⟨h1,h2⟩
     · left
       refine ⟨h1,?_,rfl⟩
       rcases hJ with ⟨h4,h5⟩ | h4
       · rw [h2] at ht3
         simp only [List.length_append] at ht3
         omega
       · rw [h2,h4];rfl
     · right
       refine ⟨h1,?_⟩
       simp only [List.length_append] at h2
       simp only [wordW,List.length_append]
       rcases hJ with ⟨h4,h5⟩ | h4
       · omega
       · rw [h4,List.length_append] at h2;omega
   exact ⟨_,by omega,_,⟨i+1,rfl,rfl,by omega,A3,C3,tx3,true,lg3,H,ht3,hfin⟩,F.to (by repeat (first | exact trivial | refine Le.cons rfl ?_))⟩
  have hw1:wi=false:=h16
  obtain ⟨u,hU,hJ⟩:∃ u:WS,WrAt W w (.held S (some ⟨sb,so,none⟩) 1 (strC l) :: rs) bp lv u∧(16384 < (wordsW v (wd (l.take i))).1.length∧(wordsW v (wd (l.take i))).1.length≤u.1.length∨u.1=(wordsW v (wd (l.take i))).1++(if (wordsW v (wd (l.take i))).2 then [32] else [])):=by
    refine ⟨wordsW v (wd (l.take i)),⟨A1,C1,tx,wi,lg,H,ht,hv⟩,?_⟩
    rcases hv with ⟨_,_,h3⟩ | ⟨_,h2⟩
    · right;rw [← h3,hw1];simp
    · exact .inl ⟨h2,Nat.le_refl _⟩
  obtain ⟨A2,C2,tx2,wi2,lg2,H,ht2,hv2⟩:=hU
  refine wp_skip (hK6 _ _ (cSR fun K9 hK9=>sMv F rfl rfl rfl (qNc rfl rfl rfl (qFa (f:=0) (k:=0) underlying58 rfl sizeOf56 rfl rfl rfl rfl rfl (qMv rfl rfl rfl ?_)))));clear hK6;clear F a;intro a F;refine sCall call93 F rfl rfl rfl (wput_any x hxs (v:=u) ⟨A2,C2,tx2,wi2,lg2,H,ht2,hv2⟩) ?_;rintro e w ⟨rfl,hW⟩
  obtain ⟨A3,C3,tx3,wi3,lg3,H,ht3,hv3⟩:=hW
  refine ⟨_,rfl,?_⟩;clear F a;intro a F;refine nK hK9 (cReg (sMv F rfl rfl rfl (qNc rfl rfl rfl (qFa (f:=0) (k:=0) underlying58 rfl sizeOf56 rfl rfl rfl rfl rfl (qFa (f:=1) (k:=1) underlying56 rfl sizeOf4 rfl rfl rfl rfl rfl ?_)))));clear hK9;clear F a;intro a F;refine sSt H 0 sizeOf4 F rfl rfl rfl rfl rfl rfl ?_;clear H;intro w H;refine nK hK4 (cReg ?_);clear hK4
  refine sBin F rfl rfl rfl rfl (bAddN (j:=1) ?_) ?_
  focus omega
  clear F a;intro a F;refine sMv F rfl rfl rfl ?_;clear F a;intro a F;refine sNil ?_
  have hfin:lg3=false∧tx3=(wordsW v (wd (l.take (i+1)))).1∧true=(wordsW v (wd (l.take (i+1)))).2∨lg3=true∧16384 < (wordsW v (wd (l.take (i+1)))).1.length:=by
    rw [htk,wordsW_snoc]
    rcases hv3 with ⟨h1,h2,_⟩ | ⟨h1,h2⟩
    · left
      refine ⟨h1,?_,rfl⟩
      rcases hJ with ⟨h4,h5⟩ | h4
      · rw [h2] at ht3
        simp only [List.length_append] at ht3
        omega
      · rw [h2,h4];rfl
    · right
      refine ⟨h1,?_⟩
      simp only [List.length_append] at h2
      simp only [wordW,List.length_append]
      rcases hJ with ⟨h4,h5⟩ | h4
      · omega
      · rw [h4,List.length_append] at h2;omega
  exact ⟨_,by omega,_,⟨i+1,rfl,rfl,by omega,A3,C3,tx3,true,lg3,H,ht3,hfin⟩,F.to (by repeat (first | exact trivial | refine Le.cons rfl ?_))⟩
 replace h9:=of_decide_eq_false h9;refine wp_exit ?_
 first | refine bEnd results44 F ?_ | (simp only [Exit.then,Exit.inBlock,if_true];(repeat (first | rw [if_pos rfl] | rw [if_neg (by decide)]));refine bEnd results44 F ?_)
 have hil:i=l.length:=by omega
 subst hil;rw [List.take_length] at hv
 exact ⟨rfl,A1,C1,tx,wi,lg,H,ht,hv⟩
theorem wwords1 (l:List ByteArray) {b C:Nat} {bt:TypeId} (hl:l.length≤1000) (hs:∀ s ∈ l,s.size≤140737488355328) {W w0:World} {rs:List Res} {bp:Nat} {lv:Value} {v:WS} {A:Option Addr} {C0:Nat} {tx:List UInt8} {wi lg:Bool}
   (H:Own W none w0 (.blk b (l.map Value.string) bt :: .blk bp [.slice A tx.length C0,.bool wi,.bool lg,lv] 58 :: .rws 5 1 (.slice A tx.length C0) (bytC tx) :: rs)) (ht:tx.length≤16384) (hv:lg=false∧tx=v.1∧wi=v.2∨lg=true∧16384 < v.1.length) :
   Calls Tryz.prog 44 #[.pointer (some ⟨bp,0,none⟩),.slice (some ⟨b,0,none⟩) l.length C] w0 fun e w'=>e = .returned (.tuple #[])∧WrAt W w' rs bp lv (wordsW v (wd l)):=by
 have hb:=H.blk 0 rfl
 have H1:=(H.seen (.held (· = b) (some ⟨b,0,none⟩) 1 (strC l)) (show ∀ (j:Nat) (cs:List Value),(strC l)[j]? = some cs→∃ b' off,some ⟨b,0,none⟩=some (⟨b',off,none⟩:Addr)∧b'=b∧w0.rangeAt b' (off+j * 1) cs from fun j cs hj=>by
   unfold strC at hj
   rw [List.getElem?_map] at hj
   obtain ⟨s,hs,rfl⟩:=Option.map_eq_some_iff.1 hj
   refine ⟨b,0,rfl,rfl,fun k u hk=>?_⟩
   have hk0:k=0:=by have:=(List.getElem?_eq_some_iff.1 hk).1;simp at this;exact this
   subst hk0
   cases hk
   have:=hb.cell j (v:=.string s) (by rw [List.getElem?_map,hs];rfl)
   simpa using this) (fun c hc=>hc)).selT 3 [1,2,0] rfl rfl
 refine (wwords_any l (some ⟨b,0,none⟩) C (by omega) hs (v:=v) ⟨A,C0,tx,wi,lg,H1,ht,hv⟩).mono fun e w' h=>?_
 obtain ⟨rfl,A3,C3,tx3,wi3,lg3,H3,ht3,hv3⟩:=h
 exact ⟨rfl,A3,C3,tx3,wi3,lg3,H3.selT 3 [0,1] rfl rfl,ht3,hv3⟩
end Go.Proofs.YtkchaoajegkadaaGreatDoor
