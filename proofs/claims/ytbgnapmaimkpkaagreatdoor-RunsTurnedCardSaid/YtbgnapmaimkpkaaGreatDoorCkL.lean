/-
  Package check: isWord, locsRight. Conditions: the program lies in memory.
 
  Package check: demands, Right. Conditions: the program lies in memory; block 0 holds the table of needs.
 
  Plain Lean: what a valid program is. Conditions: none.
-/
import Derived.Test.YtbgnapmaimkpkaaGreatDoorCkK
import Derived.Test.YtbgnapmaimkpkaaGreatDoorLexK
set_option linter.unusedSimpArgs false
set_option linter.unusedVariables false
namespace Go.Proofs.YtbgnapmaimkpkaaGreatDoor
open Go.Proofs.Tryz
open Go.RowKit
def oneWord (s:ByteArray):Bool:=(lexBad s).isNone && (match toks s with | [t,_]=>t.kind == 1 && t.text.toList == s.toList | _=>false)
theorem lexPost_form {s:ByteArray} {w w':World} {e:Ending} (h:LexPost s w e w'):∃ (sv:Value) (p:Nat) (f:Int),e = .returned (.tuple #[sv,.int .i64 (p:Int),.int .i64 f])∧Below w.heap.size w w' ∧
   ((f=0∧lexBad s=none∧w'.ownsRow w.heap.size 185 3 sv (toks s).length (cellsOf (toks s)))∨(f ≠ 0∧lexBad s ≠ none∧sv = .slice none 0 0)):=by
 obtain ⟨h1,⟨p,f,h2,h3⟩ | ⟨h2,sv,h3,h4,_⟩⟩:=h
 · refine ⟨_,p,f,h3,h1,.inr ⟨?_,by rw [h2];simp,rfl⟩⟩
   unfold lexBad at h2
   split at h2
   · cases h2;decide
   · obtain ⟨t,ht,he⟩:=Option.map_eq_some_iff.1 h2
     cases he
     have:∀ l t,firstBad l=some t→faultOf t ≠ 0:=by
       intro l
       induction l with
       | nil=>intro t h;cases h
       | cons a r ih=>
         intro t h
         unfold firstBad at h
         split at h
         · exact ih t h
         · cases h;assumption
     exact this _ _ ht
 · exact ⟨sv,0,0,h3,h1,.inl ⟨rfl,h2,h4⟩⟩
theorem owns_form {w:World} {base n:Nat} {e:TypeId} {sz:Nat} {sv:Value} {xs:List Value} (h:w.ownsRow base e sz sv n xs):∃ A C,sv = .slice A n C∧(∀ j v,xs[j]? = some v→∃ g,A=some ⟨g,0,none⟩∧w.cell? ⟨g,j,none⟩=some v):=by
 obtain ⟨hx,⟨rfl,rfl⟩ | ⟨g,cap,cur,rfl,_,h2,_,_,h5,h6⟩⟩:=h
 · exact ⟨none,0,rfl,fun j v hj=>by rw [Nat.zero_mul] at hx;rw [List.length_eq_zero_iff.1 hx] at hj;simp at hj⟩
 · refine ⟨_,cap,rfl,fun j v hj=>⟨g,rfl,?_⟩⟩
   rw [← h6,List.getElem?_take] at hj
   split at hj
   · simp [World.cell?,h2];simpa using hj
   · cases hj
theorem isWord_any (s:ByteArray) (w0:World) (hs:s.size≤maxLen):Calls Tryz.prog 68 #[.string s] w0 fun e w'=>e = .returned (.bool (oneWord s))∧Below w0.heap.size w0 w':=by
 have H:=Own.start w0 none
 refine enterF func68 rfl ntmps68 rfl (fun a F=>?_);refine cSR fun K1 hK1=>sAs F rfl rfl rfl (qNK hK1 (qSR fun K2 hK2=>qMv rfl rfl rfl ?_));clear hK1;clear F a;intro a F;refine sCall call118 F rfl rfl rfl (lex_any s _ hs) ?_;rintro e w hp
 obtain ⟨sv,p,f,rfl,hb,hp⟩:=lexPost_form hp
 replace H:=H.grow hb;clear hb
 obtain ⟨A,n,C,rfl,hh⟩:∃ A n C,sv = .slice A n C∧((f=0∧lexBad s=none∧n=(toks s).length∧(∀ j v,(cellsOf (toks s))[j]? = some v→∃ g,A=some ⟨g,0,none⟩∧w.cell? ⟨g,j,none⟩=some v))∨(f ≠ 0∧lexBad s ≠ none)):=by
   rcases hp with ⟨h1,h2,h3⟩ | ⟨h1,h2,h3⟩
   · obtain ⟨A,C,h4,h5⟩:=owns_form h3
     exact ⟨A,_,C,h4,.inl ⟨h1,h2,rfl,h5⟩⟩
   · exact ⟨_,_,_,h3,.inr ⟨h1,h2⟩⟩
 refine ⟨_,rfl,?_⟩;clear F a;intro a F;refine sMv F rfl rfl rfl (qExt rfl rfl rfl rfl (qExt rfl rfl rfl rfl (qExt rfl rfl rfl rfl (qAs rfl rfl rfl (qAs rfl rfl rfl (qAs rfl rfl rfl (qNK hK2 (qSR fun K3 hK3=>qMv rfl rfl rfl (qBin rfl rfl rfl rfl bEql (qMv rfl rfl rfl ?_))))))))));clear hK2;clear F a;intro a F
 refine F.split 14 rfl ?_ ?_ <;> (clear F;intro h14 F)
 ·
  replace h14:=beqT h14
  have hk:lexBad s=none∧n=(toks s).length∧(∀ j v,(cellsOf (toks s))[j]? = some v→∃ g,A=some ⟨g,0,none⟩∧w.cell? ⟨g,j,none⟩=some v):=by
    rcases hh with ⟨_,h2⟩ | ⟨h2,_⟩
    · exact h2
    · exact absurd h14 h2
  obtain ⟨hb0,hn,hcs⟩:=hk
  refine sMv F rfl rfl rfl (qLen underlying180 rfl rfl rfl (qBin rfl rfl rfl rfl bEql (qPk rfl rfl rfl rfl (qMv rfl rfl rfl ?_))));clear F a;intro a F
  refine F.split 19 rfl ?_ ?_ <;> (clear F;intro h19 F)
  ·
   replace h19:=beqT h19
   have h2:(toks s).length=2:=by omega
   obtain ⟨t,u,htk⟩:∃ t u,toks s=[t,u]:=by match toks s,h2 with | [t,u],_=>exact ⟨t,u,rfl⟩
   rw [htk] at hcs
   obtain ⟨q,rfl,c0⟩:=hcs 0 _ rfl
   obtain ⟨q',hq',c1⟩:=hcs 1 _ rfl
   cases hq'
   refine sMv F rfl rfl rfl ?_;clear F a;intro a F
   refine sIx (j:=0) underlying180 sizeOf185 F rfl rfl rfl rfl ?_ ?_
   focus (first | omega | decide | (simp;omega))
   clear F a;intro a F;refine sFa (f:=0) underlying185 rfl sizeOf183 rfl rfl F rfl rfl rfl (qLd isAgg183 rfl rfl rfl c0 (qBin rfl rfl rfl rfl bEql (qPk rfl rfl rfl rfl (qMv rfl rfl rfl ?_))));clear F a;intro a F
   refine F.split 26 rfl ?_ ?_ <;> (clear F;intro h26 F)
   ·
    replace h26:=beqT h26
    have hk1:(t.kind == 1)=true:=by simp;omega
    refine sMv F rfl rfl rfl ?_;clear F a;intro a F
    refine sIx (j:=0) underlying180 sizeOf185 F rfl rfl rfl rfl ?_ ?_
    focus (first | omega | decide | (simp;omega))
    clear F a;intro a F;refine sFa (f:=1) underlying185 rfl sizeOf9 rfl rfl F rfl rfl rfl (qLd isAgg9 rfl rfl rfl c1 (qMv rfl rfl rfl (qBin rfl rfl rfl rfl bStrEq (qPk rfl rfl rfl rfl (qAs rfl rfl rfl (qNK hK3 ?_))))));clear hK3;clear F a;intro a F;refine wp_ret ?_;refine bRet results68 F rfl ?_
    first
      | exact ⟨retB (by rw [oneWord,hb0,Bool.false_and]),H.below⟩
      | exact ⟨retB (by rw [oneWord,hb0,htk];simp only [hk1];rfl),H.below⟩
      | exact ⟨retB (by rw [oneWord,hb0];symm;rw [Bool.and_eq_false_iff];right;split <;> simp_all),H.below⟩
   replace h26:=beqF h26
   have hk1:(t.kind == 1)=false:=by simp;omega
   refine sSk F rfl rfl (qSk rfl rfl (qSk rfl rfl (qSk rfl rfl (qSk rfl rfl (qSk rfl rfl (qPk rfl rfl rfl rfl (qAs rfl rfl rfl (qNK hK3 ?_))))))));clear hK3;clear F a;intro a F;refine wp_ret ?_;refine bRet results68 F rfl ?_
   first
     | exact ⟨retB (by rw [oneWord,hb0,Bool.false_and]),H.below⟩
     | exact ⟨retB (by rw [oneWord,hb0,htk];simp only [hk1];rfl),H.below⟩
     | exact ⟨retB (by rw [oneWord,hb0];symm;rw [Bool.and_eq_false_iff];right;split <;> simp_all),H.below⟩
  replace h19:=beqF h19
  have h2:(toks s).length ≠ 2:=by omega
  refine sSk F rfl rfl (qSk rfl rfl (qSk rfl rfl (qSk rfl rfl (qSk rfl rfl (qPk rfl rfl rfl rfl (qMv rfl rfl rfl (qSk rfl rfl (qSk rfl rfl (qSk rfl rfl (qSk rfl rfl (qSk rfl rfl (qSk rfl rfl (qPk rfl rfl rfl rfl (qAs rfl rfl rfl (qNK hK3 ?_)))))))))))))));clear hK3;clear F a;intro a F;refine wp_ret ?_;refine bRet results68 F rfl ?_
  first
    | exact ⟨retB (by rw [oneWord,hb0,Bool.false_and]),H.below⟩
    | exact ⟨retB (by rw [oneWord,hb0,htk];simp only [hk1];rfl),H.below⟩
    | exact ⟨retB (by rw [oneWord,hb0];symm;rw [Bool.and_eq_false_iff];right;split <;> simp_all),H.below⟩
 replace h14:=beqF h14
 have hb0:(lexBad s).isNone=false:=by
   rcases hh with ⟨h2,_⟩ | ⟨_,h2⟩
   · exact absurd h2 h14
   · cases hq:lexBad s with
     | none=>exact absurd hq h2
     | some _=>rfl
 refine sSk F rfl rfl (qSk rfl rfl (qSk rfl rfl (qPk rfl rfl rfl rfl (qMv rfl rfl rfl (qSk rfl rfl (qSk rfl rfl (qSk rfl rfl (qSk rfl rfl (qSk rfl rfl (qPk rfl rfl rfl rfl (qMv rfl rfl rfl (qSk rfl rfl (qSk rfl rfl (qSk rfl rfl (qSk rfl rfl (qSk rfl rfl (qSk rfl rfl (qPk rfl rfl rfl rfl (qAs rfl rfl rfl (qNK hK3 ?_))))))))))))))))))));clear hK3;clear F a;intro a F;refine wp_ret ?_;refine bRet results68 F rfl ?_
 first
   | exact ⟨retB (by rw [oneWord,hb0,Bool.false_and]),H.below⟩
   | exact ⟨retB (by rw [oneWord,hb0,htk];simp only [hk1];rfl),H.below⟩
   | exact ⟨retB (by rw [oneWord,hb0];symm;rw [Bool.and_eq_false_iff];right;split <;> simp_all),H.below⟩
def namesOk (l:List ByteArray):Nat→List ByteArray→Bool
 | _,[]=>true
 | j,x :: r=>(nameOk x && !(idxOf x (l.take j) 0).isSome) && namesOk l (j+1) r
theorem namesOk_at {l m:List ByteArray} {j:Nat} {x:ByteArray} (hx:l[j]? = some x):namesOk m j (l.drop j)=((nameOk x && !(idxOf x (m.take j) 0).isSome) && namesOk m (j+1) (l.drop (j+1))):=by
 obtain ⟨hj,rfl⟩:=List.getElem?_eq_some_iff.1 hx
 rw [List.drop_eq_getElem_cons hj]
 rfl
def locsOk (p:Prg):Bool:=(decide (1≤p.locs.length) && decide (p.locs.length≤6) && p.init.length == p.locs.length) && namesOk p.locs 0 p.locs
theorem StrsAt.take {w:World} {A:Option Addr} {l:List ByteArray} (h:StrsAt w A l) (j:Nat):StrsAt w A (l.take j):=by
 intro k cs hk
 refine h k cs ?_;rw [List.getElem?_map] at hk ⊢;rw [List.getElem?_take] at hk
 split at hk
 · exact hk
 · cases hk
set_option maxHeartbeats 1000000 in
set_option maxRecDepth 10000 in
theorem locsRight_any (B:Nat) (cs:List Value) (p:Prg) (w0:World) (hB:w0.rangeAt B 0 cs) (hP:ProgAt w0 cs p) :
   Calls Tryz.prog 70 #[.pointer (some ⟨B,0,none⟩)] w0 fun e w'=>e = .returned (.bool (locsOk p))∧Below w0.heap.size w0 w':=by
 obtain ⟨LA,LC,IA,IC,TA,TC,h,ccs,hp⟩:=hP
 have hcs:=hp.cs
 subst hcs
 have hn:=hp.locsN
 have hi:=hp.initN
 have hlc:=hp.locsC
 have H:=Own.start w0 none
 refine enterF func70 rfl ntmps70 rfl (fun a F=>?_);refine cSR fun K1 hK1=>sAs F rfl rfl rfl (qNK hK1 ?_);clear hK1;clear F a;intro a F
 refine cSeqJ [0] (fun ups w=>(decide (1≤p.locs.length) && decide (p.locs.length≤6) && p.init.length == p.locs.length)=true∧ups=[]∧Own w0 none w []) F (by repeat (first | exact SubR.nil | (apply SubR.cons;· rfl))) ?_ ?_
 ·
  refine cSeq (fun K2 hK2=>?_);refine cRegDO (by kernel_rfl) H ?_;replace H:=H.drew;refine dTake (by kernel_rfl) (by kernel_rfl) F rfl rfl rfl (fun w H=>rMv F rfl) H qq0 (qDT (by kernel_rfl) (by kernel_rfl) rfl rfl rfl (fun a F w H=>rNc F rfl) H qq0 (qDT (by kernel_rfl) (by kernel_rfl) rfl rfl rfl (fun a F w H=>rFa (f:=1) (k:=1) underlying29 rfl sizeOf22 rfl rfl F rfl) H qq0 (qDT (by kernel_rfl) (by kernel_rfl) rfl rfl rfl (fun a F w H=>rLd isAgg22 F rfl (H.arg (hB 1 _ rfl))) H qq0 (qDT (by kernel_rfl) (by kernel_rfl) rfl rfl rfl (fun a F w H=>rLen underlying22 F rfl) H qq0 (qDT (by kernel_rfl) (by kernel_rfl) rfl rfl rfl (fun a F w H=>rBin F rfl rfl bLss) H qq0 (qDT (by kernel_rfl) (by kernel_rfl) rfl rfl rfl (fun a F w H=>rMv F rfl) H qq0 ?_))))));clear F a;intro a F
  refine F.split 11 rfl ?_ ?_ <;> (clear F;intro h11 F)
  ·
   replace h11:=of_decide_eq_true h11;refine dSkip (by kernel_rfl) (by kernel_rfl) F rfl rfl rfl H qq0 (qDS (by kernel_rfl) (by kernel_rfl) rfl rfl rfl H qq0 (qDS (by kernel_rfl) (by kernel_rfl) rfl rfl rfl H qq0 (qDS (by kernel_rfl) (by kernel_rfl) rfl rfl rfl H qq0 (qDS (by kernel_rfl) (by kernel_rfl) rfl rfl rfl H qq0 (qDS (by kernel_rfl) (by kernel_rfl) rfl rfl rfl H qq0 (qDT (by kernel_rfl) (by kernel_rfl) rfl rfl rfl (fun a F w H=>rPk F rfl rfl) H qq0 (qDT (by kernel_rfl) (by kernel_rfl) rfl rfl rfl (fun a F w H=>rMv F rfl) H qq0 (qDS (by kernel_rfl) (by kernel_rfl) rfl rfl rfl H qq0 (qDS (by kernel_rfl) (by kernel_rfl) rfl rfl rfl H qq0 (qDS (by kernel_rfl) (by kernel_rfl) rfl rfl rfl H qq0 (qDS (by kernel_rfl) (by kernel_rfl) rfl rfl rfl H qq0 (qDS (by kernel_rfl) (by kernel_rfl) rfl rfl rfl H qq0 (qDS (by kernel_rfl) (by kernel_rfl) rfl rfl rfl H qq0 (qDS (by kernel_rfl) (by kernel_rfl) rfl rfl rfl H qq0 (qDS (by kernel_rfl) (by kernel_rfl) rfl rfl rfl H qq0 (qDS (by kernel_rfl) (by kernel_rfl) rfl rfl rfl H qq0 (qDS (by kernel_rfl) (by kernel_rfl) rfl rfl rfl H qq0 (qDS (by kernel_rfl) (by kernel_rfl) rfl rfl rfl H qq0 (qDT (by kernel_rfl) (by kernel_rfl) rfl rfl rfl (fun a F w H=>rPk F rfl rfl) H qq0 ?_)))))))))))))))))));clear F a;intro a F
   refine dNil (k:=27) ?_ rfl
   refine hK2 _ _ ?_;clear hK2;refine cIfT F rfl ?_;refine cSR fun K3 hK3=>sAs F rfl rfl rfl (qNK hK3 ?_);clear hK3;clear F a;intro a F;refine wp_ret ?_;simp only [Exit.then];refine bRet results70 F rfl ?_
   first
     | exact ⟨retB (by rw [locsOk,hsz,Bool.true_and,ht,namesOk_at hx];clear F hB;simp_all),H.below⟩
     | exact ⟨retB (by rw [locsOk,hsz,Bool.true_and,ht,List.drop_eq_nil_of_le (by omega)];rfl),H.below⟩
     | exact ⟨retB (by clear F hB;rw [locsOk];symm;rw [Bool.and_eq_false_iff];left;simp_all <;> omega),H.below⟩
  replace h11:=of_decide_eq_false h11;refine dTake (by kernel_rfl) (by kernel_rfl) F rfl rfl rfl (fun w H=>rMv F rfl) H qq0 (qDT (by kernel_rfl) (by kernel_rfl) rfl rfl rfl (fun a F w H=>rNc F rfl) H qq0 (qDT (by kernel_rfl) (by kernel_rfl) rfl rfl rfl (fun a F w H=>rFa (f:=1) (k:=1) underlying29 rfl sizeOf22 rfl rfl F rfl) H qq0 (qDT (by kernel_rfl) (by kernel_rfl) rfl rfl rfl (fun a F w H=>rLd isAgg22 F rfl (H.arg (hB 1 _ rfl))) H qq0 (qDT (by kernel_rfl) (by kernel_rfl) rfl rfl rfl (fun a F w H=>rLen underlying22 F rfl) H qq0 (qDT (by kernel_rfl) (by kernel_rfl) rfl rfl rfl (fun a F w H=>rBin F rfl rfl bGtr) H qq0 (qDT (by kernel_rfl) (by kernel_rfl) rfl rfl rfl (fun a F w H=>rPk F rfl rfl) H qq0 (qDT (by kernel_rfl) (by kernel_rfl) rfl rfl rfl (fun a F w H=>rMv F rfl) H qq0 ?_)))))));clear F a;intro a F
  refine F.split 19 rfl ?_ ?_ <;> (clear F;intro h19 F)
  ·
   replace h19:=of_decide_eq_true h19;refine dSkip (by kernel_rfl) (by kernel_rfl) F rfl rfl rfl H qq0 (qDS (by kernel_rfl) (by kernel_rfl) rfl rfl rfl H qq0 (qDS (by kernel_rfl) (by kernel_rfl) rfl rfl rfl H qq0 (qDS (by kernel_rfl) (by kernel_rfl) rfl rfl rfl H qq0 (qDS (by kernel_rfl) (by kernel_rfl) rfl rfl rfl H qq0 (qDS (by kernel_rfl) (by kernel_rfl) rfl rfl rfl H qq0 (qDS (by kernel_rfl) (by kernel_rfl) rfl rfl rfl H qq0 (qDS (by kernel_rfl) (by kernel_rfl) rfl rfl rfl H qq0 (qDS (by kernel_rfl) (by kernel_rfl) rfl rfl rfl H qq0 (qDS (by kernel_rfl) (by kernel_rfl) rfl rfl rfl H qq0 (qDS (by kernel_rfl) (by kernel_rfl) rfl rfl rfl H qq0 (qDT (by kernel_rfl) (by kernel_rfl) rfl rfl rfl (fun a F w H=>rPk F rfl rfl) H qq0 ?_)))))))))));clear F a;intro a F
   refine dNil (k:=27) ?_ rfl
   refine hK2 _ _ ?_;clear hK2;refine cIfT F rfl ?_;refine cSR fun K4 hK4=>sAs F rfl rfl rfl (qNK hK4 ?_);clear hK4;clear F a;intro a F;refine wp_ret ?_;simp only [Exit.then];refine bRet results70 F rfl ?_
   first
     | exact ⟨retB (by rw [locsOk,hsz,Bool.true_and,ht,namesOk_at hx];clear F hB;simp_all),H.below⟩
     | exact ⟨retB (by rw [locsOk,hsz,Bool.true_and,ht,List.drop_eq_nil_of_le (by omega)];rfl),H.below⟩
     | exact ⟨retB (by clear F hB;rw [locsOk];symm;rw [Bool.and_eq_false_iff];left;simp_all <;> omega),H.below⟩
  replace h19:=of_decide_eq_false h19;refine dTake (by kernel_rfl) (by kernel_rfl) F rfl rfl rfl (fun w H=>rMv F rfl) H qq0 (qDT (by kernel_rfl) (by kernel_rfl) rfl rfl rfl (fun a F w H=>rNc F rfl) H qq0 (qDT (by kernel_rfl) (by kernel_rfl) rfl rfl rfl (fun a F w H=>rFa (f:=2) (k:=2) underlying29 rfl sizeOf23 rfl rfl F rfl) H qq0 (qDT (by kernel_rfl) (by kernel_rfl) rfl rfl rfl (fun a F w H=>rLd isAgg23 F rfl (H.arg (hB 2 _ rfl))) H qq0 (qDT (by kernel_rfl) (by kernel_rfl) rfl rfl rfl (fun a F w H=>rLen underlying23 F rfl) H qq0 (qDT (by kernel_rfl) (by kernel_rfl) rfl rfl rfl (fun a F w H=>rMv F rfl) H qq0 (qDT (by kernel_rfl) (by kernel_rfl) rfl rfl rfl (fun a F w H=>rNc F rfl) H qq0 (qDT (by kernel_rfl) (by kernel_rfl) rfl rfl rfl (fun a F w H=>rFa (f:=1) (k:=1) underlying29 rfl sizeOf22 rfl rfl F rfl) H qq0 (qDT (by kernel_rfl) (by kernel_rfl) rfl rfl rfl (fun a F w H=>rLd isAgg22 F rfl (H.arg (hB 1 _ rfl))) H qq0 (qDT (by kernel_rfl) (by kernel_rfl) rfl rfl rfl (fun a F w H=>rLen underlying22 F rfl) H qq0 (qDT (by kernel_rfl) (by kernel_rfl) rfl rfl rfl (fun a F w H=>rBin F rfl rfl bNeq) H qq0 (qDT (by kernel_rfl) (by kernel_rfl) rfl rfl rfl (fun a F w H=>rPk F rfl rfl) H qq0 ?_)))))))))));clear F a;intro a F
  refine dNil (k:=27) ?_ rfl
  refine hK2 _ _ ?_;clear hK2
  refine cIf F rfl (fun h31=>?_) (fun h31=>?_)
  ·
   replace h31:=bneT h31;refine cSR fun K5 hK5=>sAs F rfl rfl rfl (qNK hK5 ?_);clear hK5;clear F a;intro a F;refine wp_ret ?_;simp only [Exit.then];refine bRet results70 F rfl ?_
   first
     | exact ⟨retB (by rw [locsOk,hsz,Bool.true_and,ht,namesOk_at hx];clear F hB;simp_all),H.below⟩
     | exact ⟨retB (by rw [locsOk,hsz,Bool.true_and,ht,List.drop_eq_nil_of_le (by omega)];rfl),H.below⟩
     | exact ⟨retB (by clear F hB;rw [locsOk];symm;rw [Bool.and_eq_false_iff];left;simp_all <;> omega),H.below⟩
  replace h31:=bneF h31;refine wp_skip ?_
  refine ⟨[],⟨?_,rfl,H⟩,F.to (by repeat (first | exact trivial | refine Le.cons rfl ?_))⟩
  clear F hB
  simp_all <;> omega
 clear F H
 intro ups a w hI F
 obtain ⟨hsz,rfl,H⟩:=hI
 refine cSeq (fun K6 hK6=>?_);refine cSR fun K7 hK7=>sMv F rfl rfl rfl (qNc rfl rfl rfl (qFa (f:=1) (k:=1) underlying29 rfl sizeOf22 rfl rfl rfl rfl rfl (qLd isAgg22 rfl rfl rfl (H.arg (hB 1 _ rfl)) (qLen underlying22 rfl rfl rfl (qMv rfl rfl rfl (qNK hK7 ?_))))));clear hK7;clear F a;intro a F;refine wp_block ?_
 refine cLoopR [0,35,36] (fun m ups w=>∃ j:Nat,m=p.locs.length - j∧ups=[(37,.int .i64 (j:Int))]∧j≤p.locs.length∧namesOk p.locs 0 p.locs=namesOk p.locs j (p.locs.drop j)∧Own w0 none w []) F (p.locs.length) [(37,.int .i64 ((0:Nat):Int))] (by repeat (first | exact SubR.nil | (apply SubR.cons;· rfl))) ?_ ?_ ?_
 · exact ⟨0,rfl,rfl,Nat.zero_le _,rfl,H⟩
 · repeat (first | exact trivial | refine Le.cons rfl ?_)
 clear F
 clear H
 intro m ups a w hI F
 obtain ⟨j,rfl,rfl,hj,ht,H⟩:=hI
 refine cSR fun K8 hK8=>sBin F rfl rfl rfl rfl bLss (qNK hK8 ?_);clear hK8;clear F a;intro a F;refine cSeq (fun K9 hK9=>?_)
 refine cIf F rfl (fun h38=>?_) (fun h38=>?_)
 ·
  replace h38:=of_decide_eq_true h38
  have hjl:j < p.locs.length:=by omega
  obtain ⟨x,hx⟩:∃ x,p.locs[j]? = some x:=⟨_,List.getElem?_eq_getElem hjl⟩
  obtain ⟨b,off,rfl,hc⟩:=hp.locs.get hx
  have hjt:(p.locs.take j).length=j:=by rw [List.length_take];omega
  refine wp_skip (hK9 _ _ ?_);clear hK9;refine cSeq (fun K10 hK10=>?_);refine wp_block ?_;refine cSR fun K11 hK11=>sMv F rfl rfl rfl ?_;clear F a;intro a F
  refine sIx underlying22 sizeOf9 F rfl rfl rfl rfl ?_ ?_
  focus (first | omega | decide | (simp;omega))
  clear F a;intro a F;refine sLd isAgg9 F rfl rfl rfl (H.arg hc) (qAs rfl rfl rfl (qAs rfl rfl rfl (qNK hK11 (qSR fun K12 hK12=>qMv rfl rfl rfl ?_))));clear hK11;clear F a;intro a F;refine sCall call119 F rfl rfl rfl (name_any x _ (hp.locsS x (List.mem_of_getElem? hx)) _ rfl) ?_;rintro e w ⟨rfl,rfl⟩;refine ⟨_,rfl,?_⟩;clear F a;intro a F;refine sNot F rfl rfl rfl (qMv rfl rfl rfl ?_);clear F a;intro a F
  refine F.split 45 rfl ?_ ?_ <;> (clear F;intro h45 F)
  ·
   replace h45:=notT h45;refine sSk F rfl rfl (qSk rfl rfl (qSk rfl rfl (qSk rfl rfl (qSk rfl rfl (qSk rfl rfl (qSk rfl rfl (qSk rfl rfl (qPk rfl rfl rfl rfl (qNK hK12 ?_)))))))));clear hK12;clear F a;intro a F;refine cIfT F rfl ?_;refine cSR fun K13 hK13=>sAs F rfl rfl rfl (qNK hK13 ?_);clear hK13;clear F a;intro a F;refine wp_ret ?_;simp only [Exit.inBlock,Exit.then];refine bRet results70 F rfl ?_
   first
     | exact ⟨retB (by rw [locsOk,hsz,Bool.true_and,ht,namesOk_at hx];clear F hB;simp_all),H.below⟩
     | exact ⟨retB (by rw [locsOk,hsz,Bool.true_and,ht,List.drop_eq_nil_of_le (by omega)];rfl),H.below⟩
     | exact ⟨retB (by clear F hB;rw [locsOk];symm;rw [Bool.and_eq_false_iff];left;simp_all <;> omega),H.below⟩
  replace h45:=notF h45;refine sMv F rfl rfl rfl (qNc rfl rfl rfl (qFa (f:=1) (k:=1) underlying29 rfl sizeOf22 rfl rfl rfl rfl rfl (qLd isAgg22 rfl rfl rfl (H.arg (hB 1 _ rfl)) (qMv rfl rfl rfl ?_))));clear F a;intro a F
  refine sSlH underlying22 (fun w=>⟨_,sizeOf9 w⟩) F rfl rfl rfl rfl ?_ ?_
  focus (first | omega | decide | (simp;omega))
  clear F a;intro a F;refine sMv F rfl rfl rfl ?_;clear F a;intro a F;refine sCall call120 F rfl rfl rfl ((by have:=contains_any (some ⟨b,off,none⟩) LC (p.locs.take j) x w (RowsAt.own (hp.locs.take j) H) (by omega);rw [hjt] at this;exact this)) ?_;rintro e w ⟨rfl,hb⟩;replace H:=H.grow hb;clear hb;refine ⟨_,rfl,?_⟩;clear F a;intro a F;refine sPk F rfl rfl rfl rfl (qNK hK12 ?_);clear hK12;clear F a;intro a F
  refine cIf F rfl (fun h54=>?_) (fun h54=>?_)
  ·
   refine cSR fun K14 hK14=>sAs F rfl rfl rfl (qNK hK14 ?_);clear hK14;clear F a;intro a F;refine wp_ret ?_;simp only [Exit.inBlock,Exit.then];refine bRet results70 F rfl ?_
   first
     | exact ⟨retB (by rw [locsOk,hsz,Bool.true_and,ht,namesOk_at hx];clear F hB;simp_all),H.below⟩
     | exact ⟨retB (by rw [locsOk,hsz,Bool.true_and,ht,List.drop_eq_nil_of_le (by omega)];rfl),H.below⟩
     | exact ⟨retB (by clear F hB;rw [locsOk];symm;rw [Bool.and_eq_false_iff];left;simp_all <;> omega),H.below⟩
  refine wp_skip (hK10 _ _ (cReg ?_));clear hK10
  refine sBin F rfl rfl rfl rfl (bAddN (j:=1) ?_) ?_
  focus omega
  clear F a;intro a F;refine sMv F rfl rfl rfl ?_;clear F a;intro a F;refine sNil ?_
  exact ⟨p.locs.length - (j+1),by omega,_,⟨j+1,rfl,rfl,by omega,by rw [ht,namesOk_at hx];simp_all,H⟩,F.to (by repeat (first | exact trivial | refine Le.cons rfl ?_))⟩
 replace h38:=of_decide_eq_false h38;refine wp_exit ?_;refine hK6 _ _ (cSR fun K15 hK15=>sAs F rfl rfl rfl (qNK hK15 ?_));clear hK6 hK15;clear F a;intro a F;refine wp_ret ?_;refine bRet results70 F rfl ?_
 first
   | exact ⟨retB (by rw [locsOk,hsz,Bool.true_and,ht,namesOk_at hx];clear F hB;simp_all),H.below⟩
   | exact ⟨retB (by rw [locsOk,hsz,Bool.true_and,ht,List.drop_eq_nil_of_le (by omega)];rfl),H.below⟩
   | exact ⟨retB (by clear F hB;rw [locsOk];symm;rw [Bool.and_eq_false_iff];left;simp_all <;> omega),H.below⟩
end Go.Proofs.YtbgnapmaimkpkaaGreatDoor
namespace Go.Proofs.YtbgnapmaimkpkaaGreatDoor
open Go.Proofs.Tryz
open Go.RowKit
theorem demand2_any (V B:Nat) (cs:List Value) (p:Prg) (w0:World) (hP:PvAt w0 V B cs p) :
   Calls Tryz.prog 67 #[.pointer (some ⟨V,0,none⟩)] w0 fun e w'=>e = .returned (.bool (oneWord p.name))∧Below w0.heap.size w0 w':=by
 obtain ⟨hV,hB,LA,LC,IA,IC,TA,TC,h,ccs,hp⟩:=hP
 have hcs:=hp.cs
 subst hcs
 have H:=Own.start w0 none
 refine enterF func67 rfl ntmps67 rfl (fun a F=>?_);refine cSR fun K1 hK1=>sAs F rfl rfl rfl (qNK hK1 (qSR fun K2 hK2=>qLd isAgg108 rfl rfl rfl (H.arg (hV 0 _ rfl)) (qNc rfl rfl rfl (qFa (f:=0) (k:=0) underlying29 rfl sizeOf9 rfl rfl rfl rfl rfl (qLd isAgg9 rfl rfl rfl (H.arg (hB 0 _ rfl)) ?_)))));clear hK1;clear F a;intro a F;refine sCall call68 F rfl rfl rfl (isWord_any p.name _ hp.name) ?_;rintro e w ⟨rfl,hb⟩;replace H:=H.grow hb;clear hb;refine ⟨_,rfl,?_⟩;clear F a;intro a F;refine sAs F rfl rfl rfl (qNK hK2 ?_);clear hK2;clear F a;intro a F;refine wp_ret ?_;refine bRet results67 F rfl ?_
 exact ⟨rfl,H.below⟩
theorem demand3_any (V B:Nat) (cs:List Value) (p:Prg) (w0:World) (hP:PvAt w0 V B cs p) :
   Calls Tryz.prog 69 #[.pointer (some ⟨V,0,none⟩)] w0 fun e w'=>e = .returned (.bool (locsOk p))∧Below w0.heap.size w0 w':=by
 obtain ⟨hV,hB,hp⟩:=hP
 have H:=Own.start w0 none
 refine enterF func69 rfl ntmps69 rfl (fun a F=>?_);refine cSR fun K1 hK1=>sAs F rfl rfl rfl (qNK hK1 (qSR fun K2 hK2=>qLd isAgg108 rfl rfl rfl (H.arg (hV 0 _ rfl)) ?_));clear hK1;clear F a;intro a F;refine sCall call70 F rfl rfl rfl (locsRight_any B cs p _ (H.argR hB) (hp.own H)) ?_;rintro e w ⟨rfl,hb⟩;replace H:=H.grow hb;clear hb;refine ⟨_,rfl,?_⟩;clear F a;intro a F;refine sAs F rfl rfl rfl (qNK hK2 ?_);clear hK2;clear F a;intro a F;refine wp_ret ?_;refine bRet results69 F rfl ?_
 exact ⟨rfl,H.below⟩
def demandFns (V E:Nat):List (Int × Value):=[(70,.func (.func 67) #[] #[.pointer (some ⟨V,0,none⟩)]),(71,.func (.func 69) #[] #[.pointer (some ⟨V,0,none⟩)]),
 (72,.func (.func 71) #[] #[.pointer (some ⟨V,0,none⟩),.pointer (some ⟨E,0,none⟩)]),(73,.func (.func 73) #[] #[.pointer (some ⟨E,0,none⟩),.pointer (some ⟨V,0,none⟩)]),
 (75,.func (.func 76) #[] #[.pointer (some ⟨V,0,none⟩)]),(74,.func (.func 77) #[] #[.pointer (some ⟨V,0,none⟩)])]
def demandCells (V E:Nat):List Value:=(demandFns V E).flatMap fun q=>[.int .i64 q.1,q.2]
theorem demands_any (B:Nat) (w0:World) :
   Calls Tryz.prog 41 #[.pointer (some ⟨B,0,none⟩)] w0 fun e w'=>∃ V E D,e = .returned (.slice (some ⟨D,0,none⟩) 6 6) ∧
     Own w0 none w' [.blk D (demandCells V E) 110,.blk E [.func (.func 66) #[] #[.pointer (some ⟨V,0,none⟩)]] 133,.blk V [.pointer (some ⟨B,0,none⟩)] 108]:=by
 have H:=Own.start w0 none
 refine enterF func41 rfl ntmps41 rfl (fun a F=>?_);refine cSR fun K1 hK1=>?_;refine sBx H F rfl rfl rfl ?_;clear F a H;intro b1 a w F H;refine sAs F rfl rfl rfl (qNK hK1 (qSR fun K2 hK2=>qFn rfl rfl rfl rfl ?_));clear hK1;clear F a;intro a F;refine sAl H zeroValue133 F rfl rfl ?_;clear F a H;intro b3 a w F H;refine sSt H 0 sizeOf133 F rfl rfl rfl rfl rfl rfl ?_;clear H;intro w H;refine nK hK2 (cSR fun K3 hK3=>sFn F rfl rfl rfl rfl (qBd (places:=[(0,1),(1,1)]) zeroValue110 underlying110 (by kernel_rfl) rfl rfl rfl rfl (qFn rfl rfl rfl rfl (qBd (places:=[(0,1),(1,1)]) zeroValue110 underlying110 (by kernel_rfl) rfl rfl rfl rfl (qFn rfl rfl rfl rfl (qBd (places:=[(0,1),(1,1)]) zeroValue110 underlying110 (by kernel_rfl) rfl rfl rfl rfl (qFn rfl rfl rfl rfl (qBd (places:=[(0,1),(1,1)]) zeroValue110 underlying110 (by kernel_rfl) rfl rfl rfl rfl (qFn rfl rfl rfl rfl (qBd (places:=[(0,1),(1,1)]) zeroValue110 underlying110 (by kernel_rfl) rfl rfl rfl rfl (qFn rfl rfl rfl rfl (qBd (places:=[(0,1),(1,1)]) zeroValue110 underlying110 (by kernel_rfl) rfl rfl rfl rfl ?_))))))))))));clear hK2;clear F a;intro a F;refine sBs H underlying106 sizeOf110 zeroValue110 rfl F rfl rfl rfl rfl rfl ?_;clear F a H;intro b17 a w F H;refine sAs F rfl rfl rfl (qNK hK3 ?_);clear hK3;clear F a;intro a F;refine wp_ret ?_;refine bRet results41 F rfl ?_
 exact ⟨_,_,_,rfl,H⟩
def demandK (p:Prg):Nat→Bool
 | 0=>oneWord p.name
 | 1=>locsOk p
 | 2=>threadsShort p
 | 3=>threadsOk p
 | 4=>askOk p
 | 5=>condOk p.threads.length p.locs.length 20 p.cond
 | _=>true
def demandE:Nat→Int
 | 0=>70 | 1=>71 | 2=>72 | 3=>73 | 4=>75 | 5=>74 | _=>0
def rightFrom (p:Prg):Nat→Nat→Int
 | 0,_=>0
 | n+1,k=>if demandK p k then rightFrom p n (k+1) else demandE k
def rightErr (p:Prg):Int:=rightFrom p 6 0
theorem holds_any (k V E B:Nat) (q:Int × Value) (cs:List Value) (p:Prg) (w0:World) (hP:PvAt w0 V B cs p) (hE:w0.rangeAt E 0 [.func (.func 66) #[] #[.pointer (some ⟨V,0,none⟩)]]) (hN:NeedsAt w0) (hk:(demandFns V E)[k]? = some q) :
   q.1=demandE k∧CallsF Tryz.prog q.2 [] w0 (fun e w'=>e = .returned (.bool (demandK p k))∧Below w0.heap.size w0 w'):=by
 match k,hk with
 | 0,hk=>cases hk;exact ⟨rfl,_,[],[.pointer (some ⟨V,0,none⟩)],rfl,call67,demand2_any V B cs p w0 hP⟩
 | 1,hk=>cases hk;exact ⟨rfl,_,[],[.pointer (some ⟨V,0,none⟩)],rfl,call69,demand3_any V B cs p w0 hP⟩
 | 2,hk=>cases hk;exact ⟨rfl,_,[],[.pointer (some ⟨V,0,none⟩),.pointer (some ⟨E,0,none⟩)],rfl,call71,demand4_any E V B cs p w0 hP hE⟩
 | 3,hk=>cases hk;exact ⟨rfl,_,[],[.pointer (some ⟨E,0,none⟩),.pointer (some ⟨V,0,none⟩)],rfl,call73,demand5_any E V B cs p w0 hP hN hE⟩
 | 4,hk=>cases hk;exact ⟨rfl,_,[],[.pointer (some ⟨V,0,none⟩)],rfl,call76,demand6_any V B cs p w0 hP⟩
 | 5,hk=>cases hk;exact ⟨rfl,_,[],[.pointer (some ⟨V,0,none⟩)],rfl,call77,demand7_any V B cs p w0 hP⟩
 | n+6,hk=>simp [demandFns] at hk
theorem demand_cells (V E k:Nat) (q:Int × Value) (hk:(demandFns V E)[k]? = some q):((demandCells V E).drop (k * 2)).take 2=[.int .i64 q.1,q.2]:=by
 match k,hk with
 | 0,hk=>cases hk;rfl
 | 1,hk=>cases hk;rfl
 | 2,hk=>cases hk;rfl
 | 3,hk=>cases hk;rfl
 | 4,hk=>cases hk;rfl
 | 5,hk=>cases hk;rfl
 | n+6,hk=>simp [demandFns] at hk
theorem demand_one (V E k:Nat) (q:Int × Value) (hk:(demandFns V E)[k]? = some q):q.2.oneCell'=true:=by
 match k,hk with
 | 0,hk=>cases hk;rfl
 | 1,hk=>cases hk;rfl
 | 2,hk=>cases hk;rfl
 | 3,hk=>cases hk;rfl
 | 4,hk=>cases hk;rfl
 | 5,hk=>cases hk;rfl
 | n+6,hk=>simp [demandFns] at hk
theorem rightFrom_at {p:Prg} {k:Nat} (hk:k < 6):rightFrom p (6 - k) k=if demandK p k then rightFrom p (6 - (k+1)) (k+1) else demandE k:=by
 have:6 - k=(6 - (k+1))+1:=by omega
 rw [this];rfl
set_option maxHeartbeats 1000000 in
theorem right_any' (cs:List Value) (p:Prg) (w0:World) (hP:ProgAt w0 cs p) (hN:NeedsAt w0) :
   Calls Tryz.prog 15 #[.agg cs.toArray] w0 fun e w'=>e = .returned (.int .i64 (rightErr p))∧Below w0.heap.size w0 w':=by
 have H:=Own.start w0 none
 refine enterF func15 rfl ntmps15 rfl (fun a F=>?_);refine cSR fun K1 hK1=>?_;refine sBx H F rfl rfl rfl ?_;clear F a H;intro b1 a w F H;refine sAs F rfl rfl rfl (qNK hK1 ?_);clear hK1;clear F a;intro a F;refine cSeq (fun K2 hK2=>?_);refine cSR fun K3 hK3=>?_;refine sCall call41 F rfl rfl rfl (demands_any _ _) ?_;rintro e w ⟨V,E,D,rfl,H2⟩;replace H:=H.join H2;clear H2;refine ⟨_,rfl,?_⟩;clear F a;intro a F;refine sLen underlying106 F rfl rfl rfl (qMv rfl rfl rfl (qNK hK3 ?_));clear hK3;clear F a;intro a F;refine wp_block ?_
 refine cLoopR [5,6] (fun m ups w=>∃ k:Nat,m=6 - k∧ups=[(7,.int .i64 (k:Int))]∧k≤6∧rightErr p=rightFrom p (6 - k) k∧Own w0 none w [.blk D (demandCells V E) 110,.blk E [.func (.func 66) #[] #[.pointer (some ⟨V,0,none⟩)]] 133,.blk V [.pointer (some ⟨b1,0,none⟩)] 108,.blk b1 cs 29]) F (6) [(7,.int .i64 ((0:Nat):Int))] (by repeat (first | exact SubR.nil | (apply SubR.cons;· rfl))) ?_ ?_ ?_
 · exact ⟨0,rfl,rfl,by omega,rfl,H⟩
 · repeat (first | exact trivial | refine Le.cons rfl ?_)
 clear F
 clear H
 intro m ups a w hI F
 obtain ⟨k,rfl,rfl,hk,ht,H⟩:=hI
 refine cSR fun K4 hK4=>sBin F rfl rfl rfl rfl bLss (qNK hK4 ?_);clear hK4;clear F a;intro a F;refine cSeq (fun K5 hK5=>?_)
 refine cIf F rfl (fun h8=>?_) (fun h8=>?_)
 ·
  replace h8:=of_decide_eq_true h8
  have hk6:k < 6:=by omega
  obtain ⟨q,hq⟩:∃ q,(demandFns V E)[k]? = some q:=⟨_,List.getElem?_eq_getElem (by simp only [demandFns,List.length_cons,List.length_nil];omega)⟩
  have hqc:=demand_one V E k q hq
  refine wp_skip (hK5 _ _ ?_);clear hK5;refine cSeq (fun K6 hK6=>?_);refine wp_block ?_;refine cSR fun K7 hK7=>?_
  refine sIx underlying106 sizeOf110 F rfl rfl rfl rfl ?_ ?_
  focus (first | omega | decide | (simp;omega))
  clear F a;intro a F
  refine sLr underlying110 rfl ?si F rfl rfl rfl (by have:=H.range 0 rfl (0+k * 2) 2;rw [Nat.zero_add] at this ⊢;rw [demand_cells V E k q hq] at this;exact this) ?_
  case si=>exact info_size sizeOf110
  clear F a;intro a F;refine sAl H zeroValue110 F rfl rfl ?_;clear F a H;intro b4 a w F H
  refine sSr H 0 ?si F rfl rfl rfl ?s1 rfl rfl ?_
  case si=>exact info_size sizeOf110
  case s1=>first | rfl | (repeat (first | exact one_nil | (apply one_cons;· first | rfl | assumption | exact one_bif rfl rfl)))
  clear H;intro w H;refine nK hK7 (cSR fun K8 hK8=>sFa (f:=1) (k:=1) underlying110 rfl sizeOf39 rfl rfl F rfl rfl rfl (qLd isAgg39 rfl rfl rfl (H.cell 0 rfl rfl) ?_));clear hK7;clear F a;intro a F
  obtain ⟨hq1,hq2⟩:=holds_any k V E b1 q cs p w ⟨H.whole 3 rfl,H.whole 4 rfl,hP.own H⟩ (H.whole 2 rfl) (hN.own H) hq
  refine sCallV F rfl rfl rfl rfl hq2 ?_;rintro e w ⟨rfl,hb⟩
  replace H:=H.grow hb;clear hb hq2
  refine ⟨_,rfl,?_⟩;clear F a;intro a F;refine sNot F rfl rfl rfl (qNK hK8 ?_);clear hK8;clear F a;intro a F
  refine cIf F rfl (fun h14=>?_) (fun h14=>?_)
  ·
   replace h14:=notT h14;refine cSR fun K9 hK9=>sFa (f:=0) (k:=0) underlying110 rfl sizeOf41 rfl rfl F rfl rfl rfl (qLd isAgg41 rfl rfl rfl (H.cell 0 rfl rfl) (qAs rfl rfl rfl (qNK hK9 ?_)));clear hK9;clear F a;intro a F;refine wp_ret ?_;simp only [Exit.inBlock,Exit.then];refine bRet results15 F rfl ?_
   first
     | exact ⟨by rw [ht,rightFrom_at hk6,if_neg (by simp [h14]),← hq1],H.below⟩
     | exact ⟨by rw [ht,(by omega:6 - k=0)];rfl,H.below⟩
  replace h14:=notF h14;refine wp_skip (hK6 _ _ (cReg ?_));clear hK6
  refine sBin F rfl rfl rfl rfl (bAddN (j:=1) ?_) ?_
  focus omega
  clear F a;intro a F;refine sMv F rfl rfl rfl ?_;clear F a;intro a F;refine sNil ?_
  exact ⟨6 - (k+1),by omega,_,⟨k+1,rfl,rfl,by omega,by rw [ht,rightFrom_at hk6,if_pos h14],H.tail⟩,F.to (by repeat (first | exact trivial | refine Le.cons rfl ?_))⟩
 replace h8:=of_decide_eq_false h8;refine wp_exit ?_;refine hK2 _ _ (cSR fun K10 hK10=>sAs F rfl rfl rfl (qNK hK10 ?_));clear hK2 hK10;clear F a;intro a F;refine wp_ret ?_;refine bRet results15 F rfl ?_
 first
   | exact ⟨by rw [ht,rightFrom_at hk6,if_neg (by simp [h14]),← hq1],H.below⟩
   | exact ⟨by rw [ht,(by omega:6 - k=0)];rfl,H.below⟩
end Go.Proofs.YtbgnapmaimkpkaaGreatDoor
namespace Go.Proofs.YtbgnapmaimkpkaaGreatDoor
open Go.Proofs.Tryz
theorem demandE_ne:∀ k,k < 6→demandE k ≠ 0
 | 0,_=>by decide
 | 1,_=>by decide
 | 2,_=>by decide
 | 3,_=>by decide
 | 4,_=>by decide
 | 5,_=>by decide
 | k+6,h=>by omega
theorem rightFrom_zero {p:Prg}:∀ (n k:Nat),n+k≤6→rightFrom p n k=0→∀ i,k≤i→i < k+n→demandK p i=true
 | 0,_,_,_,i,h1,h2=>by omega
 | n+1,k,hn,h,i,h1,h2=>by
   unfold rightFrom at h
   split at h
   · rename_i hd
     rcases Nat.lt_or_ge k i with h3 | h3
     · exact rightFrom_zero n (k+1) (by omega) h i (by omega) (by omega)
     · obtain rfl:k=i:=by omega
       exact hd
   · exact absurd h (demandE_ne k (by omega))
theorem right_demand {p:Prg} (h:rightErr p=0) (i:Nat) (hi:i < 6):demandK p i=true:=rightFrom_zero 6 0 (by omega) h i (by omega) (by omega)
structure Valid (p:Prg):Prop where
 locs1:1≤p.locs.length
 locs6:p.locs.length≤6
 init:p.init.length=p.locs.length
 thr1:1≤p.threads.length
 thr4:p.threads.length≤4
 long:∀ (t:Nat) (l:List Ins),p.threads[t]? = some l→l.length≤12
 ins:∀ (t:Nat) (l:List Ins),p.threads[t]? = some l→insesOk p.locs.length l.length 0 l=true
 ask:p.ask=1∨p.ask=2∨p.ask=3
theorem valid {p:Prg} (h:rightErr p=0):Valid p:=by
 have h1:locsOk p=true:=right_demand h 1 (by omega)
 have h2:threadsShort p=true:=right_demand h 2 (by omega)
 have h3:threadsOk p=true:=right_demand h 3 (by omega)
 have h4:askOk p=true:=right_demand h 4 (by omega)
 simp only [locsOk,threadsShort,threadsOk,askOk,Bool.and_eq_true,decide_eq_true_eq,beq_iff_eq,Bool.or_eq_true,List.all_eq_true] at h1 h2 h3 h4
 refine ⟨h1.1.1.1,h1.1.1.2,h1.1.2,h2.1.1,h2.1.2,fun t l hl=>h2.2 l (List.mem_of_getElem? hl),fun t l hl=>?_,by rcases h4 with (h | h) | h <;> simp [h]⟩
 have:=h3 l (List.mem_of_getElem? hl)
 simp only [threadOk,Bool.and_eq_true] at this
 exact this.2
theorem inses_at {locs:Int} {n:Nat}:∀ {l:List Ins} {i k:Nat} {x:Ins},insesOk locs n i l=true→l[k]? = some x→insOk x locs ((n:Int) - 1 - ((i+k:Nat):Int))=true
 | [],_,_,_,_,hk=>by simp at hk
 | y :: r,i,0,x,h,hk=>by
   simp only [insesOk,Bool.and_eq_true] at h
   simp only [List.getElem?_cons_zero,Option.some.injEq] at hk
   subst hk
   exact h.1
 | y :: r,i,k+1,x,h,hk=>by
   simp only [insesOk,Bool.and_eq_true] at h
   have:=inses_at (k:=k) h.2 (by simpa using hk)
   rwa [show i+1+k=i+(k+1) by omega] at this
theorem ins_cond {x:Ins} {locs after:Int} (h:insOk x locs after=true) (k:Nat) (hk:k < 8):condK x locs after k=true:=by
 simp only [insOk,List.all_eq_true,List.mem_range] at h
 exact h k hk
theorem op_cases (x:UInt8) (h:(decide (1≤x) && decide (x≤8))=true):x=1∨x=2∨x=3∨x=4∨x=5∨x=6∨x=7∨x=8:=by
 simp only [Bool.and_eq_true,decide_eq_true_eq,UInt8.le_iff_toNat_le] at h
 have h1:x=UInt8.ofNat x.toNat:=by simp
 have h2:(1:UInt8).toNat=1:=rfl
 have h3:(8:UInt8).toNat=8:=rfl
 rw [h2,h3] at h
 rcases (by omega:x.toNat=1∨x.toNat=2∨x.toNat=3∨x.toNat=4∨x.toNat=5∨x.toNat=6∨x.toNat=7∨x.toNat=8) with h | h | h | h | h | h | h | h <;> rw [h] at h1 <;> simp [h1]
end Go.Proofs.YtbgnapmaimkpkaaGreatDoor
