/-
  WALK2. Package check: inverse, Final; the law's back. Conditions: the numbers lie in memory.
-/
import Derived.Test.YtbgnapmaimkpkaaGreatDoorJn9
import Derived.Test.YtbgnapmaimkpkaaGreatDoorJn1
import Derived.Test.YtbgnapmaimkpkaaGreatDoorJn5
import Derived.Test.YtbgnapmaimkpkaaGreatDoorCkL
import Derived.Test.YtbgnapmaimkpkaaGreatDoorCkK
set_option linter.unusedSimpArgs false
set_option linter.unusedVariables false
namespace Go.Proofs.YtbgnapmaimkpkaaGreatDoor
-- TuA
open Go.RowKit
set_option maxRecDepth 100000
def intsZ (l:List Int):List (List Value):=l.map fun n=>[.int .i64 n]
theorem intsZ_at {w:World} {A:Option Addr} {l:List Int} (h:RowsAt w A 1 (intsZ l)) {k:Nat} {x:Int} (hk:l[k]? = some x):∃ b o,A=some ⟨b,o,none⟩∧w.cell? ⟨b,o+k * 1,none⟩=some (.int .i64 x):=by
 obtain ⟨b,o,h1,h2⟩:=h k [.int .i64 x] (by unfold intsZ;rw [List.getElem?_map,hk];rfl)
 exact ⟨b,o,h1,by have:=h2 0 _ rfl;rwa [Nat.add_zero] at this⟩
structure InvI (n:Nat) (l:List Int) (k:Nat) (seen cells:List Value):Prop where
 le:k≤l.length
 sl:seen.length=n
 cl:cells.length=n
 rng:∀ i ∈ l.take k,0≤i∧i < (n:Int)
 nod:(l.take k).Nodup
 seen:∀ i:Nat,i < n→seen[i]? = some (.bool (decide ((i:Int) ∈ l.take k)))
 cells:∀ (j i:Nat),j < k→l[j]? = some (i:Int)→cells[i]? = some (b8 (UInt8.ofNat j))
theorem inv_zero' {n:Nat} {l:List Int}:InvI n l 0 (List.replicate n (.bool false)) (List.replicate n (.int .u8 0)) where
 le:=Nat.zero_le _
 sl:=List.length_replicate
 cl:=List.length_replicate
 rng:=fun i hi=>by simp at hi
 nod:=by simp
 seen:=fun i hi=>by rw [List.getElem?_replicate,if_pos hi];simp
 cells:=fun j i hj=>by omega
theorem inv_step {n:Nat} {l:List Int} {k i:Nat} {seen cells:List Value} (h:InvI n l k seen cells) (hk:l[k]? = some (i:Int)) (hi:i < n) (hs:(i:Int) ∉ l.take k):InvI n l (k+1) (seen.set i (.bool true)) (cells.set i (b8 (UInt8.ofNat k))):=by
 have hkl:=(List.getElem?_eq_some_iff.1 hk).1
 have ht:l.take (k+1)=l.take k++[(i:Int)]:=by rw [List.take_add_one,hk];rfl
 refine ⟨hkl,by rw [List.length_set];exact h.sl,by rw [List.length_set];exact h.cl,fun x hx=>?_,?_,fun j hj=>?_,fun j q hj hq=>?_⟩
 · rw [ht] at hx
   rcases List.mem_append.1 hx with hx | hx
   · exact h.rng x hx
   · rw [List.mem_singleton.1 hx];omega
 · rw [ht,List.nodup_append]
   refine ⟨h.nod,by simp,fun a ha b hb=>?_⟩
   rw [List.mem_singleton.1 hb];rintro rfl
   exact hs ha
 · rw [List.getElem?_set]
   by_cases e:i=j
   · subst e
     rw [if_pos rfl,if_pos (by rw [h.sl];exact hi),ht]
     simp
   · rw [if_neg e,h.seen j hj,ht]
     have:((j:Int) ∈ l.take k++[(i:Int)]) ↔ (j:Int) ∈ l.take k:=by
       rw [List.mem_append,List.mem_singleton]
       exact ⟨fun h=>h.elim id (fun h=>absurd (by omega) e),.inl⟩
     simp only [this]
 · rw [List.getElem?_set]
   by_cases e:i=q
   · subst e
     have hjk:j=k:=by
       rcases Nat.lt_or_ge j k with h1 | h1
       · exact absurd (List.mem_of_getElem? (i:=j) (by rw [List.getElem?_take,if_pos h1];exact hq)) hs
       · omega
     subst hjk
     rw [if_pos rfl,if_pos (by rw [h.cl];exact hi)]
   · rw [if_neg e]
     rcases Nat.lt_or_ge j k with h1 | h1
     · exact h.cells j q h1 hq
     · have:j=k:=by omega
       subst this;rw [hk] at hq
       exact absurd (by have:=Option.some.inj hq;omega) e
structure InvOut (n:Nat) (l:List Int) (cells:List Value):Prop where
 len:cells.length=n
 at':∀ i:Nat,i < n→cells[i]? = some (b8 (UInt8.ofNat (posZ l i)))
theorem inv_end {n:Nat} {l:List Int} {seen cells:List Value} (hl:l.length=n) (h:InvI n l l.length seen cells):IsPerm n l∧InvOut n l cells:=by
 have hp:IsPerm n l:=⟨hl,fun i hi=>h.rng i (by rw [List.take_length];exact hi),by have:=h.nod;rwa [List.take_length] at this⟩
 refine ⟨hp,h.cl,fun i hi=>?_⟩
 have:=pos_at hp hi
 exact h.cells _ i (by rw [hl];exact this.1) this.2
theorem seen_twice {l:List Int} {k:Nat} {x:Int} (h:l.Nodup) (hk:l[k]? = some x) (hm:x ∈ l.take k):False:=by
 obtain ⟨j,hj⟩:=List.mem_iff_getElem?.1 hm
 rw [List.getElem?_take] at hj
 split at hj
 · have:=nod_at h hk hj;omega
 · cases hj
theorem inverse_any (A:Option Addr) (C:Nat) (l:List Int) (n:Nat) (w0:World) (hA:RowsAt w0 A 1 (intsZ l)) (hn:n≤1000) (hl:l.length≤9223372036854775807) :
   Calls Tryz.prog 58 #[.slice A l.length C,.int .i64 (n:Int)] w0 fun e w'=>(IsPerm n l∧∃ b cells,e = .returned (.tuple #[.slice (some ⟨b,0,none⟩) n n,.bool true])∧InvOut n l cells∧Own w0 none w' [.blk b cells 5])∨(¬ IsPerm n l∧e = .returned (.tuple #[.slice none 0 0,.bool false])∧Below w0.heap.size w0 w'):=by
 have H:=Own.start w0 none
 refine enterF Tryz.func58 rfl Tryz.ntmps58 rfl (fun a F=>?_);refine cSR fun K1 hK1=>sAs F rfl rfl rfl (qAs rfl rfl rfl (qNK hK1 ?_));clear hK1;clear F a;intro a F;refine cSeq (fun K2 hK2=>?_);refine cSR fun K3 hK3=>sMv F rfl rfl rfl (qLen Tryz.underlying83 rfl rfl rfl (qMv rfl rfl rfl (qBin rfl rfl rfl rfl bNeq (qNK hK3 ?_))));clear hK3;clear F a;intro a F
 refine cIf F rfl (fun h13=>?_) (fun h13=>?_)
 ·
  replace h13:=bneT h13;refine cSR fun K4 hK4=>sAs F rfl rfl rfl (qAs rfl rfl rfl (qNK hK4 ?_));clear hK4;clear F a;intro a F;refine wp_ret ?_;simp only [Exit.then];refine bRet2 Tryz.results58 F rfl rfl ?_
  first
  | (have hne:¬ l.length=n:=by omega
     exact .inr ⟨fun h=>hne h.len,rfl,H.below⟩)
  | (have h37:decide ((i:Int) ∈ l.take k)=true:=h37
     exact .inr ⟨fun h=>seen_twice h.nod hx (of_decide_eq_true h37),rfl,H.below⟩)
  | (have hlt:x < 0:=h27
     exact .inr ⟨fun h=>by have:=h.rng x hmem;omega,rfl,H.below⟩)
  | (have hge:x ≥ (n:Int):=h32
     exact .inr ⟨fun h=>by have:=h.rng x hmem;omega,rfl,H.below⟩)
  | (have hkl:k=l.length:=by have:=hI'.le;omega
     subst hkl
     obtain ⟨g1,g2⟩:=inv_end hln hI'
     exact .inl ⟨g1,_,_,rfl,g2,H.sel [0] rfl rfl⟩)
 replace h13:=bneF h13
 have hln:l.length=n:=by omega
 refine wp_skip (hK2 _ _ (cSR fun K5 hK5=>sMv F rfl rfl rfl ?_));clear hK2;clear F a;intro a F;refine sMk (z:=.int .u8 0) (bytes:=1) H Tryz.underlying23 (by kernel_rfl) rfl F rfl rfl rfl rfl (by omega) (by omega) ?_;clear F a H;intro b15 a w F H;refine sAs F rfl rfl rfl (qNK hK5 (qSR fun K6 hK6=>qMv rfl rfl rfl ?_));clear hK5;clear F a;intro a F;refine sMk (z:=.bool false) (bytes:=1) H Tryz.underlying176 (by kernel_rfl) rfl F rfl rfl rfl rfl (by omega) (by omega) ?_;clear F a H;intro b17 a w F H;refine sAs F rfl rfl rfl (qNK hK6 ?_);clear hK6;clear F a;intro a F;refine cSeq (fun K7 hK7=>?_);refine cSR fun K8 hK8=>sMv F rfl rfl rfl (qLen Tryz.underlying83 rfl rfl rfl (qMv rfl rfl rfl (qNK hK8 ?_)));clear hK8;clear F a;intro a F;refine wp_block ?_
 refine cLoopR [1,6,7,18,19] (fun m ups w=>∃ (k:Nat) (seen cells:List Value),m=l.length - k∧ups=[(20,.int .i64 ((k:Nat):Int))]∧InvI n l k seen cells∧Own w0 none w [.blk b17 seen 4,.blk b15 cells 5]) F (l.length) [(20,.int .i64 ((0:Nat):Int))] (by repeat (first | exact SubR.nil | (apply SubR.cons;· rfl))) ?_ ?_ ?_
 · exact ⟨0,_,_,rfl,rfl,inv_zero',H.sel [0,1] rfl rfl⟩
 · repeat (first | exact trivial | refine Le.cons rfl ?_)
 clear F
 clear H
 intro m ups a w hI F
 obtain ⟨k,seen,cells,rfl,rfl,hI',H⟩:=hI
 refine cSR fun K9 hK9=>sBin F rfl rfl rfl rfl bLss (qNK hK9 ?_);clear hK9;clear F a;intro a F;refine cSeq (fun K10 hK10=>?_)
 refine cIf F rfl (fun h21=>?_) (fun h21=>?_)
 ·
  replace h21:=of_decide_eq_true h21
  have hkl:k < l.length:=by omega
  obtain ⟨x,hx⟩:∃ x,l[k]? = some x:=⟨_,List.getElem?_eq_getElem hkl⟩
  obtain ⟨bA,oA,rfl,hAx⟩:=intsZ_at hA hx
  have hmem:x ∈ l:=List.mem_of_getElem? hx
  refine wp_skip (hK10 _ _ ?_);clear hK10;refine cSeq (fun K11 hK11=>?_);refine wp_block ?_;refine cSR fun K12 hK12=>sMv F rfl rfl rfl ?_;clear F a;intro a F
  refine sIx Tryz.underlying83 Tryz.sizeOf3 F rfl rfl rfl rfl ?_ ?_
  focus (first | omega | decide | (simp;omega))
  clear F a;intro a F;refine sLd Tryz.isAgg3 F rfl rfl rfl (H.arg hAx) (qAs rfl rfl rfl (qAs rfl rfl rfl (qNK hK12 ?_)));clear hK12;clear F a;intro a F;refine cSeq (fun K13 hK13=>?_);refine cSR fun K14 hK14=>sMv F rfl rfl rfl (qBin rfl rfl rfl rfl bLss (qMv rfl rfl rfl ?_));clear F a;intro a F
  refine F.split 27 rfl ?_ ?_ <;> (clear F;intro h27 F)
  ·
   replace h27:=of_decide_eq_true h27;refine sSk F rfl rfl (qSk rfl rfl (qSk rfl rfl (qPk rfl rfl rfl rfl (qMv rfl rfl rfl (qSk rfl rfl (qSk rfl rfl (qSk rfl rfl (qSk rfl rfl (qPk rfl rfl rfl rfl (qNK hK14 ?_))))))))));clear hK14;clear F a;intro a F;refine cIfT F rfl ?_;refine cSR fun K15 hK15=>sAs F rfl rfl rfl (qAs rfl rfl rfl (qNK hK15 ?_));clear hK15;clear F a;intro a F;refine wp_ret ?_;simp only [Exit.inBlock,Exit.then];refine bRet2 Tryz.results58 F rfl rfl ?_
   first
   | (have hne:¬ l.length=n:=by omega
      exact .inr ⟨fun h=>hne h.len,rfl,H.below⟩)
   | (have h37:decide ((i:Int) ∈ l.take k)=true:=h37
      exact .inr ⟨fun h=>seen_twice h.nod hx (of_decide_eq_true h37),rfl,H.below⟩)
   | (have hlt:x < 0:=h27
      exact .inr ⟨fun h=>by have:=h.rng x hmem;omega,rfl,H.below⟩)
   | (have hge:x ≥ (n:Int):=h32
      exact .inr ⟨fun h=>by have:=h.rng x hmem;omega,rfl,H.below⟩)
   | (have hkl:k=l.length:=by have:=hI'.le;omega
      subst hkl
      obtain ⟨g1,g2⟩:=inv_end hln hI'
      exact .inl ⟨g1,_,_,rfl,g2,H.sel [1] rfl rfl⟩)
  replace h27:=of_decide_eq_false h27;refine sMv F rfl rfl rfl (qMv rfl rfl rfl (qBin rfl rfl rfl rfl bGeq (qPk rfl rfl rfl rfl (qMv rfl rfl rfl ?_))));clear F a;intro a F
  refine F.split 32 rfl ?_ ?_ <;> (clear F;intro h32 F)
  ·
   replace h32:=of_decide_eq_true h32;refine sSk F rfl rfl (qSk rfl rfl (qSk rfl rfl (qSk rfl rfl (qPk rfl rfl rfl rfl (qNK hK14 ?_)))));clear hK14;clear F a;intro a F;refine cIfT F rfl ?_;refine cSR fun K16 hK16=>sAs F rfl rfl rfl (qAs rfl rfl rfl (qNK hK16 ?_));clear hK16;clear F a;intro a F;refine wp_ret ?_;simp only [Exit.inBlock,Exit.then];refine bRet2 Tryz.results58 F rfl rfl ?_
   first
   | (have hne:¬ l.length=n:=by omega
      exact .inr ⟨fun h=>hne h.len,rfl,H.below⟩)
   | (have h37:decide ((i:Int) ∈ l.take k)=true:=h37
      exact .inr ⟨fun h=>seen_twice h.nod hx (of_decide_eq_true h37),rfl,H.below⟩)
   | (have hlt:x < 0:=h27
      exact .inr ⟨fun h=>by have:=h.rng x hmem;omega,rfl,H.below⟩)
   | (have hge:x ≥ (n:Int):=h32
      exact .inr ⟨fun h=>by have:=h.rng x hmem;omega,rfl,H.below⟩)
   | (have hkl:k=l.length:=by have:=hI'.le;omega
      subst hkl
      obtain ⟨g1,g2⟩:=inv_end hln hI'
      exact .inl ⟨g1,_,_,rfl,g2,H.sel [1] rfl rfl⟩)
  replace h32:=of_decide_eq_false h32
  obtain ⟨i,rfl⟩:∃ i:Nat,x=(i:Int):=⟨x.toNat,by omega⟩
  have hin:i < n:=by omega
  have hsl:=hI'.sl
  have hcl:=hI'.cl
  refine sMv F rfl rfl rfl (qMv rfl rfl rfl ?_);clear F a;intro a F
  refine sIx Tryz.underlying176 Tryz.sizeOf4 F rfl rfl rfl rfl ?_ ?_
  focus omega
  clear F a;intro a F;refine sLd Tryz.isAgg4 F rfl rfl rfl (H.cell 0 rfl (by simpa using hI'.seen i hin)) (qPk rfl rfl rfl rfl (qNK hK14 ?_));clear hK14;clear F a;intro a F
  refine cIf F rfl (fun h37=>?_) (fun h37=>?_)
  ·
   refine cSR fun K17 hK17=>sAs F rfl rfl rfl (qAs rfl rfl rfl (qNK hK17 ?_));clear hK17;clear F a;intro a F;refine wp_ret ?_;simp only [Exit.inBlock,Exit.then];refine bRet2 Tryz.results58 F rfl rfl ?_
   first
   | (have hne:¬ l.length=n:=by omega
      exact .inr ⟨fun h=>hne h.len,rfl,H.below⟩)
   | (have h37:decide ((i:Int) ∈ l.take k)=true:=h37
      exact .inr ⟨fun h=>seen_twice h.nod hx (of_decide_eq_true h37),rfl,H.below⟩)
   | (have hlt:x < 0:=h27
      exact .inr ⟨fun h=>by have:=h.rng x hmem;omega,rfl,H.below⟩)
   | (have hge:x ≥ (n:Int):=h32
      exact .inr ⟨fun h=>by have:=h.rng x hmem;omega,rfl,H.below⟩)
   | (have hkl:k=l.length:=by have:=hI'.le;omega
      subst hkl
      obtain ⟨g1,g2⟩:=inv_end hln hI'
      exact .inl ⟨g1,_,_,rfl,g2,H.sel [1] rfl rfl⟩)
  refine wp_skip (hK13 _ _ (cSR fun K18 hK18=>sMv F rfl rfl rfl (qMv rfl rfl rfl ?_)));clear hK13;clear F a;intro a F
  refine sIx Tryz.underlying176 Tryz.sizeOf4 F rfl rfl rfl rfl ?_ ?_
  focus omega
  clear F a;intro a F;refine sSt H 0 Tryz.sizeOf4 F rfl rfl rfl rfl rfl (by simpa using hI'.seen i hin) ?_;clear H;intro w H;refine nK hK18 (cReg (sMv F rfl rfl rfl (qMv rfl rfl rfl (qMv rfl rfl rfl (qCv Tryz.underlying3 Tryz.underlying5 rfl rfl rfl (wrap8 _) ?_)))));clear hK18;clear F a;intro a F
  refine sIx Tryz.underlying23 Tryz.sizeOf5 F rfl rfl rfl rfl ?_ ?_
  focus omega
  clear F a;intro a F
  refine sSt H 1 Tryz.sizeOf5 F rfl rfl rfl rfl rfl (List.getElem?_eq_getElem (by rw [hcl];omega)) ?_
  clear H;intro w H;refine nK hK11 (cReg ?_);clear hK11
  refine sBin F rfl rfl rfl rfl (bAddN (j:=1) ?_) ?_
  focus omega
  clear F a;intro a F;refine sMv F rfl rfl rfl ?_;clear F a;intro a F;refine sNil ?_
  (simp only [Nat.zero_add,Nat.mul_one] at H
   exact ⟨_,by omega,_,⟨k+1,_,_,rfl,rfl,inv_step hI' hx hin (of_decide_eq_false h37),H.sel [0,1] rfl rfl⟩,F.to (by repeat (first | exact trivial | refine Le.cons rfl ?_))⟩)
 replace h21:=of_decide_eq_false h21;refine wp_exit ?_;refine hK7 _ _ (cSR fun K19 hK19=>sMv F rfl rfl rfl (qAs rfl rfl rfl (qAs rfl rfl rfl (qNK hK19 ?_))));clear hK7 hK19;clear F a;intro a F;refine wp_ret ?_;refine bRet2 Tryz.results58 F rfl rfl ?_
 first
 | (have hne:¬ l.length=n:=by omega
    exact .inr ⟨fun h=>hne h.len,rfl,H.below⟩)
 | (have h37:decide ((i:Int) ∈ l.take k)=true:=h37
    exact .inr ⟨fun h=>seen_twice h.nod hx (of_decide_eq_true h37),rfl,H.below⟩)
 | (have hlt:x < 0:=h27
    exact .inr ⟨fun h=>by have:=h.rng x hmem;omega,rfl,H.below⟩)
 | (have hge:x ≥ (n:Int):=h32
    exact .inr ⟨fun h=>by have:=h.rng x hmem;omega,rfl,H.below⟩)
 | (have hkl:k=l.length:=by have:=hI'.le;omega
    subst hkl
    obtain ⟨g1,g2⟩:=inv_end hln hI'
    exact .inl ⟨g1,_,_,rfl,g2,H.sel [1] rfl rfl⟩)
-- TuB
open Go.Proofs.Tryz
open Go.RowKit
set_option maxRecDepth 100000
def finMid (f:By) (T:List Int) (k:Nat):By:=fun i=>if i < 32∧i / 8 < k then f (idxZ T (i / 8) * 8+i % 8) else f i
def finMid2 (f:By) (T L:List Int) (k:Nat):By:=fun i=>if i < 32 then finMid f T T.length i else if i - 32 < k then f (32+idxZ L (i - 32)) else f i
theorem fin_zero (f:By) (T:List Int) (i:Nat):finMid f T 0 i=f i:=by unfold finMid;rw [if_neg (by omega)]
theorem fin_step1 {f g:By} {T:List Int} {k:Nat} (hg:∀ i,i < 38→g i=finMid f T k i) (hk:k < 4) (i:Nat) (hi:i < 38):lay g (k * 8) 8 (cut f (idxZ T k * 8)) i=finMid f T (k+1) i:=by
 unfold lay finMid
 by_cases h:k * 8≤i∧i < k * 8+8
 · rw [if_pos h,if_pos (by omega)]
   unfold cut
   rw [show i / 8=k by omega]
   congr 1
   omega
 · rw [if_neg h,hg i hi]
   unfold finMid
   by_cases h2:i < 32∧i / 8 < k
   · rw [if_pos h2,if_pos (by omega)]
   · rw [if_neg h2,if_neg (by omega)]
theorem fin_turn {f g:By} {T:List Int} (L:List Int) (h4:T.length≤4) (hg:∀ i,i < 38→g i=finMid f T T.length i) (i:Nat) (hi:i < 38):g i=finMid2 f T L 0 i:=by
 rw [hg i hi]
 unfold finMid2
 by_cases h:i < 32
 · rw [if_pos h]
 · rw [if_neg h,if_neg (by omega)]
   unfold finMid
   rw [if_neg (by omega)]
theorem fin_step2 {f g:By} {T L:List Int} {k:Nat} (hg:∀ i,i < 38→g i=finMid2 f T L k i) (i:Nat) (hi:i < 38):put g (32+k) (f (32+idxZ L k)) i=finMid2 f T L (k+1) i:=by
 unfold put
 by_cases h:i=32+k
 · rw [if_pos h]
   unfold finMid2
   rw [if_neg (by omega),if_pos (by omega),show i - 32=k by omega]
 · rw [if_neg h,hg i hi]
   unfold finMid2
   by_cases h2:i < 32
   · rw [if_pos h2,if_pos h2]
   · rw [if_neg h2,if_neg h2]
     by_cases h3:i - 32 < k
     · rw [if_pos h3,if_pos (by omega)]
     · rw [if_neg h3,if_neg (by omega)]
theorem fin_done {f g:By} {T L:List Int} (hg:∀ i,i < 38→g i=finMid2 f T L L.length i) (i:Nat) (hi:i < 38):g i=finT f T L i:=by
 rw [hg i hi]
 unfold finMid2 finT finMid
 by_cases h:i < 32
 · rw [if_pos h,if_pos h]
   by_cases h2:i / 8 < T.length
   · rw [if_pos ⟨h,h2⟩,if_pos h2]
   · rw [if_neg (fun e=>h2 e.2),if_neg h2]
 · rw [if_neg h,if_neg h]
def FinGood (T L:List Int):Prop:=T.length≤4∧L.length≤6∧IsPerm T.length T∧IsPerm L.length L
set_option maxHeartbeats 1000000 in
theorem finalT_any (f:By) (A:Option Addr) (C:Nat) (T:List Int) (B:Option Addr) (D:Nat) (L:List Int) (n m:Nat) (w0:World) (hA:RowsAt w0 A 1 (intsZ T)) (hB:RowsAt w0 B 1 (intsZ L)) (hn:n=T.length) (hm:m=L.length) (hTl:T.length≤9223372036854775807) (hLl:L.length≤9223372036854775807) :
   Calls Tryz.prog 35 #[.agg (bs 38 f).toArray,.slice A n C,.slice B m D] w0 fun e w'=>∃ (g:By) (er:Int),e = .returned (.tuple #[.agg (bs 38 g).toArray,.int .i64 er])∧(FinGood T L→er=0∧bs 38 g=bs 38 (finT f T L))∧Below w0.heap.size w0 w':=by
 subst hn hm
 have H:=Own.start w0 none
 refine enterF func35 rfl ntmps35 rfl (fun a F=>?_);refine cSR fun K1 hK1=>?_;refine sBxB H F rfl rfl rfl ?_;clear F a H;intro b3 a w F H;refine sAlB H zB47 F rfl rfl ?_;clear F a H;intro b6 a w F H;refine sAs F rfl rfl rfl (qNK hK1 ?_);clear hK1;clear F a;intro a F;refine cSeq (fun K2 hK2=>?_);refine cSR fun K3 hK3=>sMv F rfl rfl rfl (qLen underlying83 rfl rfl rfl (qBin rfl rfl rfl rfl bGtr (qMv rfl rfl rfl ?_)));clear F a;intro a F
 refine F.split 20 rfl ?_ ?_ <;> (clear F;intro h20 F)
 ·
  replace h20:=of_decide_eq_true h20;refine sSk F rfl rfl (qSk rfl rfl (qSk rfl rfl (qPk rfl rfl rfl rfl (qNK hK3 ?_))));clear hK3;clear F a;intro a F;refine cIfT F rfl ?_;refine cSR fun K4 hK4=>sBdB (places:=[(0,32),(32,6)]) zB47 underlying47 (by kernel_rfl) F rfl rfl rfl FillB.nil ?_;clear F a;intro a F;refine sSrB H 0 sizeOf47 F rfl rfl rfl rfl (by omega) ?_;clear H;intro w H;rw [lay_all] at H;refine sAs F rfl rfl rfl (qNK hK4 ?_);clear hK4;clear F a;intro a F;refine wp_ret ?_;simp only [Exit.then];refine bRetB1 results35 F rfl rfl underlying47 rfl sizeOf47 H 0 rfl ?_
  first
  | (subst hkL
     exact ⟨g2,0,rfl,fun _=>⟨rfl,bs_ext (fun i hi=>fin_done hg2 i hi)⟩,H.below⟩)
  | (have h44:o40=false:=h44
     refine ⟨zb,2,rfl,fun hh=>?_,H.below⟩
     have:=hpL.2 hh.2.2.2
     rw [h44] at this;cases this)
  | (have h34:o30=false:=h34
     refine ⟨zb,2,rfl,fun hh=>?_,H.below⟩
     have:=hpT.2 hh.2.2.1
     rw [h34] at this;cases this)
  | (refine ⟨zb,2,rfl,fun hh=>?_,H.below⟩
     have h1:=hh.1
     have h2:=hh.2.1
     omega)
 replace h20:=of_decide_eq_false h20;refine sMv F rfl rfl rfl (qLen underlying83 rfl rfl rfl (qBin rfl rfl rfl rfl bGtr (qPk rfl rfl rfl rfl (qNK hK3 ?_))));clear hK3;clear F a;intro a F
 refine cIf F rfl (fun h24=>?_) (fun h24=>?_)
 ·
  replace h24:=of_decide_eq_true h24;refine cSR fun K5 hK5=>sBdB (places:=[(0,32),(32,6)]) zB47 underlying47 (by kernel_rfl) F rfl rfl rfl FillB.nil ?_;clear F a;intro a F;refine sSrB H 0 sizeOf47 F rfl rfl rfl rfl (by omega) ?_;clear H;intro w H;rw [lay_all] at H;refine sAs F rfl rfl rfl (qNK hK5 ?_);clear hK5;clear F a;intro a F;refine wp_ret ?_;simp only [Exit.then];refine bRetB1 results35 F rfl rfl underlying47 rfl sizeOf47 H 0 rfl ?_
  first
  | (subst hkL
     exact ⟨g2,0,rfl,fun _=>⟨rfl,bs_ext (fun i hi=>fin_done hg2 i hi)⟩,H.below⟩)
  | (have h44:o40=false:=h44
     refine ⟨zb,2,rfl,fun hh=>?_,H.below⟩
     have:=hpL.2 hh.2.2.2
     rw [h44] at this;cases this)
  | (have h34:o30=false:=h34
     refine ⟨zb,2,rfl,fun hh=>?_,H.below⟩
     have:=hpT.2 hh.2.2.1
     rw [h34] at this;cases this)
  | (refine ⟨zb,2,rfl,fun hh=>?_,H.below⟩
     have h1:=hh.1
     have h2:=hh.2.1
     omega)
 replace h24:=of_decide_eq_false h24
 have h4:T.length≤4:=by omega
 have h6:L.length≤6:=by omega
 refine wp_skip (hK2 _ _ ?_);clear hK2;refine cSeq (fun K6 hK6=>?_);refine cSR fun K7 hK7=>sMv F rfl rfl rfl (qMv rfl rfl rfl (qLen underlying83 rfl rfl rfl ?_));clear F a;intro a F;refine sCall call58 F rfl rfl rfl (inverse_any A C T T.length _ (hA.own H) (by omega) hTl) ?_;rintro e w hinv
 (obtain ⟨v30,o30,rfl,hpT,hb⟩:∃ v30 o30,e = .returned (.tuple #[v30,.bool o30])∧(o30=true ↔ IsPerm T.length T)∧Own _ none w []:=(by rcases hinv with ⟨g1,b,cells,g2,_,g3⟩ | ⟨g1,g2,g3⟩;exact ⟨_,_,g2,by simp [g1],g3.sel [] rfl rfl⟩;exact ⟨_,_,g2,by simp [g1],(Own.start _ none).grow g3⟩);replace H:=H.join hb;clear hb hinv)
 refine ⟨_,rfl,?_⟩;clear F a;intro a F;refine sMv F rfl rfl rfl (qExt rfl rfl rfl rfl (qExt rfl rfl rfl rfl (qAs rfl rfl rfl (qAs rfl rfl rfl (qNK hK7 (qSR fun K8 hK8=>qMv rfl rfl rfl (qNot rfl rfl rfl (qNK hK8 ?_))))))));clear hK7 hK8;clear F a;intro a F
 refine cIf F rfl (fun h34=>?_) (fun h34=>?_)
 ·
  replace h34:=notT h34;refine cSR fun K9 hK9=>sBdB (places:=[(0,32),(32,6)]) zB47 underlying47 (by kernel_rfl) F rfl rfl rfl FillB.nil ?_;clear F a;intro a F;refine sSrB H 0 sizeOf47 F rfl rfl rfl rfl (by omega) ?_;clear H;intro w H;rw [lay_all] at H;refine sAs F rfl rfl rfl (qNK hK9 ?_);clear hK9;clear F a;intro a F;refine wp_ret ?_;simp only [Exit.then];refine bRetB1 results35 F rfl rfl underlying47 rfl sizeOf47 H 0 rfl ?_
  first
  | (subst hkL
     exact ⟨g2,0,rfl,fun _=>⟨rfl,bs_ext (fun i hi=>fin_done hg2 i hi)⟩,H.below⟩)
  | (have h44:o40=false:=h44
     refine ⟨zb,2,rfl,fun hh=>?_,H.below⟩
     have:=hpL.2 hh.2.2.2
     rw [h44] at this;cases this)
  | (have h34:o30=false:=h34
     refine ⟨zb,2,rfl,fun hh=>?_,H.below⟩
     have:=hpT.2 hh.2.2.1
     rw [h34] at this;cases this)
  | (refine ⟨zb,2,rfl,fun hh=>?_,H.below⟩
     have h1:=hh.1
     have h2:=hh.2.1
     omega)
 replace h34:=notF h34
 have hpT':IsPerm T.length T:=hpT.1 h34
 refine wp_skip (hK6 _ _ ?_);clear hK6;refine cSeq (fun K10 hK10=>?_);refine cSR fun K11 hK11=>sMv F rfl rfl rfl (qMv rfl rfl rfl (qLen underlying83 rfl rfl rfl ?_));clear F a;intro a F;refine sCall call58 F rfl rfl rfl (inverse_any B D L L.length _ (hB.own H) (by omega) hLl) ?_;rintro e w hinv
 (obtain ⟨v40,o40,rfl,hpL,hb⟩:∃ v40 o40,e = .returned (.tuple #[v40,.bool o40])∧(o40=true ↔ IsPerm L.length L)∧Own _ none w []:=(by rcases hinv with ⟨g1,b,cells,g2,_,g3⟩ | ⟨g1,g2,g3⟩;exact ⟨_,_,g2,by simp [g1],g3.sel [] rfl rfl⟩;exact ⟨_,_,g2,by simp [g1],(Own.start _ none).grow g3⟩);replace H:=H.join hb;clear hb hinv)
 refine ⟨_,rfl,?_⟩;clear F a;intro a F;refine sMv F rfl rfl rfl (qExt rfl rfl rfl rfl (qExt rfl rfl rfl rfl (qAs rfl rfl rfl (qAs rfl rfl rfl (qNK hK11 (qSR fun K12 hK12=>qMv rfl rfl rfl (qNot rfl rfl rfl (qNK hK12 ?_))))))));clear hK11 hK12;clear F a;intro a F
 refine cIf F rfl (fun h44=>?_) (fun h44=>?_)
 ·
  replace h44:=notT h44;refine cSR fun K13 hK13=>sBdB (places:=[(0,32),(32,6)]) zB47 underlying47 (by kernel_rfl) F rfl rfl rfl FillB.nil ?_;clear F a;intro a F;refine sSrB H 0 sizeOf47 F rfl rfl rfl rfl (by omega) ?_;clear H;intro w H;rw [lay_all] at H;refine sAs F rfl rfl rfl (qNK hK13 ?_);clear hK13;clear F a;intro a F;refine wp_ret ?_;simp only [Exit.then];refine bRetB1 results35 F rfl rfl underlying47 rfl sizeOf47 H 0 rfl ?_
  first
  | (subst hkL
     exact ⟨g2,0,rfl,fun _=>⟨rfl,bs_ext (fun i hi=>fin_done hg2 i hi)⟩,H.below⟩)
  | (have h44:o40=false:=h44
     refine ⟨zb,2,rfl,fun hh=>?_,H.below⟩
     have:=hpL.2 hh.2.2.2
     rw [h44] at this;cases this)
  | (have h34:o30=false:=h34
     refine ⟨zb,2,rfl,fun hh=>?_,H.below⟩
     have:=hpT.2 hh.2.2.1
     rw [h34] at this;cases this)
  | (refine ⟨zb,2,rfl,fun hh=>?_,H.below⟩
     have h1:=hh.1
     have h2:=hh.2.1
     omega)
 replace h44:=notF h44
 have hpL':IsPerm L.length L:=hpL.1 h44
 refine wp_skip (hK10 _ _ (cSR fun K14 hK14=>sLrB underlying47 rfl sizeOf47 F rfl rfl rfl (H.whole 1 rfl) ?_));clear hK10;clear F a;intro a F;refine sAlB H zB47 F rfl rfl ?_;clear F a H;intro b12 a w F H;refine sSrB H 0 sizeOf47 F rfl rfl rfl rfl (by omega) ?_;clear H;intro w H;rw [lay_all] at H;refine nK hK14 ?_;clear hK14;refine cSeq (fun K15 hK15=>?_);refine cSR fun K16 hK16=>sMv F rfl rfl rfl (qLen underlying83 rfl rfl rfl (qMv rfl rfl rfl (qNK hK16 ?_)));clear hK16;clear F a;intro a F;refine wp_block ?_
 refine cLoopR [2,3,6,12,47,48] (fun m ups w=>∃ (k:Nat) (g:By),m=T.length - k∧ups=[(49,.int .i64 ((k:Nat):Int))]∧k≤T.length∧(∀ i,i < 38→g i=finMid f T k i)∧Own w0 none w [.blk b12 (bs 38 g) 47,.blk b6 (bs 38 zb) 47,.blk b3 (bs 38 f) 47]) F (T.length) [(49,.int .i64 ((0:Nat):Int))] (by repeat (first | exact SubR.nil | (apply SubR.cons;· rfl))) ?_ ?_ ?_
 · exact ⟨0,f,rfl,rfl,Nat.zero_le _,fun i _=>(fin_zero f T i).symm,H.sel [0,1,2] rfl rfl⟩
 · repeat (first | exact trivial | refine Le.cons rfl ?_)
 clear F
 clear H
 intro m ups a w hI F
 obtain ⟨k,g,rfl,rfl,hk,hg,H⟩:=hI
 refine cSR fun K17 hK17=>sBin F rfl rfl rfl rfl bLss (qNK hK17 ?_);clear hK17;clear F a;intro a F;refine cSeq (fun K18 hK18=>?_)
 refine cIf F rfl (fun h50=>?_) (fun h50=>?_)
 ·
  replace h50:=of_decide_eq_true h50
  have hkl:k < T.length:=by omega
  obtain ⟨hx,hxn⟩:=idx_at hpT' hkl
  obtain ⟨bA,oA,rfl,hAx⟩:=intsZ_at hA hx
  refine wp_skip (hK18 _ _ ?_);clear hK18;refine cSeq (fun K19 hK19=>?_);refine wp_block ?_;refine cSR fun K20 hK20=>sMv F rfl rfl rfl ?_;clear F a;intro a F
  refine sIx underlying83 sizeOf3 F rfl rfl rfl rfl ?_ ?_
  focus (first | omega | decide | (simp;omega))
  clear F a;intro a F;refine sLd isAgg3 F rfl rfl rfl (H.arg hAx) (qAs rfl rfl rfl (qAs rfl rfl rfl (qNK hK20 (qReg (qMv rfl rfl rfl (qMv rfl rfl rfl (qFa (f:=0) (k:=0) underlying47 rfl sizeOf44 rfl rfl rfl rfl rfl ?_)))))));clear hK20;clear F a;intro a F
  refine sIaZ underlying44 sizeOf43 F rfl rfl rfl rfl ?_ ?_
  focus omega
  clear F a;intro a F;refine sLrB underlying43 rfl sizeOf43 F rfl rfl rfl (H.rangeB 2 _ 8 rfl (by omega)) (qFa (f:=0) (k:=0) underlying47 rfl sizeOf44 rfl rfl rfl rfl rfl ?_);clear F a;intro a F
  refine sIaZ underlying44 sizeOf43 F rfl rfl rfl rfl ?_ ?_
  focus omega
  clear F a;intro a F;refine sSrB H 0 sizeOf43 F rfl rfl rfl rfl (by omega) ?_;clear H;intro w H;refine nK hK19 (cReg ?_);clear hK19
  refine sBin F rfl rfl rfl rfl (bAddN (j:=1) ?_) ?_
  focus omega
  clear F a;intro a F;refine sMv F rfl rfl rfl ?_;clear F a;intro a F;refine sNil ?_
  exact ⟨_,by omega,_,⟨k+1,_,rfl,rfl,hkl,fun i hi=>fin_step1 hg (by omega) i hi,H.sel [0,1,2] rfl rfl⟩,F.to (by repeat (first | exact trivial | refine Le.cons rfl ?_))⟩
 replace h50:=of_decide_eq_false h50
 have hkT:k=T.length:=by omega
 refine wp_exit ?_;refine hK15 _ _ ?_;clear hK15;refine cSeq (fun K21 hK21=>?_);refine cSR fun K22 hK22=>sMv F rfl rfl rfl (qLen underlying83 rfl rfl rfl (qMv rfl rfl rfl (qNK hK22 ?_)));clear hK22;clear F a;intro a F;refine wp_block ?_
 refine cLoopR [3,6,12,62,63] (fun m ups w=>∃ (k:Nat) (g:By),m=L.length - k∧ups=[(64,.int .i64 ((k:Nat):Int))]∧k≤L.length∧(∀ i,i < 38→g i=finMid2 f T L k i)∧Own w0 none w [.blk b12 (bs 38 g) 47,.blk b6 (bs 38 zb) 47,.blk b3 (bs 38 f) 47]) F (L.length) [(64,.int .i64 ((0:Nat):Int))] (by repeat (first | exact SubR.nil | (apply SubR.cons;· rfl))) ?_ ?_ ?_
 · exact ⟨0,g,rfl,rfl,Nat.zero_le _,fun i hi=>fin_turn L h4 (fun i hi=>by rw [hg i hi,hkT]) i hi,H.sel [0,1,2] rfl rfl⟩
 · repeat (first | exact trivial | refine Le.cons rfl ?_)
 clear F
 clear H
 intro m ups a w hI F
 obtain ⟨k2,g2,rfl,rfl,hk2,hg2,H⟩:=hI
 refine cSR fun K23 hK23=>sBin F rfl rfl rfl rfl bLss (qNK hK23 ?_);clear hK23;clear F a;intro a F;refine cSeq (fun K24 hK24=>?_)
 refine cIf F rfl (fun h65=>?_) (fun h65=>?_)
 ·
  replace h65:=of_decide_eq_true h65
  have hkl2:k2 < L.length:=by omega
  obtain ⟨hx2,hxn2⟩:=idx_at hpL' hkl2
  obtain ⟨bB,oB,rfl,hBx⟩:=intsZ_at hB hx2
  refine wp_skip (hK24 _ _ ?_);clear hK24;refine cSeq (fun K25 hK25=>?_);refine wp_block ?_;refine cSR fun K26 hK26=>sMv F rfl rfl rfl ?_;clear F a;intro a F
  refine sIx underlying83 sizeOf3 F rfl rfl rfl rfl ?_ ?_
  focus (first | omega | decide | (simp;omega))
  clear F a;intro a F;refine sLd isAgg3 F rfl rfl rfl (H.arg hBx) (qAs rfl rfl rfl (qAs rfl rfl rfl (qNK hK26 (qReg (qMv rfl rfl rfl (qMv rfl rfl rfl (qFa (f:=1) (k:=32) underlying47 rfl sizeOf45 rfl rfl rfl rfl rfl ?_)))))));clear hK26;clear F a;intro a F
  refine sIa1 underlying45 sizeOf5 F rfl rfl rfl rfl ?_ ?_
  focus omega
  clear F a;intro a F;refine sLd isAgg5 F rfl rfl rfl (H.cellB 2 rfl (by omega)) (qFa (f:=1) (k:=32) underlying47 rfl sizeOf45 rfl rfl rfl rfl rfl ?_);clear F a;intro a F
  refine sIa1 underlying45 sizeOf5 F rfl rfl rfl rfl ?_ ?_
  focus omega
  clear F a;intro a F;refine sStB H 0 sizeOf5 F rfl rfl rfl rfl (by omega) ?_;clear H;intro w H;refine nK hK25 (cReg ?_);clear hK25
  refine sBin F rfl rfl rfl rfl (bAddN (j:=1) ?_) ?_
  focus omega
  clear F a;intro a F;refine sMv F rfl rfl rfl ?_;clear F a;intro a F;refine sNil ?_
  exact ⟨_,by omega,_,⟨k2+1,_,rfl,rfl,hkl2,fun i hi=>fin_step2 hg2 i hi,H.sel [0,1,2] rfl rfl⟩,F.to (by repeat (first | exact trivial | refine Le.cons rfl ?_))⟩
 replace h65:=of_decide_eq_false h65
 have hkL:k2=L.length:=by omega
 refine wp_exit ?_;refine hK21 _ _ (cSR fun K27 hK27=>sLrB underlying47 rfl sizeOf47 F rfl rfl rfl (H.whole 0 rfl) ?_);clear hK21;clear F a;intro a F;refine sSrB H 1 sizeOf47 F rfl rfl rfl rfl (by omega) ?_;clear H;intro w H;rw [lay_all] at H;refine sAs F rfl rfl rfl (qNK hK27 ?_);clear hK27;clear F a;intro a F;refine wp_ret ?_;refine bRetB1 results35 F rfl rfl underlying47 rfl sizeOf47 H 1 rfl ?_
 first
 | (subst hkL
    exact ⟨g2,0,rfl,fun _=>⟨rfl,bs_ext (fun i hi=>fin_done hg2 i hi)⟩,H.below⟩)
 | (have h44:o40=false:=h44
    refine ⟨zb,2,rfl,fun hh=>?_,H.below⟩
    have:=hpL.2 hh.2.2.2
    rw [h44] at this;cases this)
 | (have h34:o30=false:=h34
    refine ⟨zb,2,rfl,fun hh=>?_,H.below⟩
    have:=hpT.2 hh.2.2.1
    rw [h34] at this;cases this)
 | (refine ⟨zb,2,rfl,fun hh=>?_,H.below⟩
    have h1:=hh.1
    have h2:=hh.2.1
    omega)
-- FoA
open Go.Proofs.Tryz
open Go.RowKit
set_option maxRecDepth 100000
def bl (l:List Bool):List Value:=l.map .bool
@[simp] theorem bl_length (l:List Bool):(bl l).length=l.length:=by simp [bl]
-- DpC
-- RfP
section
variable {x:Ins} {locs after:Int}
end
-- FoP
-- FoB
open Go.Proofs.Tryz
open Go.RowKit
set_option maxRecDepth 100000
structure SkipAt (w:World) (A:Option Addr) (l:List Ins) (b:Nat) (alive:List Bool) (i:Nat) (x:Ins):Prop where
 rows:RowsAt w A 10 (l.map Ins.cells)
 al:w.rangeAt b 0 (bl alive)
 at':l[i]? = some x
 len:alive.length=l.length
 l12:l.length≤12
 pos:1≤x.skip.toNat
 fit:i+1+x.skip.toNat≤l.length
theorem SkipAt.own {w0 w:World} {rs:List Res} {A:Option Addr} {l:List Ins} {b:Nat} {alive:List Bool} {i:Nat} {x:Ins} (h:SkipAt w0 A l b alive i x) (H:Own w0 none w rs):SkipAt w A l b alive i x:=⟨h.rows.own H,H.argR h.al,h.at',h.len,h.l12,h.pos,h.fit⟩
-- FoC
open Go.Proofs.Tryz
open Go.RowKit
set_option maxRecDepth 100000
theorem Own.startRow {w:World} {b:Nat} {cs:List Value} {t:TypeId} (h:Blk w b cs t):Own w (some b) w [.blk b cs t] where
 grown:=only_refl w _
 pred:=fun i r hi=>by
   cases i with
   | zero=>cases hi;exact h
   | succ i=>simp at hi
 foot:=fun i r hi c hc=>by
   cases i with
   | zero=>
     cases hi
     have hc:c=b:=hc
     subst hc
     exact ⟨.inr rfl,(Array.getElem?_eq_some_iff.1 h).1⟩
   | succ i=>simp at hi
 apart:=fun i j r s hi hj hij=>by
   cases i with
   | zero=>cases j with
     | zero=>exact absurd rfl hij
     | succ j=>simp at hj
   | succ i=>simp at hi
-- FoD
open Go.Proofs.Tryz
open Go.RowKit
set_option maxRecDepth 100000
-- TrQ
open Go.RowKit
set_option maxRecDepth 100000
def TreeIn (S:Nat→Prop) (w:World):Nat→List Value→Cnd→Prop
 | 0,_,_=>False
 | h+1,cs,.mk k t n v kids=>∃ A C,cs=[b8 k,b8 t,b8 n,b8 v,.slice A kids.length C]∧kids.length≤9223372036854775807 ∧
     ∀ j kid,kids[j]? = some kid→∃ b off cs',A=some ⟨b,off,none⟩∧S b∧w.rangeAt b (off+j * 5) cs'∧TreeIn S w h cs' kid
theorem TreeIn.at {S:Nat→Prop} {w:World}:∀ {h:Nat} {cs:List Value} {c:Cnd},TreeIn S w h cs c→CondAt w h cs c
 | 0,_,_,hc=>hc
 | h+1,cs,.mk k t n v kids,⟨A,C,h1,h2,h3⟩=>⟨A,C,h1,h2,fun j kid hj=>by
   obtain ⟨b,off,cs',h4,_,h6,h7⟩:=h3 j kid hj
   exact ⟨b,off,cs',h4,h6,h7.at⟩⟩
theorem range_same {w w':World} {b o:Nat} {cs:List Value} (h:w'.heap[b]? = w.heap[b]?) (hr:w.rangeAt b o cs):w'.rangeAt b o cs:=fun k v hk=>by
 have:=hr k v hk
 unfold World.cell? at this ⊢
 simp only [h]
 exact this
theorem TreeIn.loc {S T:Nat→Prop} {w w':World} (hs:∀ b,S b→w'.heap[b]? = w.heap[b]?) (hT:∀ b,S b→T b):∀ {h:Nat} {cs:List Value} {c:Cnd},TreeIn S w h cs c→TreeIn T w' h cs c
 | 0,_,_,hc=>hc
 | h+1,cs,.mk k t n v kids,⟨A,C,h1,h2,h3⟩=>⟨A,C,h1,h2,fun j kid hj=>by
   obtain ⟨b,off,cs',h4,h5,h6,h7⟩:=h3 j kid hj
   exact ⟨b,off,cs',h4,hT b h5,range_same (hs b h5) h6,h7.loc hs hT⟩⟩
def Res.tree (S:Nat→Prop) (h:Nat) (cs:List Value) (c:Cnd):Res:=⟨S,fun w=>TreeIn S w h cs c,fun _ _ hb hp=>hp.loc hb (fun _ h=>h)⟩
def Res.forest (S:Nat→Prop) (h:Nat) (rows:List (List Value)) (kids:List Cnd):Res:=
 ⟨S,fun w=>∀ (j:Nat) (r:List Value) (kid:Cnd),rows[j]? = some r→kids[j]? = some kid→TreeIn S w h r kid,fun _ _ hb hp j r kid h1 h2=>(hp j r kid h1 h2).loc hb (fun _ h=>h)⟩
theorem condShape {w:World}:∀ {h:Nat} {cs:List Value} {c:Cnd},CondAt w h cs c→∃ k t n v A m C,cs=[b8 k,b8 t,b8 n,b8 v,.slice A m C]
 | 0,_,_,h=>h.elim
 | _+1,cs,.mk _ _ _ _ _,h=>by obtain ⟨A,C,rfl,_⟩:=h;exact ⟨_,_,_,_,_,_,_,rfl⟩
theorem Own.plant {w0 w:World} {row:Option Nat} {S T:Nat→Prop} {h:Nat} {cs:List Value} {c:Cnd} {rows:List (List Value)} {kids:List Cnd} {rs:List Res} (H:Own w0 row w (.tree T h cs c :: .forest S h rows kids :: rs)) (hk:kids[rows.length]? = some c) :
   Own w0 row w (.forest (fun b=>T b∨S b) h (rows++[cs]) kids :: rs):=by
 have hT:TreeIn T w h cs c:=H.pred 0 _ rfl
 have hS:∀ (j:Nat) (r:List Value) (kid:Cnd),rows[j]? = some r→kids[j]? = some kid→TreeIn S w h r kid:=H.pred 1 _ rfl
 refine H.fuse (.forest (fun b=>T b∨S b) h (rows++[cs]) kids) (show ∀ (j:Nat) (r:List Value) (kid:Cnd),(rows++[cs])[j]? = some r→kids[j]? = some kid→TreeIn (fun b=>T b∨S b) w h r kid from fun j r kid h1 h2=>?_) (fun b hb=>hb)
 rcases Nat.lt_or_ge j rows.length with hj | hj
 · rw [List.getElem?_append_left hj] at h1
   exact (hS j r kid h1 h2).loc (fun _ _=>rfl) (fun _ h=>.inr h)
 · rw [List.getElem?_append_right hj] at h1
   obtain e:j - rows.length=0:=by
     rcases Nat.eq_zero_or_pos (j - rows.length) with e | e
     · exact e
     · rw [List.getElem?_eq_none (by simp;omega)] at h1;cases h1
   rw [e] at h1
   obtain rfl:j=rows.length:=by omega
   rw [hk] at h2
   cases h1;cases h2
   exact hT.loc (fun _ _=>rfl) (fun _ h=>.inl h)
theorem Own.grown1 {w0 w:World} {row:Option Nat} {S:Nat→Prop} {h c:Nat} {e:TypeId} {A:Option Addr} {rows:List (List Value)} {kids:List Cnd} {rs:List Res} (k t n v:UInt8) (H:Own w0 row w (.forest S h rows kids :: .rws e 5 (.slice A rows.length c) rows :: rs)) (hl:rows.length=kids.length)
   (hr:∀ r ∈ rows,r.length=5) (hm:kids.length≤9223372036854775807) :
   Own w0 row w (.tree (fun b=>S b∨(Value.slice A rows.length c).ownBlock=some b) (h+1) [b8 k,b8 t,b8 n,b8 v,.slice A rows.length c] (.mk k t n v kids) :: rs):=by
 have hS:∀ (j:Nat) (r:List Value) (kid:Cnd),rows[j]? = some r→kids[j]? = some kid→TreeIn S w h r kid:=H.pred 0 _ rfl
 refine H.fuse (.tree (fun b=>S b∨(Value.slice A rows.length c).ownBlock=some b) (h+1) [b8 k,b8 t,b8 n,b8 v,.slice A rows.length c] (.mk k t n v kids)) (show TreeIn (fun b=>S b∨(Value.slice A rows.length c).ownBlock=some b) w (h+1) [b8 k,b8 t,b8 n,b8 v,.slice A rows.length c] (.mk k t n v kids) from ⟨A,c,by rw [hl],hm,fun j kid hj=>?_⟩) (fun b hb=>hb)
 have hjl:j < rows.length:=by rw [hl];exact (List.getElem?_eq_some_iff.1 hj).1
 obtain ⟨r,hrj⟩:∃ r,rows[j]? = some r:=⟨_,List.getElem?_eq_getElem hjl⟩
 obtain ⟨b,off,rfl,h2⟩:=H.rowsAt 1 rfl hr (by omega) j r hrj
 exact ⟨b,off,r,rfl,.inr rfl,h2,(hS j r kid hrj hj).loc (fun _ _=>rfl) (fun _ h=>.inl h)⟩
def Res.held (S:Nat→Prop) (A:Option Addr) (sz:Nat) (rows:List (List Value)):Res:=
 ⟨S,fun w=>∀ (j:Nat) (cs:List Value),rows[j]? = some cs→∃ b off,A=some ⟨b,off,none⟩∧S b∧w.rangeAt b (off+j * sz) cs,fun _ _ hb hp j cs h=>by
   obtain ⟨b,off,h1,h2,h3⟩:=hp j cs h
   exact ⟨b,off,h1,h2,range_same (hb b h2) h3⟩⟩
theorem Own.held {w0 w:World} {row:Option Nat} {S:Nat→Prop} {A:Option Addr} {sz:Nat} {rows:List (List Value)} {rs:List Res} (H:Own w0 row w rs) (i:Nat) (hi:rs[i]? = some (.held S A sz rows)):RowsAt w A sz rows:=fun j cs h=>by
 obtain ⟨b,off,h1,_,h3⟩:=(H.pred i _ hi:∀ (j:Nat) (cs:List Value),rows[j]? = some cs→∃ b off,A=some ⟨b,off,.none⟩∧S b∧w.rangeAt b (off+j * sz) cs) j cs h
 exact ⟨b,off,h1,h3⟩
theorem Own.toHeld {w0 w:World} {row:Option Nat} {e:TypeId} {n c sz:Nat} {A:Option Addr} {rows:List (List Value)} {rs:List Res} (H:Own w0 row w (.rws e sz (.slice A n c) rows :: rs)) (hr:∀ r ∈ rows,r.length=sz) (hsz:0 < sz) :
   Own w0 row w (.held (fun b=>(Value.slice A n c).ownBlock=some b) A sz rows :: rs):=by
 have h:=H.rowsAt 0 rfl hr hsz
 refine H.seen (.held (fun b=>(Value.slice A n c).ownBlock=some b) A sz rows) (show ∀ (j:Nat) (cs:List Value),rows[j]? = some cs→∃ b off,A=some ⟨b,off,.none⟩∧(Value.slice A n c).ownBlock=some b∧w.rangeAt b (off+j * sz) cs from fun j cs hj=>?_) (fun b hb=>hb)
 obtain ⟨b,off,h1,h2⟩:=h j cs hj
 exact ⟨b,off,h1,by rw [h1];rfl,h2⟩
-- FoE
open Go.RowKit
set_option maxRecDepth 100000
def Slim:Nat→Cnd→Prop
 | 0,_=>True
 | h+1,.mk _ _ _ _ kids=>kids.length≤4398046510976∧∀ kid ∈ kids,Slim h kid
-- TuC
open Go.Proofs.Tryz
open Go.RowKit
set_option maxRecDepth 100000
structure TabsAt (w:World) (b9 b11 bt bl n m:Nat) (T L:List Int):Prop where
 t:w.cell? ⟨b9,0,none⟩=some (.slice (some ⟨bt,0,none⟩) n n)
 l:w.cell? ⟨b11,0,none⟩=some (.slice (some ⟨bl,0,none⟩) m m)
 tc:∀ i,i < n→w.cell? ⟨bt,i,none⟩=some (b8 (UInt8.ofNat (posZ T i)))
 lc:∀ i,i < m→w.cell? ⟨bl,i,none⟩=some (b8 (UInt8.ofNat (posZ L i)))
structure TabsNot (w:World) (b b9 b11 bt bl n m:Nat) (T L:List Int):Prop where
 at':TabsAt w b9 b11 bt bl n m T L
 t:b9 ≠ b
 l:b11 ≠ b
 tc:∀ i,i < n→bt ≠ b
 lc:∀ i,i < m→bl ≠ b
section
variable {w0 w:World} {rs:List Res} {b b9 b11 bt bl n m:Nat} {T L:List Int}
theorem TabsAt.own (h:TabsAt w0 b9 b11 bt bl n m T L) (H:Own w0 none w rs):TabsAt w b9 b11 bt bl n m T L:=⟨H.arg h.t,H.arg h.l,fun i hi=>H.arg (h.tc i hi),fun i hi=>H.arg (h.lc i hi)⟩
theorem new_ne {cs:List Value} {t:TypeId} {i c o:Nat} {v:Value} (H:Own w0 none w rs) (hi:rs[i]? = some (.blk b cs t)) (hc:w0.cell? ⟨c,o,none⟩=some v):c ≠ b:=fun e=>by
 have h1:c < w0.heap.size:=World.block_lt_of_cell? w0 _ hc
 rcases (H.foot i _ hi b rfl).1 with h2 | h2
 · omega
 · cases h2
theorem TabsAt.not (h:TabsAt w0 b9 b11 bt bl n m T L) (H:Own w0 none w rs) (i:Nat) {cs:List Value} {t:TypeId} (hi:rs[i]? = some (.blk b cs t)):TabsNot w b b9 b11 bt bl n m T L:=
 ⟨h.own H,new_ne H hi h.t,new_ne H hi h.l,fun j hj=>new_ne H hi (h.tc j hj),fun j hj=>new_ne H hi (h.lc j hj)⟩
end
theorem old_cell {w0 w:World} {b c o:Nat} {v:Value} {rs:List Res} (H:Own w0 (some b) w rs) (h:w0.cell? ⟨c,o,none⟩=some v) (hne:c ≠ b):w.cell? ⟨c,o,none⟩=some v:=H.old h (fun e=>hne (Option.some.inj e))
def turnK (T L:List Int) (k t q v:UInt8) (K:Value):List Value:=[b8 k,b8 (if k=1 then newN T t else t),b8 (if k=2 then newN L q else q),b8 v,K]
theorem turn1_any (b b9 b11 bt bl n m:Nat) (T L:List Int) (k t q v:UInt8) (K:Value) (w0:World) (hB:Blk w0 b [Go.Proofs.YtbgnapmaimkpkaaGreatDoor.b8 k,Go.Proofs.YtbgnapmaimkpkaaGreatDoor.b8 t,Go.Proofs.YtbgnapmaimkpkaaGreatDoor.b8 q,Go.Proofs.YtbgnapmaimkpkaaGreatDoor.b8 v,K] 27) (hV:TabsNot w0 b b9 b11 bt bl n m T L) (ht:k=1→t.toNat < n) (hq:k=2→q.toNat < m) :
   Calls Tryz.prog 61 #[.pointer (some ⟨b,0,none⟩),.pointer (some ⟨b9,0,none⟩),.pointer (some ⟨b11,0,none⟩)] w0 fun e w'=>e = .returned (.tuple #[])∧Own w0 (some b) w' [.blk b (turnK T L k t q v K) 27]:=by
 have H:=Own.startRow hB
 refine enterF func61 rfl ntmps61 rfl (fun a F=>?_);refine cSR fun K1 hK1=>sMv F rfl rfl rfl (qNc rfl rfl rfl (qFa (f:=0) (k:=0) underlying27 rfl sizeOf5 rfl rfl rfl rfl rfl (qLd isAgg5 rfl rfl rfl (H.cell 0 rfl rfl) (qNK hK1 ?_))));clear hK1;clear F a;intro a F;refine wp_block ?_;refine cSR fun K2 hK2=>sBin F rfl rfl rfl rfl (bEqlB (y:=1)) (qAs rfl rfl rfl (qNK hK2 ?_));clear hK2;clear F a;intro a F
 refine cIf F rfl (fun h8=>?_) (fun h8=>?_)
 ·
  replace h8:=beqT h8
  have ht':=ht h8
  refine cRegRO (by kernel_rfl) H ?_;replace H:=H.drew;refine eTF 0 rfl (by kernel_rfl) F rfl rfl rfl (fun w=>rMv F rfl) H qq0 (qT 1 rfl (by kernel_rfl) rfl rfl rfl rfl (fun a F w H=>rLd isAgg23 F rfl (old_cell H hV.at'.t hV.t)) H qq0 (qTF 2 rfl (by kernel_rfl) rfl rfl rfl (fun a F w=>rMv F rfl) H qq0 (qT 3 rfl (by kernel_rfl) rfl rfl rfl rfl (fun a F w H=>rNc F rfl) H qq0 (qTF 4 rfl (by kernel_rfl) rfl rfl rfl (fun a F w=>rFa (f:=1) (k:=1) underlying27 rfl sizeOf5 rfl rfl F rfl) H qq0 (qT 5 rfl (by kernel_rfl) rfl rfl rfl rfl (fun a F w H=>rLd isAgg5 F rfl (H.cell 0 rfl rfl)) H qq0 ?_)))));clear F a;intro a F
  refine eTakeF (k:=6) (i:=6) rfl (by kernel_rfl) F rfl rfl rfl (fun w=>rIx underlying23 sizeOf5 F rfl rfl ?_) H (fun _ _ _ h=>h) ?_
  focus omega
  clear F a;intro a F;refine eT 7 rfl (by kernel_rfl) F rfl rfl rfl rfl (fun w H=>rLd isAgg5 F rfl (old_cell H (by have:=hV.at'.tc _ ht';simpa using this) (hV.tc _ ht'))) H qq0 (qT 8 rfl (by kernel_rfl) rfl rfl rfl rfl (fun a F w H=>rNc F rfl) H qq0 (qTF 9 rfl (by kernel_rfl) rfl rfl rfl (fun a F w=>rFa (f:=1) (k:=1) underlying27 rfl sizeOf5 rfl rfl F rfl) H qq0 ?_));clear F a;intro a F;refine eOne (k:=10) (i:=10) rfl (by kernel_rfl) F rfl (oSt H 0 sizeOf5 F rfl rfl rfl rfl rfl ?_);clear H;intro w H;refine ePartO (by kernel_rfl) H ?_;refine eNil (k:=11) (by kernel_rfl) ?_
  first | refine bEnd results61 F ?_ | (simp only [Exit.then,Exit.inBlock,if_true];(repeat (first | rw [if_pos rfl] | rw [if_neg (by decide)]));refine bEnd results61 F ?_)
  first
  | (have e1:k=1:=h8
     have e:turnK T L k t q v K=[Go.Proofs.YtbgnapmaimkpkaaGreatDoor.b8 k,Go.Proofs.YtbgnapmaimkpkaaGreatDoor.b8 (newN T t),Go.Proofs.YtbgnapmaimkpkaaGreatDoor.b8 q,Go.Proofs.YtbgnapmaimkpkaaGreatDoor.b8 v,K]:=by unfold turnK;rw [if_pos e1,if_neg (by rw [e1];decide)]
     rw [e]
     exact ⟨rfl,H.sel [0] rfl rfl⟩)
  | (have e1:¬ k=1:=h8
     have e2:k=2:=h20
     have e:turnK T L k t q v K=[Go.Proofs.YtbgnapmaimkpkaaGreatDoor.b8 k,Go.Proofs.YtbgnapmaimkpkaaGreatDoor.b8 t,Go.Proofs.YtbgnapmaimkpkaaGreatDoor.b8 (newN L q),Go.Proofs.YtbgnapmaimkpkaaGreatDoor.b8 v,K]:=by unfold turnK;rw [if_neg e1,if_pos e2]
     rw [e]
     exact ⟨rfl,H.sel [0] rfl rfl⟩)
  | (have e1:¬ k=1:=h8
     have e2:¬ k=2:=h20
     have e:turnK T L k t q v K=[Go.Proofs.YtbgnapmaimkpkaaGreatDoor.b8 k,Go.Proofs.YtbgnapmaimkpkaaGreatDoor.b8 t,Go.Proofs.YtbgnapmaimkpkaaGreatDoor.b8 q,Go.Proofs.YtbgnapmaimkpkaaGreatDoor.b8 v,K]:=by unfold turnK;rw [if_neg e1,if_neg e2]
     rw [e]
     exact ⟨rfl,H.sel [0] rfl rfl⟩)
 replace h8:=beqF h8;refine cSR fun K3 hK3=>sBin F rfl rfl rfl rfl (bEqlB (y:=2)) (qAs rfl rfl rfl (qNK hK3 ?_));clear hK3;clear F a;intro a F
 refine cIf F rfl (fun h20=>?_) (fun h20=>?_)
 ·
  replace h20:=beqT h20
  have hq':=hq h20
  refine cRegRO (by kernel_rfl) H ?_;replace H:=H.drew;refine eTF 0 rfl (by kernel_rfl) F rfl rfl rfl (fun w=>rMv F rfl) H qq0 (qT 1 rfl (by kernel_rfl) rfl rfl rfl rfl (fun a F w H=>rLd isAgg23 F rfl (old_cell H hV.at'.l hV.l)) H qq0 (qTF 2 rfl (by kernel_rfl) rfl rfl rfl (fun a F w=>rMv F rfl) H qq0 (qT 3 rfl (by kernel_rfl) rfl rfl rfl rfl (fun a F w H=>rNc F rfl) H qq0 (qTF 4 rfl (by kernel_rfl) rfl rfl rfl (fun a F w=>rFa (f:=2) (k:=2) underlying27 rfl sizeOf5 rfl rfl F rfl) H qq0 (qT 5 rfl (by kernel_rfl) rfl rfl rfl rfl (fun a F w H=>rLd isAgg5 F rfl (H.cell 0 rfl rfl)) H qq0 ?_)))));clear F a;intro a F
  refine eTakeF (k:=6) (i:=6) rfl (by kernel_rfl) F rfl rfl rfl (fun w=>rIx underlying23 sizeOf5 F rfl rfl ?_) H (fun _ _ _ h=>h) ?_
  focus omega
  clear F a;intro a F;refine eT 7 rfl (by kernel_rfl) F rfl rfl rfl rfl (fun w H=>rLd isAgg5 F rfl (old_cell H (by have:=hV.at'.lc _ hq';simpa using this) (hV.lc _ hq'))) H qq0 (qT 8 rfl (by kernel_rfl) rfl rfl rfl rfl (fun a F w H=>rNc F rfl) H qq0 (qTF 9 rfl (by kernel_rfl) rfl rfl rfl (fun a F w=>rFa (f:=2) (k:=2) underlying27 rfl sizeOf5 rfl rfl F rfl) H qq0 ?_));clear F a;intro a F;refine eOne (k:=10) (i:=10) rfl (by kernel_rfl) F rfl (oSt H 0 sizeOf5 F rfl rfl rfl rfl rfl ?_);clear H;intro w H;refine ePartO (by kernel_rfl) H ?_;refine eNil (k:=11) (by kernel_rfl) ?_
  first | refine bEnd results61 F ?_ | (simp only [Exit.then,Exit.inBlock,if_true];(repeat (first | rw [if_pos rfl] | rw [if_neg (by decide)]));refine bEnd results61 F ?_)
  first
  | (have e1:k=1:=h8
     have e:turnK T L k t q v K=[Go.Proofs.YtbgnapmaimkpkaaGreatDoor.b8 k,Go.Proofs.YtbgnapmaimkpkaaGreatDoor.b8 (newN T t),Go.Proofs.YtbgnapmaimkpkaaGreatDoor.b8 q,Go.Proofs.YtbgnapmaimkpkaaGreatDoor.b8 v,K]:=by unfold turnK;rw [if_pos e1,if_neg (by rw [e1];decide)]
     rw [e]
     exact ⟨rfl,H.sel [0] rfl rfl⟩)
  | (have e1:¬ k=1:=h8
     have e2:k=2:=h20
     have e:turnK T L k t q v K=[Go.Proofs.YtbgnapmaimkpkaaGreatDoor.b8 k,Go.Proofs.YtbgnapmaimkpkaaGreatDoor.b8 t,Go.Proofs.YtbgnapmaimkpkaaGreatDoor.b8 (newN L q),Go.Proofs.YtbgnapmaimkpkaaGreatDoor.b8 v,K]:=by unfold turnK;rw [if_neg e1,if_pos e2]
     rw [e]
     exact ⟨rfl,H.sel [0] rfl rfl⟩)
  | (have e1:¬ k=1:=h8
     have e2:¬ k=2:=h20
     have e:turnK T L k t q v K=[Go.Proofs.YtbgnapmaimkpkaaGreatDoor.b8 k,Go.Proofs.YtbgnapmaimkpkaaGreatDoor.b8 t,Go.Proofs.YtbgnapmaimkpkaaGreatDoor.b8 q,Go.Proofs.YtbgnapmaimkpkaaGreatDoor.b8 v,K]:=by unfold turnK;rw [if_neg e1,if_neg e2]
     rw [e]
     exact ⟨rfl,H.sel [0] rfl rfl⟩)
 replace h20:=beqF h20;refine wp_skip ?_
 first | refine bEnd results61 F ?_ | (simp only [Exit.then,Exit.inBlock,if_true];(repeat (first | rw [if_pos rfl] | rw [if_neg (by decide)]));refine bEnd results61 F ?_)
 first
 | (have e1:k=1:=h8
    have e:turnK T L k t q v K=[Go.Proofs.YtbgnapmaimkpkaaGreatDoor.b8 k,Go.Proofs.YtbgnapmaimkpkaaGreatDoor.b8 (newN T t),Go.Proofs.YtbgnapmaimkpkaaGreatDoor.b8 q,Go.Proofs.YtbgnapmaimkpkaaGreatDoor.b8 v,K]:=by unfold turnK;rw [if_pos e1,if_neg (by rw [e1];decide)]
    rw [e]
    exact ⟨rfl,H.sel [0] rfl rfl⟩)
 | (have e1:¬ k=1:=h8
    have e2:k=2:=h20
    have e:turnK T L k t q v K=[Go.Proofs.YtbgnapmaimkpkaaGreatDoor.b8 k,Go.Proofs.YtbgnapmaimkpkaaGreatDoor.b8 t,Go.Proofs.YtbgnapmaimkpkaaGreatDoor.b8 (newN L q),Go.Proofs.YtbgnapmaimkpkaaGreatDoor.b8 v,K]:=by unfold turnK;rw [if_neg e1,if_pos e2]
    rw [e]
    exact ⟨rfl,H.sel [0] rfl rfl⟩)
 | (have e1:¬ k=1:=h8
    have e2:¬ k=2:=h20
    have e:turnK T L k t q v K=[Go.Proofs.YtbgnapmaimkpkaaGreatDoor.b8 k,Go.Proofs.YtbgnapmaimkpkaaGreatDoor.b8 t,Go.Proofs.YtbgnapmaimkpkaaGreatDoor.b8 q,Go.Proofs.YtbgnapmaimkpkaaGreatDoor.b8 v,K]:=by unfold turnK;rw [if_neg e1,if_neg e2]
    rw [e]
    exact ⟨rfl,H.sel [0] rfl rfl⟩)
theorem cond_kids {n m:Int} {d:Nat} {k t q v:UInt8} {kids:List Cnd} (hc:condOk n m (d+1) (.mk k t q v kids)=true):(k=1→(t.toNat:Int) < n)∧(k=2→(q.toNat:Int) < m)∧∀ y ∈ kids,condOk n m d y=true:=by
 unfold condOk at hc
 by_cases h0:k=0
 · rw [if_pos h0] at hc
   simp only [Bool.and_eq_true,beq_iff_eq] at hc
   rw [List.eq_nil_of_length_eq_zero hc.2]
   exact ⟨fun e=>(by rw [h0] at e;cases e),fun e=>(by rw [h0] at e;cases e),fun y hy=>(by cases hy)⟩
 · rw [if_neg h0] at hc
   by_cases h1:k=1
   · rw [if_pos h1] at hc
     simp only [Bool.and_eq_true,beq_iff_eq,decide_eq_true_eq] at hc
     rw [List.eq_nil_of_length_eq_zero hc.2]
     exact ⟨fun _=>hc.1.1,fun e=>(by rw [h1] at e;cases e),fun y hy=>(by cases hy)⟩
   · rw [if_neg h1] at hc
     by_cases h2:k=2
     · rw [if_pos h2] at hc
       simp only [Bool.and_eq_true,beq_iff_eq,decide_eq_true_eq] at hc
       rw [List.eq_nil_of_length_eq_zero hc.2]
       exact ⟨fun e=>absurd e h1,fun _=>hc.1.1,fun y hy=>by cases hy⟩
     · rw [if_neg h2] at hc
       refine ⟨fun e=>absurd e h1,fun e=>absurd e h2,?_⟩
       split at hc
       · rw [Bool.and_eq_true] at hc;exact fun y hy=>List.all_eq_true.1 hc.2 y hy
       · split at hc
         · rw [Bool.and_eq_true] at hc;exact fun y hy=>List.all_eq_true.1 hc.2 y hy
         · cases hc
set_option maxHeartbeats 4000000 in
theorem turnT_any (b9 b11 bt bl n mm:Nat) (T L:List Int) (h:Nat):∀ (d:Nat) (cs:List Value) (c:Cnd) (w0:World),CondAt w0 h cs c→Slim h c→condOk (n:Int) (mm:Int) d c=true→TabsAt w0 b9 b11 bt bl n mm T L →
   Calls Tryz.prog 60 #[.agg cs.toArray,.func (.func 61) #[] #[.pointer (some ⟨b9,0,none⟩),.pointer (some ⟨b11,0,none⟩)]] w0 fun e w'=>∃ cs' S,e = .returned (.agg cs'.toArray)∧Own w0 none w' [.tree S h cs' (turnH T L h c)]:=by
 induction h with
 | zero=>intro d cs c w0 hC;exact hC.elim
 | succ h ih=>
   intro d cs c w0 hC hs hd hV
   obtain ⟨k,t,q,v,kids⟩:=c
   cases d with
   | zero=>cases hd
   | succ d=>
   obtain ⟨A,C,rfl,hkl,hK⟩:=hC
   obtain ⟨hs1,hs2⟩:=hs
   obtain ⟨hk1,hk2,hk3⟩:=cond_kids hd
   have H:=Own.start w0 none
   refine enterF func60 rfl ntmps60 rfl (fun a F=>?_);refine cSR fun K1 hK1=>?_;refine sBx H F rfl rfl rfl ?_;clear F a H;intro b2 a w F H;refine sAl H zeroValue27 F rfl rfl ?_;clear F a H;intro b4 a w F H;refine nK hK1 (cSR fun K2 hK2=>sAs F rfl rfl rfl ?_);clear hK1;clear F a;intro a F
   replace H:=H.nilRws 27 5
   refine nK hK2 ?_;clear hK2;refine cSeq (fun K3 hK3=>?_);refine cSR fun K4 hK4=>sFa (f:=4) (k:=4) underlying27 rfl sizeOf25 rfl rfl F rfl rfl rfl (qLd isAgg25 rfl rfl rfl (H.cell 2 rfl rfl) (qLen underlying25 rfl rfl rfl (qMv rfl rfl rfl (qNK hK4 ?_))));clear hK4;clear F a;intro a F;refine wp_block ?_
   refine cLoopR [1,2,4,9,10] (fun m ups w=>∃ (j:Nat) (A5:Option Addr) (c5:Nat) (S:Nat→Prop) (rows:List (List Value)),m=kids.length - j∧ups=[(5,.slice A5 rows.length c5),(11,.int .i64 ((j:Nat):Int))]∧rows.length=j∧j≤kids.length∧(∀ r ∈ rows,r.length=5)∧Own w0 none w [.forest S h rows (kids.map (turnH T L h)),.rws 27 5 (.slice A5 rows.length c5) rows,.blk b4 [Go.Proofs.YtbgnapmaimkpkaaGreatDoor.b8 0,Go.Proofs.YtbgnapmaimkpkaaGreatDoor.b8 0,Go.Proofs.YtbgnapmaimkpkaaGreatDoor.b8 0,Go.Proofs.YtbgnapmaimkpkaaGreatDoor.b8 0,.slice none 0 0] 27,.blk b2 [Go.Proofs.YtbgnapmaimkpkaaGreatDoor.b8 k,Go.Proofs.YtbgnapmaimkpkaaGreatDoor.b8 t,Go.Proofs.YtbgnapmaimkpkaaGreatDoor.b8 q,Go.Proofs.YtbgnapmaimkpkaaGreatDoor.b8 v,.slice A kids.length C] 27]) F (kids.length) [(5,.slice none 0 0),(11,.int .i64 ((0:Nat):Int))] (by repeat (first | exact SubR.nil | (apply SubR.cons;· rfl))) ?_ ?_ ?_
   · exact ⟨0,none,0,fun _=>False,[],rfl,rfl,rfl,Nat.zero_le _,(by simp),(H.sel [0,1,2] rfl rfl).void (.forest (fun _=>False) h [] (kids.map (turnH T L h))) (fun j r kid h1=>by simp at h1) (fun _ hb=>hb)⟩
   · repeat (first | exact trivial | refine Le.cons rfl ?_)
   clear F
   clear H
   intro m ups a w hI F
   obtain ⟨j,A5,c5,S,rows,rfl,rfl,hrj,hj,hr5,H⟩:=hI
   refine cSR fun K5 hK5=>sBin F rfl rfl rfl rfl bLss (qNK hK5 ?_);clear hK5;clear F a;intro a F;refine cSeq (fun K6 hK6=>?_)
   refine cIf F rfl (fun h12=>?_) (fun h12=>?_)
   ·
    replace h12:=of_decide_eq_true h12
    have hjl:j < kids.length:=by omega
    obtain ⟨kid,hx⟩:∃ x,kids[j]? = some x:=⟨_,List.getElem?_eq_getElem hjl⟩
    obtain ⟨b',off',cs',rfl,hR',hC'⟩:=hK j kid hx
    obtain ⟨k0,t0,n0,v0,A0,m0,C0,rfl⟩:=condShape hC'
    refine wp_skip (hK6 _ _ ?_);clear hK6;refine cSeq (fun K7 hK7=>?_);refine wp_block ?_;refine cSR fun K8 hK8=>?_
    refine sIx underlying25 sizeOf27 F rfl rfl rfl rfl ?_ ?_
    focus (first | omega | decide | (simp;omega))
    clear F a;intro a F
    refine sLr underlying27 rfl ?si F rfl rfl rfl (H.argR hR') ?_
    case si=>exact info_size sizeOf27
    clear F a;intro a F;refine sAl H zeroValue27 F rfl rfl ?_;clear F a H;intro b7 a w F H
    refine sSr H 0 ?si F rfl rfl rfl ?s1 rfl rfl ?_
    case si=>exact info_size sizeOf27
    case s1=>first | rfl | (repeat (first | exact one_nil | (apply one_cons;· first | rfl | assumption | exact one_bif rfl rfl)))
    clear H;intro w H;refine nK hK8 (cReg (sMv F rfl rfl rfl ?_));clear hK8;clear F a;intro a F
    refine sLr underlying27 rfl ?si F rfl rfl rfl (H.whole 0 rfl) ?_
    case si=>exact info_size sizeOf27
    clear F a;intro a F;refine sMv F rfl rfl rfl ?_;clear F a;intro a F;refine sCall call60 F rfl rfl rfl (ih d _ kid _ (CondAt.grown H.grown rfl _ _ _ hC') (hs2 kid (List.mem_of_getElem? hx)) (hk3 kid (List.mem_of_getElem? hx)) (hV.own H)) ?_;rintro e w ⟨cs9,S9,rfl,H2⟩
    have hsh:=condShape (H2.pred 0 _ rfl:TreeIn S9 _ h cs9 (turnH T L h kid)).at
    obtain ⟨k9,t9,n9,v9,A9,m9,C9,rfl⟩:=hsh
    replace H:=H.join H2;clear H2;refine ⟨_,rfl,?_⟩;clear F a;intro a F;refine sBsA H underlying25 sizeOf27 zeroValue27 rfl F rfl rfl rfl rfl rfl ?_;clear F a H;intro b19 a w F H
    refine sApp1 (bytes:=32) H 4 underlying25 typeInfo27 rfl rfl rfl rfl rfl rfl F rfl rfl rfl rfl rfl (H.whole 0 rfl) rfl ?s1 ?s2 ?_
    case s1=>first | rfl | (repeat (first | exact one_nil | (apply one_cons;· first | rfl | assumption | exact one_bif rfl rfl)))
    case s2=>omega
    clear F a H;intro A20 c20 a w F H;refine sAs F rfl rfl rfl (qNK hK7 (qReg ?_));clear hK7;clear F a;intro a F
    refine sBin F rfl rfl rfl rfl (bAddN (j:=1) ?_) ?_
    focus omega
    clear F a;intro a F;refine sMv F rfl rfl rfl ?_;clear F a;intro a F;refine sNil ?_
    (refine ⟨_,?_,_,⟨j+1,A20,c20,_,_,rfl,rfl,?_,?_,?_,(H.sel [1,3,4,5,6] rfl rfl).plant (by rw [hrj,List.getElem?_map,hx];rfl)⟩,F.to (by repeat (first | exact trivial | refine Le.cons rfl ?_))⟩
     · omega
     · simp;omega
     · omega
     · intro r hr
       rcases List.mem_append.1 hr with h1 | h1
       · exact hr5 r h1
       · simp at h1;subst h1;rfl)
   replace h12:=of_decide_eq_false h12
   have hjl:rows.length=(kids.map (turnH T L h)).length:=by rw [List.length_map];omega
   refine wp_exit ?_;refine hK3 _ _ (cSR fun K9 hK9=>sMv F rfl rfl rfl (qFa (f:=4) (k:=4) underlying27 rfl sizeOf25 rfl rfl rfl rfl rfl ?_));clear hK3;clear F a;intro a F;refine sSt H 3 sizeOf25 F rfl rfl rfl rfl rfl rfl ?_;clear H;intro w H;refine nK hK9 (cSR fun K10 hK10=>sMv F rfl rfl rfl ?_);clear hK9;clear F a;intro a F;refine sCallV F rfl rfl rfl rfl (⟨_,[],[.pointer (some ⟨b9,0,none⟩),.pointer (some ⟨b11,0,none⟩)],rfl,call61,turn1_any b2 b9 b11 bt bl n mm T L k t q v _ _ (H.blk 3 rfl) (hV.not H 3 rfl) (fun e=>by have:=hk1 e;omega) (fun e=>by have:=hk2 e;omega)⟩) ?_;rintro e w ⟨rfl,H2⟩
   replace H:=H.turned 3 rfl H2;clear H2
   refine ⟨_,rfl,?_⟩;clear F a;intro a F;refine nK hK10 (cSR fun K11 hK11=>?_);clear hK10
   refine sLr underlying27 rfl ?si F rfl rfl rfl (H.whole 3 rfl) ?_
   case si=>exact info_size sizeOf27
   clear F a;intro a F
   refine sSr H 2 ?si F rfl rfl rfl ?s1 rfl rfl ?_
   case si=>exact info_size sizeOf27
   case s1=>first | rfl | (repeat (first | exact one_nil | (apply one_cons;· first | rfl | assumption | exact one_bif rfl rfl)))
   clear H;intro w H;refine nK hK11 ?_;clear hK11;refine wp_ret ?_;refine bRetC results60 F rfl underlying27 rfl H 2 rfl sizeOf27 rfl ?_
   exact ⟨_,_,rfl,((H.sel [0,1] rfl rfl).grown1 k (if k=1 then newN T t else t) (if k=2 then newN L q else q) v hjl hr5 (by rw [List.length_map];exact hkl))⟩
-- FoF
open Go.RowKit
set_option maxRecDepth 100000
-- FoG
open Go.Proofs.Tryz
open Go.RowKit
set_option maxRecDepth 100000
def heldP (S:Nat→Prop) (w:World) (A:Option Addr) (sz:Nat) (rows:List (List Value)):Prop:=∀ (j:Nat) (cs:List Value),rows[j]? = some cs→∃ b off,A=some ⟨b,off,none⟩∧S b∧w.rangeAt b (off+j * sz) cs
theorem heldP.loc {S T:Nat→Prop} {w w':World} {A:Option Addr} {sz:Nat} {rows:List (List Value)} (h:heldP S w A sz rows) (hs:∀ b,S b→w'.heap[b]? = w.heap[b]?) (hT:∀ b,S b→T b):heldP T w' A sz rows:=fun j cs hj=>by
 obtain ⟨b,off,h1,h2,h3⟩:=h j cs hj
 exact ⟨b,off,h1,hT b h2,range_same (hs b h2) h3⟩
def groveP (S:Nat→Prop) (w:World) (rows:List (List Value)) (ts:List (List Ins)):Prop:=∀ (j:Nat) (r:List Value) (t:List Ins),rows[j]? = some r→ts[j]? = some t→∃ B C,r=[.slice B t.length C]∧heldP S w B 10 (t.map Ins.cells)
def Res.grove (S:Nat→Prop) (rows:List (List Value)) (ts:List (List Ins)):Res:=⟨S,fun w=>groveP S w rows ts,fun _ _ hb hp j r t h1 h2=>by
 obtain ⟨B,C,h3,h4⟩:=hp j r t h1 h2
 exact ⟨B,C,h3,h4.loc hb (fun _ h=>h)⟩⟩
theorem Own.plantG {w0 w:World} {row:Option Nat} {S T:Nat→Prop} {A:Option Addr} {n c:Nat} {t:List Ins} {rows:List (List Value)} {ts:List (List Ins)} {rs:List Res} (H:Own w0 row w (.held T A 10 (t.map Ins.cells) :: .grove S rows ts :: rs)) (hk:ts[rows.length]? = some t) (hn:n=t.length) :
   Own w0 row w (.grove (fun b=>T b∨S b) (rows++[[Value.slice A n c]]) ts :: rs):=by
 subst hn
 have hT:heldP T w A 10 (t.map Ins.cells):=H.pred 0 _ rfl
 have hS:groveP S w rows ts:=H.pred 1 _ rfl
 refine H.fuse (Res.grove (fun b=>T b∨S b) (rows++[[Value.slice A t.length c]]) ts) (show groveP (fun b=>T b∨S b) w (rows++[[Value.slice A t.length c]]) ts from fun j r u h1 h2=>?_) (fun b hb=>hb)
 rcases Nat.lt_or_ge j rows.length with hj | hj
 · rw [List.getElem?_append_left hj] at h1
   obtain ⟨B,C,h3,h4⟩:=hS j r u h1 h2
   exact ⟨B,C,h3,h4.loc (fun _ _=>rfl) (fun _ h=>.inr h)⟩
 · rw [List.getElem?_append_right hj] at h1
   obtain e:j - rows.length=0:=by
     rcases Nat.eq_zero_or_pos (j - rows.length) with e | e
     · exact e
     · rw [List.getElem?_eq_none (by simp;omega)] at h1;cases h1
   rw [e] at h1
   obtain rfl:j=rows.length:=by omega
   rw [hk] at h2
   cases h1;cases h2
   exact ⟨A,c,rfl,hT.loc (fun _ _=>rfl) (fun _ h=>.inl h)⟩
def zeroPr:List Value:=[.string ByteArray.empty,.slice none 0 0,.slice none 0 0,.slice none 0 0,.int .u8 0,.int .u8 0,.int .u8 0,.int .u8 0,.int .u8 0,.slice none 0 0]
end Go.Proofs.YtbgnapmaimkpkaaGreatDoor
