/-
  Plain Lean: a valid program can be printed. Nothing of the program. Conditions: none.
-/
import Derived.Test.YtkchaoajegkadaaGreatDoorJn14
import Derived.Test.YtkchaoajegkadaaGreatDoorJn5
import Derived.Test.YtkchaoajegkadaaGreatDoorCkK
set_option linter.unusedSimpArgs false
set_option linter.unusedVariables false
namespace Go.Proofs.YtkchaoajegkadaaGreatDoor
-- PtY
theorem word_good {s:ByteArray} (h:oneWord s=true):Good 1 (mk s.toList)∧s.toList.length≤16∧s.toList ≠ []:=by
 unfold oneWord at h
 rw [Bool.and_eq_true] at h
 obtain ⟨hl,ht⟩:=h
 split at ht
 next t u htk=>
   rw [Bool.and_eq_true,beq_iff_eq,beq_iff_eq] at ht
   obtain ⟨hk,hx⟩:=ht
   have hx:t.text=s:=eq_of_toList hx
   have hm:t ∈ toks s:=by rw [htk];exact List.mem_cons_self ..
   have hg:=G_in (G_toks s) t hm hk
   rw [hk,hx] at hg
   have hf:faultOf t=0:=by
     rw [Option.isNone_iff_eq_none] at hl
     unfold lexBad at hl
     by_cases hz:16384 < s.size
     · rw [if_pos hz] at hl;cases hl
     · rw [if_neg hz,Option.map_eq_none_iff] at hl
       exact first_no.1 hl t hm
   unfold faultOf at hf
   rw [if_pos hk,hx] at hf
   have hz:s.size≤16:=by
     by_cases h16:16 < s.size
     · rw [if_pos h16] at hf;cases hf
     · omega
   have hsz:s.data.toList.length=s.size:=Array.length_toList
   have h0:0 < s.size:=hg.1
   rw [toList_data]
   refine ⟨by rw [mk_data];exact hg,by omega,fun e=>?_⟩
   rw [e] at hsz
   simp at hsz
   omega
 next=>cases ht
theorem names_at {l:List ByteArray}:∀ (r:List ByteArray) (j:Nat),namesOk l j r=true→∀ (i:Nat) (x:ByteArray),r[i]? = some x→nameOk x=true∧idxOf x (l.take (j+i)) 0=none
 | [],_,_,i,x,h=>by simp at h
 | y :: r,j,hn,i,x,h=>by
   simp only [namesOk,Bool.and_eq_true,Bool.not_eq_true',Option.isSome_eq_false_iff,Option.isNone_iff_eq_none] at hn
   cases i with
   | zero=>cases h;exact hn.1
   | succ i=>
     have:=names_at r (j+1) hn.2 i x (by simpa using h)
     rwa [show j+1+i=j+(i+1) by omega] at this
theorem names_ok {l:List ByteArray} (h:namesOk l 0 l=true) (h6:l.length≤6):NmOk l:=by
 have key:=names_at l 0 h
 refine ⟨fun x hx=>?_,?_,h6⟩
 · obtain ⟨i,hi⟩:=List.getElem?_of_mem hx
   exact (key i x hi).1
 · rw [List.pairwise_iff_getElem]
   intro i j hi hj hij
   have h2:=(key j l[j] (List.getElem?_eq_getElem hj)).2
   rw [Nat.zero_add] at h2
   exact idxOf_none h2 l[i] (List.mem_take_iff_getElem.2 ⟨i,by omega,rfl⟩)
theorem ins_valid {x:Ins} {n:Nat} {after:Int} (h:insOk x (n:Int) after=true):PrIns n x:=by
 have c0:=ins_cond h 0 (by omega)
 have c1:=ins_cond h 1 (by omega)
 have c2:=ins_cond h 2 (by omega)
 have c3:=ins_cond h 3 (by omega)
 have c4:=ins_cond h 4 (by omega)
 have c5:=ins_cond h 5 (by omega)
 have c6:=ins_cond h 6 (by omega)
 obtain ⟨op,d,l,ar,an,br,bn,fn,mo,sk⟩:=x
 simp only [condK] at c0 c1 c2 c3 c4 c5 c6
 have e:=eq_of_beq c1
 have hd:d.toNat < 8:=UInt8.lt_iff_toNat_lt.1 (of_decide_eq_true c2)
 have arg:∀ (r:Bool) (m:UInt8),argOk r m=true→ArgR r m:=fun r m hm hr=>by
   rw [hr] at hm
   exact UInt8.lt_iff_toNat_lt.1 (of_decide_eq_true hm)
 rw [Bool.and_eq_true] at c4
 have hA:=arg ar an c4.1
 have hB:=arg br bn c4.2
 have two:∀ {m a b:UInt8},(m == a || m == b)=true→m=a∨m=b:=fun {m a b} hm=>by simpa using hm
 have three:∀ {m a b c:UInt8},(m == a || m == b || m == c)=true→m=a∨m=b∨m=c:=fun {m a b c} hm=>by simpa [or_assoc] using hm
 have loc:decide ((l.toNat:Int) < (n:Int))=true→l.toNat < n:=fun hl=>by have:=of_decide_eq_true hl;omega
 rcases op_cases op c0 with rfl | rfl | rfl | rfl | rfl | rfl | rfl | rfl
 · have e2:(Ins.mk 1 d l ar an br bn fn mo sk).needed=⟨1,d,l,false,0,false,0,0,mo,0⟩:=by simp only [Ins.needed,show hasB 1 1=true by decide,show hasB 1 2=true by decide,show hasB 1 4=false by decide,show hasB 1 8=false by decide,show hasB 1 16=false by decide,show hasB 1 32=true by decide,show hasB 1 64=false by decide,cond_true,cond_false]
   rw [e2] at e;rw [e]
   exact .load d l mo hd (loc c3) (two c5)
 · have e2:(Ins.mk 2 d l ar an br bn fn mo sk).needed=⟨2,0,l,ar,an,false,0,0,mo,0⟩:=by simp only [Ins.needed,show hasB 2 1=false by decide,show hasB 2 2=true by decide,show hasB 2 4=true by decide,show hasB 2 8=false by decide,show hasB 2 16=false by decide,show hasB 2 32=true by decide,show hasB 2 64=false by decide,cond_true,cond_false]
   rw [e2] at e;rw [e]
   exact .store l ar an mo (loc c3) hA (two c5)
 · have e2:(Ins.mk 3 d l ar an br bn fn mo sk).needed=⟨3,d,0,ar,an,br,bn,fn,0,0⟩:=by simp only [Ins.needed,show hasB 3 1=true by decide,show hasB 3 2=false by decide,show hasB 3 4=true by decide,show hasB 3 8=true by decide,show hasB 3 16=true by decide,show hasB 3 32=false by decide,show hasB 3 64=false by decide,cond_true,cond_false]
   rw [e2] at e;rw [e]
   exact .move d ar an fn br bn hd hA hB (three c6)
 · have e2:(Ins.mk 4 d l ar an br bn fn mo sk).needed=⟨4,d,l,ar,an,false,0,0,0,0⟩:=by simp only [Ins.needed,show hasB 4 1=true by decide,show hasB 4 2=true by decide,show hasB 4 4=true by decide,show hasB 4 8=false by decide,show hasB 4 16=false by decide,show hasB 4 32=false by decide,show hasB 4 64=false by decide,cond_true,cond_false]
   rw [e2] at e;rw [e]
   exact .swap d l ar an hd (loc c3) hA
 · have e2:(Ins.mk 5 d l ar an br bn fn mo sk).needed=⟨5,d,l,ar,an,false,0,0,0,0⟩:=by simp only [Ins.needed,show hasB 5 1=true by decide,show hasB 5 2=true by decide,show hasB 5 4=true by decide,show hasB 5 8=false by decide,show hasB 5 16=false by decide,show hasB 5 32=false by decide,show hasB 5 64=false by decide,cond_true,cond_false]
   rw [e2] at e;rw [e]
   exact .fetch d l ar an hd (loc c3) hA
 · have e2:(Ins.mk 6 d l ar an br bn fn mo sk).needed=⟨6,d,l,ar,an,br,bn,0,0,0⟩:=by simp only [Ins.needed,show hasB 6 1=true by decide,show hasB 6 2=true by decide,show hasB 6 4=true by decide,show hasB 6 8=true by decide,show hasB 6 16=false by decide,show hasB 6 32=false by decide,show hasB 6 64=false by decide,cond_true,cond_false]
   rw [e2] at e;rw [e]
   exact .cas d l ar an br bn hd (loc c3) hA hB
 · have e2:(Ins.mk 7 d l ar an br bn fn mo sk).needed=⟨7,0,0,false,0,false,0,0,mo,0⟩:=by simp only [Ins.needed,show hasB 7 1=false by decide,show hasB 7 2=false by decide,show hasB 7 4=false by decide,show hasB 7 8=false by decide,show hasB 7 16=false by decide,show hasB 7 32=true by decide,show hasB 7 64=false by decide,cond_true,cond_false]
   rw [e2] at e;rw [e]
   exact .fence mo (three c5)
 · have e2:(Ins.mk 8 d l ar an br bn fn mo sk).needed=⟨8,0,0,ar,an,br,bn,fn,0,sk⟩:=by simp only [Ins.needed,show hasB 8 1=false by decide,show hasB 8 2=false by decide,show hasB 8 4=true by decide,show hasB 8 8=true by decide,show hasB 8 16=true by decide,show hasB 8 32=false by decide,show hasB 8 64=true by decide,cond_true,cond_false]
   rw [e2] at e;rw [e]
   exact .skip sk ar an fn br bn hA hB (three c6)
theorem dep_le {n:Nat}:∀ {l:List Cnd},(∀ c ∈ l,depC c≤n)→depC.depL l≤n
 | [],_=>Nat.zero_le _
 | c :: r,h=>by
   simp only [depC.depL,Nat.max_le]
   exact ⟨h c (by simp),dep_le fun d hd=>h d (by simp [hd])⟩
theorem cond_pr {T:Int} {nl:Nat}:∀ (d:Nat) (c:Cnd),condOk T (nl:Int) d c=true→PrC nl d c∧depC c≤d
 | 0,_,h=>by cases h
 | d+1,.mk k t n v kids,h=>by
   rw [condOk] at h
   have zero:(t == 0 && n == 0 && v == 0)=true→t=0∧n=0∧v=0:=fun hz=>by simpa [and_assoc] using hz
   have deep:(∀ c ∈ kids,depC c≤d)→depC (.mk k t n v kids)≤d+1:=fun hk=>by
     rw [depC]
     exact Nat.succ_le_succ (dep_le hk)
   have nokids:(kids.length == 0)=true→kids=[]:=fun hk=>List.eq_nil_of_length_eq_zero (by simpa using hk)
   have none:kids=[]→depC (.mk k t n v kids)≤d+1:=fun e=>deep fun c hc=>by rw [e] at hc;exact absurd hc List.not_mem_nil
   by_cases k0:k=0
   · rw [if_pos k0,Bool.and_eq_true] at h
     obtain ⟨h1,h2,h3⟩:=zero h.1
     have hk:=nokids h.2
     exact ⟨.inl ⟨k0,h1,h2,h3,hk⟩,none hk⟩
   rw [if_neg k0] at h
   by_cases k1:k=1
   · rw [if_pos k1,Bool.and_eq_true,Bool.and_eq_true] at h
     have hk:=nokids h.2
     exact ⟨.inr (.inl ⟨k1,UInt8.lt_iff_toNat_lt.1 (of_decide_eq_true h.1.2),hk⟩),none hk⟩
   rw [if_neg k1] at h
   by_cases k2:k=2
   · rw [if_pos k2,Bool.and_eq_true,Bool.and_eq_true] at h
     have hk:=nokids h.2
     have hn:=of_decide_eq_true h.1.1
     exact ⟨.inr (.inr (.inl ⟨k2,by simpa using h.1.2,by omega,hk⟩)),none hk⟩
   rw [if_neg k2] at h
   by_cases k3:k=3∨k=4
   · rw [if_pos k3,Bool.and_eq_true,Bool.and_eq_true] at h
     obtain ⟨⟨h1,h2⟩,h3⟩:=h
     have ih:=fun c hc=>cond_pr d c (List.all_eq_true.1 h3 c hc)
     exact ⟨.inr (.inr (.inr (.inr ⟨⟨k3,zero h1⟩,of_decide_eq_true h2,fun y hy=>(ih y hy).1⟩))),deep fun c hc=>(ih c hc).2⟩
   rw [if_neg k3] at h
   by_cases k5:k=5
   · rw [if_pos k5,Bool.and_eq_true,Bool.and_eq_true] at h
     obtain ⟨⟨h1,h2⟩,h3⟩:=h
     have ih:=fun c hc=>cond_pr d c (List.all_eq_true.1 h3 c hc)
     obtain ⟨y,hy⟩:=List.length_eq_one_iff.1 (by simpa using h2)
     exact ⟨.inr (.inr (.inr (.inl ⟨⟨k5,zero h1⟩,y,hy,(ih y (by rw [hy];simp)).1⟩))),deep fun c hc=>(ih c hc).2⟩
   · rw [if_neg k5] at h;cases h
theorem right_pr {p:Prg} (h:rightErr p=0):PrPg p∧Good 1 (mk p.name.toList)∧p.name.toList.length≤16:=by
 have V:=valid h
 have h0:oneWord p.name=true:=right_demand h 0 (by omega)
 have h1:locsOk p=true:=right_demand h 1 (by omega)
 have h5:condOk p.threads.length p.locs.length 20 p.cond=true:=right_demand h 5 (by omega)
 obtain ⟨g1,g2,g3⟩:=word_good h0
 obtain ⟨c1,c2⟩:=cond_pr 20 p.cond h5
 unfold locsOk at h1
 rw [Bool.and_eq_true] at h1
 refine ⟨⟨g3,names_ok h1.2 V.locs6,V.init,⟨V.thr1,V.thr4⟩,fun t ht=>?_,V.ask,⟨20,c1⟩,c2⟩,g1,g2⟩
 obtain ⟨i,hi⟩:=List.getElem?_of_mem ht
 refine ⟨V.long i t hi,fun x hx=>?_⟩
 obtain ⟨k,hk⟩:=List.getElem?_of_mem hx
 exact ins_valid (inses_at (V.ins i t hi) hk)
-- FoA
open Go.Proofs.Tryz
open Go.RowKit
set_option maxRecDepth 100000
theorem mul64_any (x y:Nat) (w0:World) (hx:x≤65535) (hy:y≤65535) :
   Calls Tryz.prog 168 #[.int .u64 (x:Int),.int .u64 (y:Int)] w0 fun e w'=>e = .returned (.tuple #[.int .u64 ((0:Nat):Int),.int .u64 ((x * y:Nat):Int)])∧Below w0.heap.size w0 w':=by
 have H:=Own.start w0 none
 have hxy:x * y < 4294967296:=Nat.lt_of_le_of_lt (Nat.mul_le_mul hx hy) (by omega)
 refine enterF func168 rfl ntmps168 rfl (fun a F=>?_);refine cSR fun K1 hK1=>sAs F rfl rfl rfl (qAs rfl rfl rfl (qNK hK1 (qSR fun K2 hK2=>qMv rfl rfl rfl ?_)));clear hK1;clear F a;intro a F
 refine sBin F rfl rfl rfl rfl (bAndU ?_) ?_
 focus omega
 clear F a;intro a F;refine sAs F rfl rfl rfl (qNK hK2 (qSR fun K3 hK3=>qMv rfl rfl rfl ?_));clear hK2;clear F a;intro a F
 refine sBin F rfl rfl rfl rfl (bShrU ?_) ?_
 focus omega
 clear F a;intro a F;refine sAs F rfl rfl rfl (qNK hK3 (qSR fun K4 hK4=>qMv rfl rfl rfl ?_));clear hK3;clear F a;intro a F
 refine sBin F rfl rfl rfl rfl (bAndU ?_) ?_
 focus omega
 clear F a;intro a F;refine sAs F rfl rfl rfl (qNK hK4 (qSR fun K5 hK5=>qMv rfl rfl rfl ?_));clear hK4;clear F a;intro a F
 refine sBin F rfl rfl rfl rfl (bShrU ?_) ?_
 focus omega
 clear F a;intro a F;refine sAs F rfl rfl rfl (qNK hK5 (qSR fun K6 hK6=>qMv rfl rfl rfl (qMv rfl rfl rfl ?_)));clear hK5;clear F a;intro a F
 refine sBin F rfl rfl rfl rfl (bMulU ?_) ?_
 focus omega
 clear F a;intro a F;refine sAs F rfl rfl rfl (qNK hK6 (qSR fun K7 hK7=>qMv rfl rfl rfl (qMv rfl rfl rfl ?_)));clear hK6;clear F a;intro a F
 refine sBin F rfl rfl rfl rfl (bMulU ?_) ?_
 focus omega
 clear F a;intro a F;refine sMv F rfl rfl rfl ?_;clear F a;intro a F
 refine sBin F rfl rfl rfl rfl (bShrU ?_) ?_
 focus omega
 clear F a;intro a F
 refine sBin F rfl rfl rfl rfl (bAddU ?_) ?_
 focus omega
 clear F a;intro a F;refine sAs F rfl rfl rfl (qNK hK7 (qSR fun K8 hK8=>qMv rfl rfl rfl ?_));clear hK7;clear F a;intro a F
 refine sBin F rfl rfl rfl rfl (bAndU ?_) ?_
 focus omega
 clear F a;intro a F;refine sAs F rfl rfl rfl (qNK hK8 (qSR fun K9 hK9=>qMv rfl rfl rfl ?_));clear hK8;clear F a;intro a F
 refine sBin F rfl rfl rfl rfl (bShrU ?_) ?_
 focus omega
 clear F a;intro a F;refine sAs F rfl rfl rfl (qNK hK9 (qSR fun K10 hK10=>qMv rfl rfl rfl (qMv rfl rfl rfl (qMv rfl rfl rfl ?_))));clear hK9;clear F a;intro a F
 refine sBin F rfl rfl rfl rfl (bMulU ?_) ?_
 focus omega
 clear F a;intro a F
 refine sBin F rfl rfl rfl rfl (bAddU ?_) ?_
 focus omega
 clear F a;intro a F;refine sAs F rfl rfl rfl (qNK hK10 (qSR fun K11 hK11=>qMv rfl rfl rfl (qMv rfl rfl rfl ?_)));clear hK10;clear F a;intro a F
 refine sBin F rfl rfl rfl rfl (bMulU ?_) ?_
 focus omega
 clear F a;intro a F;refine sMv F rfl rfl rfl ?_;clear F a;intro a F
 refine sBin F rfl rfl rfl rfl (bAddU ?_) ?_
 focus omega
 clear F a;intro a F;refine sMv F rfl rfl rfl ?_;clear F a;intro a F
 refine sBin F rfl rfl rfl rfl (bShrU ?_) ?_
 focus omega
 clear F a;intro a F
 refine sBin F rfl rfl rfl rfl (bAddU ?_) ?_
 focus omega
 clear F a;intro a F;refine sAs F rfl rfl rfl (qNK hK11 (qSR fun K12 hK12=>qMv rfl rfl rfl (qMv rfl rfl rfl ?_)));clear hK11;clear F a;intro a F
 refine sBin F rfl rfl rfl rfl (bMulU ?_) ?_
 focus omega
 clear F a;intro a F;refine sAs F rfl rfl rfl (qNK hK12 ?_);clear hK12;clear F a;intro a F;refine wp_ret ?_;refine bRet2 results168 F rfl rfl ?_
 exact ⟨by simp,H.below⟩
theorem mul_any (x y:Nat) (w0:World) (hx:x≤65535) (hy:y≤65535) :
   Calls Tryz.prog 157 #[.int .u64 (x:Int),.int .u64 (y:Int)] w0 fun e w'=>e = .returned (.tuple #[.int .u64 ((0:Nat):Int),.int .u64 ((x * y:Nat):Int)])∧Below w0.heap.size w0 w':=by
 have H:=Own.start w0 none
 refine enterF func157 rfl ntmps157 rfl (fun a F=>?_);refine cSR fun K1 hK1=>sAs F rfl rfl rfl (qAs rfl rfl rfl (qNK hK1 ?_));clear hK1;clear F a;intro a F;refine cSeq (fun K2 hK2=>?_);refine cIfF F rfl ?_;refine wp_skip (hK2 _ _ (cSR fun K3 hK3=>sMv F rfl rfl rfl (qMv rfl rfl rfl ?_)));clear hK2;clear F a;intro a F;refine sCall call168 F rfl rfl rfl (mul64_any x y _ hx hy) ?_;rintro e w ⟨rfl,hb⟩;replace H:=H.grow hb;clear hb;refine ⟨_,rfl,?_⟩;clear F a;intro a F;refine sMv F rfl rfl rfl (qExt rfl rfl rfl rfl (qExt rfl rfl rfl rfl (qAs rfl rfl rfl (qAs rfl rfl rfl (qNK hK3 (qSR fun K4 hK4=>qMv rfl rfl rfl (qMv rfl rfl rfl (qAs rfl rfl rfl (qAs rfl rfl rfl (qNK hK4 ?_))))))))));clear hK3 hK4;clear F a;intro a F;refine wp_ret ?_;refine bRet2 results157 F rfl rfl ?_
 exact ⟨rfl,H.below⟩
def bl (l:List Bool):List Value:=l.map .bool
@[simp] theorem bl_length (l:List Bool):(bl l).length=l.length:=by simp [bl]
theorem bl_get {l:List Bool} {i:Nat} {v:Bool} (h:l[i]? = some v):(bl l)[i]? = some (.bool v):=by rw [bl,List.getElem?_map,h];rfl
theorem bl_set (l:List Bool) (i:Nat) (v:Bool):(bl l).set i (.bool v)=bl (l.set i v):=by rw [bl,bl,List.map_set]
theorem bl_one (l:List Bool):(bl l).all (·.oneCell')=true:=by
 rw [List.all_eq_true];intro v hv
 obtain ⟨x,_,rfl⟩:=List.mem_map.1 hv
 rfl
theorem bl_rep (n:Nat) (v:Bool):List.replicate n (.bool v)=bl (List.replicate n v):=by simp [bl]
theorem splice_bl {l:List Bool} {k m n:Nat} (hl:l=List.replicate k true++List.replicate (n - k) false) (hk:k+m≤n):splice (bl l) k (bl (List.replicate m true))=bl (List.replicate (k+m) true++List.replicate (n - (k+m)) false):=by
 subst hl
 have e:List.replicate (n - k) false=List.replicate m false++List.replicate (n - (k+m)) false:=by
   rw [List.replicate_append_replicate];congr 1;omega
 rw [e]
 have h:=splice_mid (bl (List.replicate (n - (k+m)) false)) (bl (List.replicate m true)) (bl (List.replicate m false)) (bl (List.replicate k true)) (by simp)
 rw [bl_length,List.length_replicate] at h
 rw [show bl (List.replicate k true++(List.replicate m false++List.replicate (n - (k+m)) false))=bl (List.replicate k true)++(bl (List.replicate m false)++bl (List.replicate (n - (k+m)) false)) by simp [bl],h]
 simp [bl,← List.replicate_append_replicate]
theorem rep_start {n:Nat}:splice (List.replicate n (.bool false)) 0 (bl (([true]:List Bool).take (min 1 n)))=bl (List.replicate (min 1 n) true++List.replicate (n - min 1 n) false):=by
 have e:([true]:List Bool).take (min 1 n)=List.replicate (min 1 n) true:=by
   rcases Nat.eq_zero_or_pos n with h | h
   · subst h;rfl
   · rw [Nat.min_eq_left h];rfl
 rw [bl_rep,e]
 have:=splice_bl (l:=List.replicate n false) (k:=0) (m:=min 1 n) (n:=n) (by simp) (by omega)
 simpa using this
theorem rep_step {n k:Nat} (h:k≤n):splice (bl (List.replicate k true++List.replicate (n - k) false)) (0+k * 1) (bl (List.replicate (min k (n - k)) true))=bl (List.replicate (k+min k (n - k)) true++List.replicate (n - (k+min k (n - k))) false):=by
 rw [Nat.zero_add,Nat.mul_one]
 exact splice_bl rfl (by omega)
theorem take_rep {n k m:Nat} (h:m≤k):((bl (List.replicate k true++List.replicate (n - k) false)).drop 0).take m=bl (List.replicate m true):=by
 rw [List.drop_zero,bl,bl,← List.map_take,List.take_append_of_le_length (by simp;exact h),List.take_replicate,Nat.min_eq_left h]
set_option maxHeartbeats 1000000 in
theorem repeat_any (b0 n:Nat) (w0:World) (hn:n≤65535) (hb:w0.rangeAt b0 0 (bl [true])) :
   Calls Tryz.prog 147 #[.slice (some ⟨b0,0,none⟩) 1 1,.int .i64 (n:Int)] w0 fun e w'=>∃ b,e = .returned (.slice (some ⟨b,0,none⟩) n n)∧Own w0 none w' [.blk b (bl (List.replicate n true)) 4]:=by
 have H:=Own.start w0 none
 refine enterF func147 rfl ntmps147 rfl (fun a F=>?_);refine cSR fun K1 hK1=>sAs F rfl rfl rfl (qNK hK1 ?_);clear hK1;clear F a;intro a F;refine cSeq (fun K2 hK2=>?_);refine cSR fun K3 hK3=>sMv F rfl rfl rfl (qBin rfl rfl rfl rfl bLss (qNK hK3 ?_));clear hK3;clear F a;intro a F
 refine cIf F rfl (fun h10=>?_) (fun h10=>?_)
 ·
  replace h10:=of_decide_eq_true h10
  omega
 replace h10:=of_decide_eq_false h10;refine wp_skip (hK2 _ _ (cSR fun K4 hK4=>sMv F rfl rfl rfl (qLen underlying172 rfl rfl rfl (qCv underlying3 underlying178 rfl rfl rfl (wrapU (by omega)) (qMv rfl rfl rfl (qCv underlying3 underlying178 rfl rfl rfl (wrapU (by omega)) ?_))))));clear hK2;clear F a;intro a F;refine sCall call157 F rfl rfl rfl (mul_any 1 n _ (by omega) hn) ?_;rintro e w ⟨rfl,hb2⟩
 replace H:=H.grow hb2;clear hb2;rw [Nat.one_mul]
 refine ⟨_,rfl,?_⟩;clear F a;intro a F;refine sMv F rfl rfl rfl (qExt rfl rfl rfl rfl (qExt rfl rfl rfl rfl (qAs rfl rfl rfl (qAs rfl rfl rfl (qNK hK4 ?_)))));clear hK4;clear F a;intro a F;refine cSeq (fun K5 hK5=>?_);refine cSR fun K6 hK6=>sMv F rfl rfl rfl (qBin rfl rfl rfl rfl bGtr (qMv rfl rfl rfl ?_));clear F a;intro a F
 refine F.split 23 rfl ?_ ?_ <;> (clear F;intro h23 F)
 ·
  replace h23:=of_decide_eq_true h23
  omega
 replace h23:=of_decide_eq_false h23;refine sMv F rfl rfl rfl (qBin rfl rfl rfl rfl bGtr (qPk rfl rfl rfl rfl (qNK hK6 ?_)));clear hK6;clear F a;intro a F
 refine cIf F rfl (fun h26=>?_) (fun h26=>?_)
 ·
  replace h26:=of_decide_eq_true h26
  omega
 replace h26:=of_decide_eq_false h26;refine wp_skip (hK5 _ _ (cSR fun K7 hK7=>sMv F rfl rfl rfl (qCv underlying178 underlying3 rfl rfl rfl (wrapN (by omega)) ?_)));clear hK5;clear F a;intro a F;refine sMk (z:=.bool false) (bytes:=1) H underlying172 (by kernel_rfl) rfl F rfl rfl rfl rfl (by omega) (by omega) ?_;clear F a H;intro b30 a w F H;refine sAs F rfl rfl rfl (qNK hK7 (qSR fun K8 hK8=>qMv rfl rfl rfl (qMv rfl rfl rfl ?_)));clear hK7;clear F a;intro a F
 refine sCpL H 0 underlying172 sizeOf4 F rfl rfl rfl rfl rfl ((fun j v hj=>H.arg (hb j v (by rw [bl,List.getElem?_map,List.getElem?_take] at hj;split at hj;(· rw [bl,List.getElem?_map];exact hj);(· cases hj))))) ((by simp [Nat.min_comm])) ((bl_one (([true]:List Bool).take (min 1 n)))) ((by simp;omega)) ?_
 clear F a H;intro a w F H;refine sAs F rfl rfl rfl (qNK hK8 ?_);clear hK8;clear F a;intro a F;refine cSeq (fun K9 hK9=>?_);refine wp_block ?_
 refine cLoopR [7] (fun m ups w=>∃ k:Nat,m=n - k∧ups=[(8,.int .i64 ((k:Nat):Int))]∧k≤n∧(n=k∨1≤k)∧Own w0 none w [.blk b30 (bl (List.replicate k true++List.replicate (n - k) false)) 4]) F (n - min 1 n) [(8,.int .i64 ((min 1 n:Nat):Int))] (by repeat (first | exact SubR.nil | (apply SubR.cons;· rfl))) ?_ ?_ ?_
 · (rw [rep_start] at H
    exact ⟨min 1 n,rfl,rfl,by omega,by omega,H⟩)
 · repeat (first | exact trivial | refine Le.cons rfl ?_)
 clear F
 clear H
 intro m ups a w hI F
 obtain ⟨k,rfl,rfl,hk,hk1,H⟩:=hI
 refine cSeq (fun K10 hK10=>?_);refine cSR fun K11 hK11=>sMv F rfl rfl rfl (qMv rfl rfl rfl (qLen underlying172 rfl rfl rfl (qBin rfl rfl rfl rfl bLss (qNK hK11 ?_))));clear hK11;clear F a;intro a F
 refine cIf F rfl (fun h37=>?_) (fun h37=>?_)
 ·
  replace h37:=of_decide_eq_true h37;refine wp_skip (hK10 _ _ ?_);clear hK10;refine wp_block ?_;refine cRegRO (by kernel_rfl) H ?_;replace H:=H.drew;refine eTF 0 rfl (by kernel_rfl) F rfl rfl rfl (fun w=>rMv F rfl) H qq0 (qTF 1 rfl (by kernel_rfl) rfl rfl rfl (fun a F w=>rMv F rfl) H qq0 (qTF 2 rfl (by kernel_rfl) rfl rfl rfl (fun a F w=>rMv F rfl) H qq0 ?_));clear F a;intro a F
  refine eTake (k:=3) (i:=3) rfl (by kernel_rfl) F rfl rfl rfl rfl (fun w H=>rSlL underlying172 sizeOf4 F rfl rfl ?_ ?_) H (fun _ _ _ h=>h) ?_
  focus (first | omega | decide | (simp;omega))
  focus (first | omega | decide | (simp;omega))
  clear F a;intro a F;refine eTF 4 rfl (by kernel_rfl) F rfl rfl rfl (fun w=>rMv F rfl) H qq0 (qTF 5 rfl (by kernel_rfl) rfl rfl rfl (fun a F w=>rMv F rfl) H qq0 ?_);clear F a;intro a F
  refine eTake (k:=6) (i:=6) rfl (by kernel_rfl) F rfl rfl rfl rfl (fun w H=>rSlH underlying172 (fun w=>⟨_,sizeOf4 w⟩) F rfl rfl ?_) H (fun _ _ _ h=>h) ?_
  focus (first | omega | decide | (simp;omega))
  clear F a;intro a F;refine eOne (k:=7) (i:=7) rfl (by kernel_rfl) F rfl (oCpL H 0 underlying172 sizeOf4 F rfl rfl rfl rfl ((by have:=H.range 0 rfl 0 (min k (n - k));rw [take_rep (by omega)] at this;exact this)) ((by simp)) ((bl_one _)) ((by simp;omega)) ?_);clear F a H;intro a w F H;refine ePartO (by kernel_rfl) H ?_
  refine eTakeF (k:=8) (i:=8) rfl (by kernel_rfl) F rfl rfl rfl (fun w=>rBin F rfl rfl (bAddN ?_)) H (fun _ _ _ h=>h) ?_
  focus omega
  clear F a;intro a F;refine eTF 9 rfl (by kernel_rfl) F rfl rfl rfl (fun w=>rAs F rfl) H qq0 ?_;clear F a;intro a F;refine eNil (k:=10) (by kernel_rfl) ?_;rw [rep_step (by omega)] at H
  exact ⟨_,by omega,_,⟨k+min k (n - k),rfl,rfl,by omega,by omega,H⟩,F.to (by repeat (first | exact trivial | refine Le.cons rfl ?_))⟩
 replace h37:=of_decide_eq_false h37
 obtain rfl:k=n:=by omega
 rw [Nat.sub_self,List.replicate_zero,List.append_nil] at H;refine wp_exit ?_;refine hK9 _ _ (cSR fun K12 hK12=>sMv F rfl rfl rfl (qAs rfl rfl rfl (qNK hK12 ?_)));clear hK9 hK12;clear F a;intro a F;refine wp_ret ?_;refine bRet results147 F rfl ?_
 exact ⟨_,rfl,H.pick 0 rfl⟩
-- DpC
-- RfP
section
variable {x:Ins} {locs after:Int}
end
-- FoP
def jumpC (x:Ins):Bool:=if x.fn=4 then x.aN == x.bN else if x.fn=5 then x.aN != x.bN else decide (x.aN < x.bN)
def wayN (x:Ins):Bool:=if (x.aR || x.bR)=true then true else !jumpC x
def wayJ (x:Ins):Bool:=if (x.aR || x.bR)=true then true else jumpC x
def skippedP (alive:List Bool) (i skip:Nat):Nat:=((alive.drop (i+1)).take skip).count true
def idleP (x:Ins) (alive:List Bool) (i:Nat):Bool:=!wayJ x || skippedP alive i x.skip.toNat == 0
def reach1 (x:Ins) (al:Bool) (r:List Bool) (i:Nat):List Bool:=
 if r.getD i false=false then r
 else
   let n:=if (al && x.op == 8)=true then wayN x else true
   let j:=if (al && x.op == 8)=true then wayJ x else false
   let q:=r.set (i+1) (r.getD (i+1) false || n)
   if j=true then q.set (i+1+x.skip.toNat) true else q
def reachP (l:List Ins) (alive:List Bool):Nat→List Bool
 | 0=>true :: List.replicate l.length false
 | k+1=>match l[k]? with
   | some x=>reach1 x (alive.getD k false) (reachP l alive k) k
   | none=>reachP l alive k
def sweepK (l:List Ins) (r:List Bool) (alive:List Bool):Nat→List Bool × Bool
 | 0=>(alive,false)
 | k+1=>let q:=sweepK l r alive k
   match l[k]? with
   | some x=>if (q.1.getD k false && (!r.getD k false || (x.op == 8 && idleP x q.1 k)))=true then (q.1.set k false,true) else q
   | none=>q
def sweepP (l:List Ins) (alive:List Bool):List Bool × Bool:=sweepK l (reachP l alive l.length) alive l.length
theorem reach1_length (x:Ins) (al:Bool) (r:List Bool) (i:Nat):(reach1 x al r i).length=r.length:=by
 unfold reach1
 split
 · rfl
 · simp only
   split <;> split <;> simp
theorem reachP_length (l:List Ins) (alive:List Bool):∀ k,(reachP l alive k).length=l.length+1
 | 0=>by simp [reachP]
 | k+1=>by
   unfold reachP
   split
   · rw [reach1_length,reachP_length l alive k]
   · exact reachP_length l alive k
theorem sweepK_length (l:List Ins) (r alive:List Bool):∀ k,(sweepK l r alive k).1.length=alive.length
 | 0=>rfl
 | k+1=>by
   unfold sweepK
   have:=sweepK_length l r alive k
   simp only
   split
   · split
     · rw [List.length_set];exact this
     · exact this
   · exact this
theorem reachP_at {l:List Ins} {alive:List Bool} {k:Nat} {x:Ins} (h:l[k]? = some x):reachP l alive (k+1)=reach1 x (alive.getD k false) (reachP l alive k) k:=by
 rw [reachP,h]
theorem sweepK_at {l:List Ins} {r alive:List Bool} {k:Nat} {x:Ins} (h:l[k]? = some x):sweepK l r alive (k+1)=if ((sweepK l r alive k).1.getD k false && (!r.getD k false || (x.op == 8 && idleP x (sweepK l r alive k).1 k)))=true then ((sweepK l r alive k).1.set k false,true) else sweepK l r alive k:=by
 rw [sweepK,h]
theorem count_take {l:List Bool} {j:Nat} {v:Bool} (h:l[j]? = some v):(l.take (j+1)).count true=(l.take j).count true+(if v=true then 1 else 0):=by
 rw [List.take_add_one,h]
 cases v <;> simp
def foldA (l:List Ins):Nat→List Bool→List Bool
 | 0,al=>al
 | n+1,al=>if (sweepP l al).2=true then foldA l n (sweepP l al).1 else (sweepP l al).1
def foldAl (l:List Ins):List Bool:=foldA l (l.length+1) (List.replicate l.length true)
def keepI (x:Ins) (al:List Bool) (k:Nat):Ins:=if x.op=8 then { x with skip:=UInt8.ofNat (skippedP al k x.skip.toNat) } else x
def outP (l:List Ins) (al:List Bool):Nat→List Ins
 | 0=>[]
 | k+1=>match l[k]? with
   | some x=>if al.getD k false=true then outP l al k++[keepI x al k] else outP l al k
   | none=>outP l al k
def foldP (l:List Ins):List Ins:=outP l (foldAl l) l.length
theorem outP_at {l:List Ins} {al:List Bool} {k:Nat} {x:Ins} (h:l[k]? = some x):outP l al (k+1)=if al.getD k false=true then outP l al k++[keepI x al k] else outP l al k:=by
 rw [outP,h]
theorem outP_length (l:List Ins) (al:List Bool):∀ k,(outP l al k).length≤k
 | 0=>by simp [outP]
 | k+1=>by
   have:=outP_length l al k
   unfold outP
   split
   · split
     · simp;omega
     · omega
   · omega
theorem count_set {al:List Bool} {k:Nat} (h:al.getD k false=true):(al.set k false).count true+1=al.count true:=by
 induction al generalizing k with
 | nil=>simp at h
 | cons x r ih=>
   cases k with
   | zero=>
     simp at h;subst h
     simp
   | succ k=>
     have:=ih (k:=k) (by simpa using h)
     rw [List.set_cons_succ,List.count_cons,List.count_cons]
     omega
theorem sweepK_count (l:List Ins) (r alive:List Bool):∀ k,(sweepK l r alive k).1.count true≤alive.count true∧((sweepK l r alive k).2=true→(sweepK l r alive k).1.count true < alive.count true)
 | 0=>by simp [sweepK]
 | k+1=>by
   have h:=sweepK_count l r alive k
   unfold sweepK
   simp only
   split
   · split
     · rename_i hc
       have hk:(sweepK l r alive k).1.getD k false=true:=by
         rw [Bool.and_eq_true] at hc;exact hc.1
       have:=count_set hk
       refine ⟨?_,fun _=>?_⟩
       · show ((sweepK l r alive k).1.set k false).count true≤_;omega
       · show ((sweepK l r alive k).1.set k false).count true < _;omega
     · exact h
   · exact h
theorem sweepP_length (l:List Ins) (al:List Bool):(sweepP l al).1.length=al.length:=sweepK_length _ _ _ _
-- FoB
open Go.Proofs.Tryz
open Go.RowKit
set_option maxRecDepth 100000
theorem ways_any (x:Ins) (w0:World):Calls Tryz.prog 158 #[.agg x.cells.toArray] w0 fun e w'=>e = .returned (.tuple #[.bool (wayN x),.bool (wayJ x)])∧Below w0.heap.size w0 w':=by
 have H:=Own.start w0 none
 refine enterF func158 rfl ntmps158 rfl (fun a F=>?_);refine cSR fun K1 hK1=>?_;refine sBx H F rfl rfl rfl ?_;clear F a H;intro b1 a w F H;refine sAs F rfl rfl rfl (qAs rfl rfl rfl (qNK hK1 ?_));clear hK1;clear F a;intro a F;refine cSeq (fun K2 hK2=>?_);refine cSR fun K3 hK3=>sFa (f:=3) (k:=3) underlying44 rfl sizeOf42 rfl rfl F rfl rfl rfl (qFa (f:=0) (k:=3) underlying42 rfl sizeOf4 rfl rfl rfl rfl rfl (qLd isAgg4 rfl rfl rfl (H.cell 0 rfl rfl) (qMv rfl rfl rfl ?_)));clear F a;intro a F
 refine F.split 7 rfl ?_ ?_ <;> (clear F;intro h7 F)
 ·
  refine sSk F rfl rfl (qSk rfl rfl (qSk rfl rfl (qPk rfl rfl rfl rfl (qNK hK3 ?_))));clear hK3;clear F a;intro a F;refine cIfT F rfl ?_;refine cSR fun K4 hK4=>sAs F rfl rfl rfl (qAs rfl rfl rfl (qNK hK4 ?_));clear hK4;clear F a;intro a F;refine wp_ret ?_;simp only [Exit.then];refine bRet2 results158 F rfl rfl ?_
  refine ⟨?_,H.below⟩
  clear F H
  have e1:wayN x=(if (x.aR || x.bR)=true then true else !jumpC x):=rfl
  have e2:wayJ x=(if (x.aR || x.bR)=true then true else jumpC x):=rfl
  rw [e1,e2]
  simp_all [jumpC]
 refine sFa (f:=4) (k:=5) underlying44 rfl sizeOf42 rfl rfl F rfl rfl rfl (qFa (f:=0) (k:=5) underlying42 rfl sizeOf4 rfl rfl rfl rfl rfl (qLd isAgg4 rfl rfl rfl (H.cell 0 rfl rfl) (qPk rfl rfl rfl rfl (qNK hK3 ?_))));clear hK3;clear F a;intro a F
 refine cIf F rfl (fun h11=>?_) (fun h11=>?_)
 ·
  refine cSR fun K5 hK5=>sAs F rfl rfl rfl (qAs rfl rfl rfl (qNK hK5 ?_));clear hK5;clear F a;intro a F;refine wp_ret ?_;simp only [Exit.then];refine bRet2 results158 F rfl rfl ?_
  refine ⟨?_,H.below⟩
  clear F H
  have e1:wayN x=(if (x.aR || x.bR)=true then true else !jumpC x):=rfl
  have e2:wayJ x=(if (x.aR || x.bR)=true then true else jumpC x):=rfl
  rw [e1,e2]
  simp_all [jumpC]
 refine wp_skip (hK2 _ _ ?_);clear hK2;refine cSeq (fun K6 hK6=>?_);refine cSR fun K7 hK7=>sFa (f:=5) (k:=7) underlying44 rfl sizeOf5 rfl rfl F rfl rfl rfl (qLd isAgg5 rfl rfl rfl (H.cell 0 rfl rfl) (qNK hK7 ?_));clear hK7;clear F a;intro a F;refine wp_block ?_;refine cSR fun K8 hK8=>sBin F rfl rfl rfl rfl (bEqlB (y:=4)) (qAs rfl rfl rfl (qNK hK8 ?_));clear hK8;clear F a;intro a F
 refine cIf F rfl (fun h21=>?_) (fun h21=>?_)
 ·
  replace h21:=beqT h21;refine cReg (sFa (f:=3) (k:=3) underlying44 rfl sizeOf42 rfl rfl F rfl rfl rfl (qFa (f:=1) (k:=4) underlying42 rfl sizeOf5 rfl rfl rfl rfl rfl (qLd isAgg5 rfl rfl rfl (H.cell 0 rfl rfl) (qFa (f:=4) (k:=5) underlying44 rfl sizeOf42 rfl rfl rfl rfl rfl (qFa (f:=1) (k:=6) underlying42 rfl sizeOf5 rfl rfl rfl rfl rfl (qLd isAgg5 rfl rfl rfl (H.cell 0 rfl rfl) (qBin rfl rfl rfl rfl bEqlB (qAs rfl rfl rfl (qNK hK6 (qSR fun K9 hK9=>qMv rfl rfl rfl (qNot rfl rfl rfl (qMv rfl rfl rfl (qAs rfl rfl rfl (qAs rfl rfl rfl (qNK hK9 ?_)))))))))))))));clear hK6 hK9;clear F a;intro a F;refine wp_ret ?_;refine bRet2 results158 F rfl rfl ?_
  refine ⟨?_,H.below⟩
  clear F H
  have e1:wayN x=(if (x.aR || x.bR)=true then true else !jumpC x):=rfl
  have e2:wayJ x=(if (x.aR || x.bR)=true then true else jumpC x):=rfl
  rw [e1,e2]
  simp_all [jumpC]
 replace h21:=beqF h21;refine cSR fun K10 hK10=>sBin F rfl rfl rfl rfl (bEqlB (y:=5)) (qAs rfl rfl rfl (qNK hK10 ?_));clear hK10;clear F a;intro a F
 refine cIf F rfl (fun h30=>?_) (fun h30=>?_)
 ·
  replace h30:=beqT h30;refine cReg (sFa (f:=3) (k:=3) underlying44 rfl sizeOf42 rfl rfl F rfl rfl rfl (qFa (f:=1) (k:=4) underlying42 rfl sizeOf5 rfl rfl rfl rfl rfl (qLd isAgg5 rfl rfl rfl (H.cell 0 rfl rfl) (qFa (f:=4) (k:=5) underlying44 rfl sizeOf42 rfl rfl rfl rfl rfl (qFa (f:=1) (k:=6) underlying42 rfl sizeOf5 rfl rfl rfl rfl rfl (qLd isAgg5 rfl rfl rfl (H.cell 0 rfl rfl) (qBin rfl rfl rfl rfl bNeqB (qAs rfl rfl rfl (qNK hK6 (qSR fun K11 hK11=>qMv rfl rfl rfl (qNot rfl rfl rfl (qMv rfl rfl rfl (qAs rfl rfl rfl (qAs rfl rfl rfl (qNK hK11 ?_)))))))))))))));clear hK6 hK11;clear F a;intro a F;refine wp_ret ?_;refine bRet2 results158 F rfl rfl ?_
  refine ⟨?_,H.below⟩
  clear F H
  have e1:wayN x=(if (x.aR || x.bR)=true then true else !jumpC x):=rfl
  have e2:wayJ x=(if (x.aR || x.bR)=true then true else jumpC x):=rfl
  rw [e1,e2]
  simp_all [jumpC]
 replace h30:=beqF h30;refine cReg (sFa (f:=3) (k:=3) underlying44 rfl sizeOf42 rfl rfl F rfl rfl rfl (qFa (f:=1) (k:=4) underlying42 rfl sizeOf5 rfl rfl rfl rfl rfl (qLd isAgg5 rfl rfl rfl (H.cell 0 rfl rfl) (qFa (f:=4) (k:=5) underlying44 rfl sizeOf42 rfl rfl rfl rfl rfl (qFa (f:=1) (k:=6) underlying42 rfl sizeOf5 rfl rfl rfl rfl rfl (qLd isAgg5 rfl rfl rfl (H.cell 0 rfl rfl) (qBin rfl rfl rfl rfl bLssB (qAs rfl rfl rfl (qNK hK6 (qSR fun K12 hK12=>qMv rfl rfl rfl (qNot rfl rfl rfl (qMv rfl rfl rfl (qAs rfl rfl rfl (qAs rfl rfl rfl (qNK hK12 ?_)))))))))))))));clear hK6 hK12;clear F a;intro a F;refine wp_ret ?_;refine bRet2 results158 F rfl rfl ?_
 refine ⟨?_,H.below⟩
 clear F H
 have e1:wayN x=(if (x.aR || x.bR)=true then true else !jumpC x):=rfl
 have e2:wayJ x=(if (x.aR || x.bR)=true then true else jumpC x):=rfl
 rw [e1,e2]
 simp_all [jumpC]
structure SkipAt (w:World) (A:Option Addr) (l:List Ins) (b:Nat) (alive:List Bool) (i:Nat) (x:Ins):Prop where
 rows:RowsAt w A 10 (l.map Ins.cells)
 al:w.rangeAt b 0 (bl alive)
 at':l[i]? = some x
 len:alive.length=l.length
 l12:l.length≤12
 pos:1≤x.skip.toNat
 fit:i+1+x.skip.toNat≤l.length
theorem SkipAt.own {w0 w:World} {rs:List Res} {A:Option Addr} {l:List Ins} {b:Nat} {alive:List Bool} {i:Nat} {x:Ins} (h:SkipAt w0 A l b alive i x) (H:Own w0 none w rs):SkipAt w A l b alive i x:=⟨h.rows.own H,H.argR h.al,h.at',h.len,h.l12,h.pos,h.fit⟩
theorem ofNat_succ8 (n:Nat):UInt8.ofNat (n+1)=UInt8.ofNat n+1:=by
 apply UInt8.toNat_inj.1
 rw [UInt8.toNat_add,UInt8.toNat_ofNat',UInt8.toNat_ofNat']
 have:(1:UInt8).toNat=1:=rfl
 rw [this];omega
theorem skipped_any (A:Option Addr) (C:Nat) (l:List Ins) (b:Nat) (alive:List Bool) (i:Nat) (x:Ins) (w0:World) (hS:SkipAt w0 A l b alive i x) :
   Calls Tryz.prog 149 #[.slice A l.length C,.slice (some ⟨b,0,none⟩) alive.length alive.length,.int .i64 (i:Int)] w0 fun e w'=>e = .returned (b8 (UInt8.ofNat (skippedP alive i x.skip.toNat)))∧Below w0.heap.size w0 w':=by
 have H:=Own.start w0 none
 obtain ⟨hR,hA,hx,hl,h12,hpos,hfit⟩:=hS
 obtain ⟨bI,oI,rfl,hIx⟩:=hR i x.cells (by rw [List.getElem?_map,hx];rfl)
 generalize hs:x.skip.toNat=s at hpos hfit
 have hil:i < l.length:=by omega
 refine enterF func149 rfl ntmps149 rfl (fun a F=>?_);refine cSR fun K1 hK1=>sAs F rfl rfl rfl (qNK hK1 (qSR fun K2 hK2=>qAs rfl rfl rfl (qNK hK2 ?_)));clear hK1 hK2;clear F a;intro a F;refine cSeq (fun K3 hK3=>?_);refine cSR fun K4 hK4=>sMv F rfl rfl rfl (qMv rfl rfl rfl ?_);clear F a;intro a F
 refine sBin F rfl rfl rfl rfl (bAddI ?_) ?_
 focus omega
 clear F a;intro a F;refine sMv F rfl rfl rfl ?_;clear F a;intro a F
 refine sBin F rfl rfl rfl rfl (bAddI ?_) ?_
 focus omega
 clear F a;intro a F;refine sMv F rfl rfl rfl (qMv rfl rfl rfl ?_);clear F a;intro a F
 refine sIx underlying52 sizeOf44 F rfl rfl rfl rfl ?_ ?_
 focus (first | omega | decide | (simp;omega))
 clear F a;intro a F;refine sFa (f:=7) underlying44 rfl sizeOf5 rfl rfl F rfl rfl rfl (qLd isAgg5 rfl rfl rfl (H.arg (hIx 9 _ rfl)) (qCv underlying5 underlying3 rfl rfl rfl (show IntKind.i64.wrap (x.skip.toNat:Int)=(s:Int) from by rw [hs];exact wrapN (by omega)) ?_));clear F a;intro a F
 refine sBin F rfl rfl rfl rfl (bAddI ?_) ?_
 focus omega
 clear F a;intro a F
 refine sSlLH underlying172 sizeOf4 F rfl rfl rfl rfl rfl ?_ ?_ ?_ ?_
 focus (first | omega | decide | (simp;omega))
 focus (first | omega | decide | (simp;omega))
 focus (first | omega | decide | (simp;omega))
 clear F a;intro a F;refine sLen underlying172 F rfl rfl rfl (qMv rfl rfl rfl (qNK hK4 ?_));clear hK4;clear F a;intro a F;refine wp_block ?_
 refine cLoopR [22,23] (fun m ups w=>∃ j:Nat,m=s - j∧ups=[(7,Go.Proofs.YtkchaoajegkadaaGreatDoor.b8 (UInt8.ofNat (((alive.drop (i+1)).take j).count true))),(24,.int .i64 ((j:Nat):Int))]∧j≤s∧Own w0 none w []) F (s) [(7,Go.Proofs.YtkchaoajegkadaaGreatDoor.b8 0),(24,.int .i64 ((0:Nat):Int))] (by repeat (first | exact SubR.nil | (apply SubR.cons;· rfl))) ?_ ?_ ?_
 · exact ⟨0,rfl,rfl,by omega,H⟩
 · repeat (first | exact trivial | refine Le.cons rfl ?_)
 clear F
 clear H
 intro m ups a w hI F
 obtain ⟨j,rfl,rfl,hj,H⟩:=hI
 refine cSR fun K5 hK5=>sBin F rfl rfl rfl rfl bLss (qNK hK5 ?_);clear hK5;clear F a;intro a F;refine cSeq (fun K6 hK6=>?_)
 refine cIf F rfl (fun h25=>?_) (fun h25=>?_)
 ·
  replace h25:=of_decide_eq_true h25
  have hjs:j < s:=by omega
  obtain ⟨v,hv⟩:∃ v,alive[i+1+j]? = some v:=⟨_,List.getElem?_eq_getElem (by omega)⟩
  have hv2:(alive.drop (i+1))[j]? = some v:=by rw [List.getElem?_drop];exact hv
  have hc:=hA (i+1+j) _ (bl_get hv)
  have hct:=count_take hv2
  refine wp_skip (hK6 _ _ ?_);clear hK6;refine cSeq (fun K7 hK7=>?_);refine wp_block ?_;refine cSR fun K8 hK8=>?_
  refine sIx underlying172 sizeOf4 F rfl rfl rfl rfl ?_ ?_
  focus (first | omega | decide | (simp;omega))
  clear F a;intro a F;refine sLd isAgg4 F rfl rfl rfl (H.arg (by rw [show 0+(i+1) * 1+j * 1=0+(i+1+j) by omega];exact hc)) (qAs rfl rfl rfl (qNK hK8 (qSR fun K9 hK9=>qMv rfl rfl rfl (qNK hK9 ?_))));clear hK8 hK9;clear F a;intro a F
  refine cIf F rfl (fun h28=>?_) (fun h28=>?_)
  ·
   refine cReg (sMv F rfl rfl rfl (qBin rfl rfl rfl rfl (bAddB (y:=1)) (qAs rfl rfl rfl (qNK hK7 (qReg ?_)))));clear hK7;clear F a;intro a F
   refine sBin F rfl rfl rfl rfl (bAddN (j:=1) ?_) ?_
   focus omega
   clear F a;intro a F;refine sMv F rfl rfl rfl ?_;clear F a;intro a F;refine sNil ?_
   first
     | (have e:((alive.drop (i+1)).take (j+1)).count true=((alive.drop (i+1)).take j).count true+1:=by rw [hct,if_pos h28]
        rw [← ofNat_succ8,← e] at F
        exact ⟨_,by omega,_,⟨j+1,rfl,rfl,by omega,H⟩,F.to (by repeat (first | exact trivial | refine Le.cons rfl ?_))⟩)
     | (have e:((alive.drop (i+1)).take (j+1)).count true=((alive.drop (i+1)).take j).count true:=by rw [hct,if_neg (by rw [h28];simp),Nat.add_zero]
        rw [← e] at F
        exact ⟨_,by omega,_,⟨j+1,rfl,rfl,by omega,H⟩,F.to (by repeat (first | exact trivial | refine Le.cons rfl ?_))⟩)
  refine wp_skip (hK7 _ _ (cReg ?_));clear hK7
  refine sBin F rfl rfl rfl rfl (bAddN (j:=1) ?_) ?_
  focus omega
  clear F a;intro a F;refine sMv F rfl rfl rfl ?_;clear F a;intro a F;refine sNil ?_
  first
    | (have e:((alive.drop (i+1)).take (j+1)).count true=((alive.drop (i+1)).take j).count true+1:=by rw [hct,if_pos h28]
       rw [← ofNat_succ8,← e] at F
       exact ⟨_,by omega,_,⟨j+1,rfl,rfl,by omega,H⟩,F.to (by repeat (first | exact trivial | refine Le.cons rfl ?_))⟩)
    | (have e:((alive.drop (i+1)).take (j+1)).count true=((alive.drop (i+1)).take j).count true:=by rw [hct,if_neg (by rw [h28];simp),Nat.add_zero]
       rw [← e] at F
       exact ⟨_,by omega,_,⟨j+1,rfl,rfl,by omega,H⟩,F.to (by repeat (first | exact trivial | refine Le.cons rfl ?_))⟩)
 replace h25:=of_decide_eq_false h25
 obtain rfl:j=s:=by omega
 refine wp_exit ?_;refine hK3 _ _ (cSR fun K10 hK10=>sMv F rfl rfl rfl (qAs rfl rfl rfl (qNK hK10 ?_)));clear hK3 hK10;clear F a;intro a F;refine wp_ret ?_;refine bRet results149 F rfl ?_
 exact ⟨rfl,H.below⟩
theorem ofNat8_zero {n:Nat} (h:n < 256):(UInt8.ofNat n == 0)=(n == 0):=by
 rw [Bool.eq_iff_iff,beq_iff_eq,beq_iff_eq,← UInt8.toNat_inj,UInt8.toNat_ofNat',Nat.mod_eq_of_lt h]
 exact Iff.rfl
theorem skipped_lt (alive:List Bool) (i s:Nat):skippedP alive i s≤s:=by
 unfold skippedP
 exact Nat.le_trans List.count_le_length (by rw [List.length_take];exact Nat.min_le_left _ _)
theorem idle_any (A:Option Addr) (C:Nat) (l:List Ins) (b:Nat) (alive:List Bool) (i:Nat) (x:Ins) (w0:World) (hS:SkipAt w0 A l b alive i x) :
   Calls Tryz.prog 159 #[.slice A l.length C,.slice (some ⟨b,0,none⟩) alive.length alive.length,.int .i64 (i:Int)] w0 fun e w'=>e = .returned (.bool (idleP x alive i))∧Below w0.heap.size w0 w':=by
 have H:=Own.start w0 none
 have hS0:=hS
 obtain ⟨hR,hA,hx,hl,h12,hpos,hfit⟩:=hS
 obtain ⟨bI,oI,rfl,hIx⟩:=hR i x.cells (by rw [List.getElem?_map,hx];rfl)
 have hil:i < l.length:=by omega
 have hb:=skipped_lt alive i x.skip.toNat
 refine enterF func159 rfl ntmps159 rfl (fun a F=>?_);refine cSR fun K1 hK1=>sAs F rfl rfl rfl (qNK hK1 (qSR fun K2 hK2=>qMv rfl rfl rfl (qMv rfl rfl rfl ?_)));clear hK1;clear F a;intro a F
 refine sIx underlying52 sizeOf44 F rfl rfl rfl rfl ?_ ?_
 focus (first | omega | decide | (simp;omega))
 clear F a;intro a F
 refine sLr underlying44 rfl ?si F rfl rfl rfl (H.argR hIx) ?_
 case si=>exact info_size sizeOf44
 clear F a;intro a F;refine sCall call158 F rfl rfl rfl (ways_any x _) ?_;rintro e w ⟨rfl,hb⟩;replace H:=H.grow hb;clear hb;refine ⟨_,rfl,?_⟩;clear F a;intro a F;refine sMv F rfl rfl rfl (qExt rfl rfl rfl rfl (qExt rfl rfl rfl rfl (qAs rfl rfl rfl (qAs rfl rfl rfl (qNK hK2 (qSR fun K3 hK3=>qMv rfl rfl rfl (qNot rfl rfl rfl (qMv rfl rfl rfl ?_))))))));clear hK2;clear F a;intro a F
 refine F.split 19 rfl ?_ ?_ <;> (clear F;intro h19 F)
 ·
  replace h19:=notT h19;refine sSk F rfl rfl (qSk rfl rfl (qSk rfl rfl (qSk rfl rfl (qSk rfl rfl (qPk rfl rfl rfl rfl (qAs rfl rfl rfl (qNK hK3 ?_)))))));clear hK3;clear F a;intro a F;refine wp_ret ?_;refine bRet results159 F rfl ?_
  refine ⟨retB ?_,H.below⟩
  clear F H
  first
    | (rw [idleP,← ofNat8_zero (by omega),h19];rfl)
    | (rw [idleP,h19];rfl)
 replace h19:=notF h19;refine sMv F rfl rfl rfl (qMv rfl rfl rfl (qMv rfl rfl rfl ?_));clear F a;intro a F;refine sCall call149 F rfl rfl rfl (skipped_any _ C l b alive i x _ (hS0.own H)) ?_;rintro e w ⟨rfl,hb⟩;replace H:=H.grow hb;clear hb;refine ⟨_,rfl,?_⟩;clear F a;intro a F;refine sBin F rfl rfl rfl rfl (bEqlB (y:=0)) (qPk rfl rfl rfl rfl (qAs rfl rfl rfl (qNK hK3 ?_)));clear hK3;clear F a;intro a F;refine wp_ret ?_;refine bRet results159 F rfl ?_
 refine ⟨retB ?_,H.below⟩
 clear F H
 first
   | (rw [idleP,← ofNat8_zero (by omega),h19];rfl)
   | (rw [idleP,h19];rfl)
end Go.Proofs.YtkchaoajegkadaaGreatDoor
