/-
  Plain Lean: a valid program renumbered is valid, and renumbered back it is the program. Conditions: none.
-/
import Derived.Test.YtbgnapmaimkpkaaGreatDoorJn8
import Derived.Test.YtbgnapmaimkpkaaGreatDoorJn4
import Derived.Test.YtbgnapmaimkpkaaGreatDoorJn6
set_option linter.unusedSimpArgs false
set_option linter.unusedVariables false
namespace Go.Proofs.YtbgnapmaimkpkaaGreatDoor
-- TuQ
set_option maxRecDepth 100000
theorem idxOf_none {x:ByteArray}:∀ {l:List ByteArray} {k:Nat},(idxOf x l k).isSome=false ↔ ∀ y ∈ l,x.toList ≠ y.toList
 | [],k=>by simp [idxOf]
 | y :: r,k=>by
   unfold idxOf
   by_cases h:x.toList=y.toList
   · rw [if_pos (beq_iff_eq.2 h)]
     refine ⟨fun e=>Bool.noConfusion e,fun e=>absurd h (e y (by simp))⟩
   · rw [if_neg (fun e=>h (beq_iff_eq.1 e)),idxOf_none]
     refine ⟨fun e z hz=>?_,fun e z hz=>e z (by simp [hz])⟩
     rcases List.mem_cons.1 hz with hz | hz
     · rw [hz];exact h
     · exact e z hz
theorem names_iff {m:List ByteArray}:∀ {l:List ByteArray} {j:Nat},m.drop j=l→(namesOk m j l=true ↔ (∀ x ∈ l,nameOk x=true)∧∀ (i:Nat) (x:ByteArray),j≤i→m[i]? = some x→∀ y ∈ m.take i,x.toList ≠ y.toList)
 | [],j,hd=>by
   refine ⟨fun _=>⟨fun x hx=>(by cases hx),fun i x hi hx=>?_⟩,fun _=>rfl⟩
   have h1:m.length≤j:=List.drop_eq_nil_iff.1 hd
   rw [List.getElem?_eq_none (by omega)] at hx
   cases hx
 | y :: r,j,hd=>by
   have hj:m[j]? = some y:=by
     have:=congrArg (fun q:List ByteArray=>q[0]?) hd
     simpa using this
   have hd':m.drop (j+1)=r:=by
     have:=congrArg List.tail hd
     simpa using this
   have ih:=names_iff (m:=m) hd'
   have e:namesOk m j (y :: r)=((nameOk y && !(idxOf y (m.take j) 0).isSome) && namesOk m (j+1) r):=rfl
   rw [e,Bool.and_eq_true,Bool.and_eq_true,ih,Bool.not_eq_true',idxOf_none]
   constructor
   · rintro ⟨⟨h1,h2⟩,h3,h4⟩
     refine ⟨fun x hx=>?_,fun i x hi hx=>?_⟩
     · rcases List.mem_cons.1 hx with hx | hx
       · rw [hx];exact h1
       · exact h3 x hx
     · rcases Nat.lt_or_ge j i with h | h
       · exact h4 i x h hx
       · obtain rfl:i=j:=by omega
         rw [hj] at hx
         obtain rfl:=Option.some.inj hx
         exact h2
   · rintro ⟨h1,h4⟩
     exact ⟨⟨h1 y (by simp),h4 j y (Nat.le_refl _) hj⟩,fun x hx=>h1 x (by simp [hx]),fun i x hi hx=>h4 i x (by omega) hx⟩
theorem names_nodup {m:List ByteArray}:namesOk m 0 m=true ↔ (∀ x ∈ m,nameOk x=true)∧∀ (i k:Nat) (x y:ByteArray),m[i]? = some x→m[k]? = some y→x.toList=y.toList→i=k:=by
 rw [names_iff (m:=m) (j:=0) (by simp)]
 refine and_congr_right fun _=>⟨fun h i k x y hi hk e=>?_,fun h i x _ hx y hm e=>?_⟩
 · rcases Nat.lt_trichotomy i k with q | q | q
   · exact absurd e.symm (h k y (Nat.zero_le _) hk x (List.mem_of_getElem? (i:=i) (by rw [List.getElem?_take,if_pos q];exact hi)))
   · exact q
   · exact absurd e (h i x (Nat.zero_le _) hi y (List.mem_of_getElem? (i:=k) (by rw [List.getElem?_take,if_pos q];exact hk)))
 · obtain ⟨k,hk⟩:=List.mem_iff_getElem?.1 hm
   rw [List.getElem?_take] at hk
   split at hk
   · have:=h i k x y hx hk e;omega
   · cases hk
section
variable {p:Prg} {T L:List Int} {h:Nat}
theorem locs_at (hL:IsPerm p.locs.length L) {k:Nat} (hk:k < p.locs.length):(turnPr h p T L).locs[k]? = p.locs[idxZ L k]?:=by
 show ((List.range p.locs.length).map _)[k]? = _
 rw [List.getElem?_map,List.getElem?_range hk]
 show some (p.locs.getD (idxZ L k) ByteArray.empty)=_
 rw [List.getD_eq_getElem?_getD,List.getElem?_eq_getElem (idx_at hL hk).2];rfl
theorem locs_len:(turnPr h p T L).locs.length=p.locs.length:=by show ((List.range _).map _).length=_;rw [List.length_map,List.length_range]
theorem init_len:(turnPr h p T L).init.length=p.locs.length:=by show ((List.range _).map _).length=_;rw [List.length_map,List.length_range]
theorem thr_lenT:(turnPr h p T L).threads.length=p.threads.length:=by show ((List.range _).map _).length=_;rw [List.length_map,List.length_range]
theorem init_at (hi:p.init.length=p.locs.length) (hL:IsPerm p.locs.length L) {k:Nat} (hk:k < p.locs.length):(turnPr h p T L).init[k]? = p.init[idxZ L k]?:=by
 show ((List.range p.locs.length).map _)[k]? = _
 rw [List.getElem?_map,List.getElem?_range hk]
 show some (p.init.getD (idxZ L k) 0)=_
 rw [List.getD_eq_getElem?_getD,List.getElem?_eq_getElem (by rw [hi];exact (idx_at hL hk).2)];rfl
theorem thr_atT (hT:IsPerm p.threads.length T) {k:Nat} (hk:k < p.threads.length):(turnPr h p T L).threads[k]? = (p.threads[idxZ T k]?).map (fun l=>l.map (turnI L)):=by
 show ((List.range p.threads.length).map _)[k]? = _
 rw [List.getElem?_map,List.getElem?_range hk]
 show some ((p.threads.getD (idxZ T k) []).map (turnI L))=_
 rw [List.getD_eq_getElem?_getD,List.getElem?_eq_getElem (idx_at hT hk).2];rfl
theorem loc_in {locs after:Int} {x:Ins} (hx:insOk x locs after=true) (hb:hasB x.op 2=true):(x.loc.toNat:Int) < locs:=by
 have h3:(!hasB x.op 2 || decide ((x.loc.toNat:Int) < locs))=true:=ins_cond hx 3 (by decide)
 rw [hb] at h3
 exact of_decide_eq_true h3
theorem turnI_ok {m:Nat} {after:Int} {x:Ins} (hL:IsPerm m L) (hm:m≤256) (hx:insOk x (m:Int) after=true):insOk (turnI L x) (m:Int) after=true:=by
 have hc:=fun k hk=>ins_cond hx k hk
 unfold insOk
 rw [List.all_eq_true]
 intro k hk
 rw [List.mem_range] at hk
 match k,hk with
 | 0,_=>exact hc 0 (by decide)
 | 1,_=>
   have h1:(x == x.needed)=true:=hc 1 (by decide)
   have e:=beq_iff_eq.1 h1
   show (turnI L x == (turnI L x).needed)=true
   rw [beq_iff_eq]
   have e2:(turnI L x).needed = { x.needed with loc:=bif hasB x.op 2 then (turnI L x).loc else 0 }:=rfl
   rw [e2,← e]
   unfold turnI
   cases hb:hasB x.op 2 with
   | true=>simp only [if_true,cond_true]
   | false=>
     simp only [Bool.false_eq_true,if_false,cond_false]
     have hl:x.loc=x.needed.loc:=congrArg Ins.loc e
     have hl2:x.needed.loc=bif hasB x.op 2 then x.loc else 0:=rfl
     rw [hb] at hl2;rw [hl2] at hl
     rw [hl];rfl
 | 2,_=>exact hc 2 (by decide)
 | 3,_=>
   show (!hasB x.op 2 || decide ((((turnI L x).loc.toNat:Nat):Int) < (m:Int)))=true
   cases hb:hasB x.op 2 with
   | false=>rfl
   | true=>
     have h3:=loc_in hx hb
     have h4:x.loc.toNat < m:=by omega
     have h5:=newN_nat hL hm h4
     have h6:=(pos_at hL h4).1
     have h7:(turnI L x).loc=newN L x.loc:=by unfold turnI;rw [hb];rfl
     rw [h7,h5]
     simp only [Bool.not_true,Bool.false_or]
     exact decide_eq_true (by omega)
 | 4,_=>exact hc 4 (by decide)
 | 5,_=>exact hc 5 (by decide)
 | 6,_=>exact hc 6 (by decide)
 | 7,_=>exact hc 7 (by decide)
theorem inses_turn {m:Nat} (hL:IsPerm m L) (hm:m≤256) (n:Nat):∀ (l:List Ins) (i:Nat),insesOk (m:Int) n i l=true→insesOk (m:Int) n i (l.map (turnI L))=true
 | [],_,_=>rfl
 | x :: r,i,hx=>by
   simp only [insesOk,List.map_cons,Bool.and_eq_true] at hx ⊢
   exact ⟨turnI_ok hL hm hx.1,inses_turn hL hm n r (i+1) hx.2⟩
theorem right_turn (hv:rightErr p=0) (hT:IsPerm p.threads.length T) (hL:IsPerm p.locs.length L):rightErr (turnPr h p T L)=0:=by
 have V:=valid hv
 have h6:=V.locs6
 have h4:=V.thr4
 have key:∀ i,i < 6→demandK (turnPr h p T L) i=true:=fun i hi=>by
   match i,hi with
   | 0,_=>exact right_demand hv 0 (by omega)
   | 1,_=>
     have h1:locsOk p=true:=right_demand hv 1 (by omega)
     show locsOk (turnPr h p T L)=true
     unfold locsOk at h1 ⊢
     rw [Bool.and_eq_true] at h1 ⊢
     refine ⟨?_,?_⟩
     · rw [locs_len,init_len]
       have:=h1.1
       simp only [Bool.and_eq_true,decide_eq_true_eq,beq_iff_eq] at this ⊢
       exact ⟨this.1,trivial⟩
     · have h2:=names_nodup.1 h1.2
       rw [names_nodup]
       refine ⟨fun x hx=>?_,fun i k x y hi hk he=>?_⟩
       · obtain ⟨k,hk⟩:=List.mem_iff_getElem?.1 hx
         have hkl:k < p.locs.length:=by rw [← locs_len (h:=h) (T:=T) (L:=L)];exact (List.getElem?_eq_some_iff.1 hk).1
         rw [locs_at hL hkl] at hk
         exact h2.1 x (List.mem_of_getElem? hk)
       · have hil:i < p.locs.length:=by rw [← locs_len (h:=h) (T:=T) (L:=L)];exact (List.getElem?_eq_some_iff.1 hi).1
         have hkl:k < p.locs.length:=by rw [← locs_len (h:=h) (T:=T) (L:=L)];exact (List.getElem?_eq_some_iff.1 hk).1
         rw [locs_at hL hil] at hi;rw [locs_at hL hkl] at hk
         have:=h2.2 _ _ x y hi hk he
         rw [← pos_idx hL hil,this,pos_idx hL hkl]
   | 2,_=>
     have h2:threadsShort p=true:=right_demand hv 2 (by omega)
     show threadsShort (turnPr h p T L)=true
     simp only [threadsShort,Bool.and_eq_true,decide_eq_true_eq,List.all_eq_true] at h2 ⊢
     rw [thr_lenT]
     refine ⟨h2.1,fun t ht=>?_⟩
     obtain ⟨k,hk⟩:=List.mem_iff_getElem?.1 ht
     have hkl:k < p.threads.length:=by rw [← thr_lenT (h:=h) (T:=T) (L:=L)];exact (List.getElem?_eq_some_iff.1 hk).1
     rw [thr_atT hT hkl] at hk
     cases hq:p.threads[idxZ T k]? with
     | none=>rw [hq] at hk;cases hk
     | some u=>
       rw [hq] at hk
       obtain rfl:=Option.some.inj hk
       rw [List.length_map]
       exact h2.2 u (List.mem_of_getElem? hq)
   | 3,_=>
     have h3:threadsOk p=true:=right_demand hv 3 (by omega)
     show threadsOk (turnPr h p T L)=true
     simp only [threadsOk,List.all_eq_true] at h3 ⊢
     rw [locs_len]
     intro t ht
     obtain ⟨k,hk⟩:=List.mem_iff_getElem?.1 ht
     have hkl:k < p.threads.length:=by rw [← thr_lenT (h:=h) (T:=T) (L:=L)];exact (List.getElem?_eq_some_iff.1 hk).1
     rw [thr_atT hT hkl] at hk
     cases hq:p.threads[idxZ T k]? with
     | none=>rw [hq] at hk;cases hk
     | some u=>
       rw [hq] at hk
       obtain rfl:=Option.some.inj hk
       have h4:=h3 u (List.mem_of_getElem? hq)
       simp only [threadOk,Bool.and_eq_true,List.length_map] at h4 ⊢
       exact ⟨h4.1,inses_turn hL (by omega) _ _ _ h4.2⟩
   | 4,_=>exact right_demand hv 4 (by omega)
   | 5,_=>
     have h5:condOk p.threads.length p.locs.length 20 p.cond=true:=right_demand hv 5 (by omega)
     show condOk (turnPr h p T L).threads.length (turnPr h p T L).locs.length 20 (turnH T L h p.cond)=true
     rw [thr_lenT,locs_len]
     exact condOk_turn hT hL (by omega) (by omega) h 20 _ h5
   | i+6,hi=>omega
 unfold rightErr
 simp [rightFrom,key]
end
-- BfY
def bufL (s:By) (t:Nat):List (UInt8 × UInt8):=(List.range (manyB s t)).map fun i=>(bLoc s t i,bVal s t i)
def perL (l:List (UInt8 × UInt8)) (k:UInt8):List (UInt8 × UInt8):=l.filter fun x=>x.1 == k
theorem buf_len (s:By) (t:Nat):(bufL s t).length=manyB s t:=by simp [bufL]
theorem buf_get (s:By) (t i:Nat):(bufL s t)[i]? = if i < manyB s t then some (bLoc s t i,bVal s t i) else none:=by
 unfold bufL
 rw [List.getElem?_map]
 by_cases h:i < manyB s t
 · rw [if_pos h,List.getElem?_range h];rfl
 · rw [if_neg h,List.getElem?_eq_none (by simpa using h)];rfl
theorem buf_same {s z:By} {t:Nat} (hm:manyB z t=manyB s t) (h12:manyB s t≤12) (hb:∀ i,i < 12→bLoc z t i=bLoc s t i∧bVal z t i=bVal s t i):bufL z t=bufL s t:=by
 apply List.ext_getElem?
 intro i
 rw [buf_get,buf_get,hm]
 by_cases h:i < manyB s t
 · rw [if_pos h,if_pos h,(hb i (by omega)).1,(hb i (by omega)).2]
 · rw [if_neg h,if_neg h]
theorem perL_append (a b:List (UInt8 × UInt8)) (k:UInt8):perL (a++b) k=perL a k++perL b k:=List.filter_append ..
theorem perL_one (x:UInt8 × UInt8) (k:UInt8):perL [x] k=if x.1=k then [x] else []:=by
 unfold perL
 by_cases h:x.1=k
 · rw [if_pos h,List.filter_cons_of_pos (by simpa using h)];rfl
 · rw [if_neg h,List.filter_cons_of_neg (by simpa using h)];rfl
theorem perL_none {l:List (UInt8 × UInt8)} {k:UInt8} (h:∀ (i:Nat) (x:UInt8 × UInt8),l[i]? = some x→x.1 ≠ k):perL l k=[]:=by
 unfold perL
 rw [List.filter_eq_nil_iff]
 intro x hx
 obtain ⟨i,hi⟩:=List.mem_iff_getElem?.1 hx
 simpa using h i x hi
theorem buf_add {s st:By} {t a:Nat} (ha:a≤manyB s t) (hn:manyB s t≤11) (ht:t < 4):bufL (addR s t a st) t=(bufL s t).take a++(st 0,st 1) :: (bufL s t).drop a:=by
 have hlt:((bufL s t).take a).length=a:=by rw [List.length_take,buf_len];omega
 apply List.ext_getElem?
 intro i
 rw [buf_get,add_many ha hn]
 rcases Nat.lt_trichotomy i a with h | h | h
 · rw [if_pos (by omega),List.getElem?_append_left (by omega),List.getElem?_take_of_lt h,buf_get,if_pos (by omega),add_loc ha hn ht (by omega),add_val ha hn ht (by omega)]
   have f1:¬ i=a:=by omega
   have f2:¬ (a < i∧i≤manyB s t):=by omega
   rw [if_neg f1,if_neg f1,if_neg f2,if_neg f2]
 · subst h
   rw [if_pos (by omega),List.getElem?_append_right (by omega),hlt,Nat.sub_self,add_loc ha hn ht (by omega),add_val ha hn ht (by omega),if_pos rfl,if_pos rfl]
   rfl
 · rw [List.getElem?_append_right (by omega),hlt,show i - a=(i - a - 1)+1 by omega,List.getElem?_cons_succ,List.getElem?_drop,buf_get]
   by_cases h2:i≤manyB s t
   · have f1:¬ i=a:=by omega
     have f2:a < i∧i≤manyB s t:=⟨h,h2⟩
     rw [if_pos (by omega),if_pos (by omega),add_loc ha hn ht (by omega),add_val ha hn ht (by omega),if_neg f1,if_neg f1,if_pos f2,if_pos f2,show a+(i - a - 1)=i - 1 by omega]
   · rw [if_neg (by omega),if_neg (by omega)]
theorem buf_drain {s:By} {t a:Nat} (ha:a < manyB s t) (hl:(bLoc s t a).toNat < 6) (hn:manyB s t≤12) (ht:t < 4):bufL (drainR s t a) t=(bufL s t).take a++(bufL s t).drop (a+1):=by
 have hlt:((bufL s t).take a).length=a:=by rw [List.length_take,buf_len];omega
 apply List.ext_getElem?
 intro i
 rw [buf_get,drain_many ha hl]
 rcases Nat.lt_or_ge i a with h | h
 · rw [if_pos (by omega),List.getElem?_append_left (by omega),List.getElem?_take_of_lt h,buf_get,if_pos (by omega),drain_loc ha hl hn ht (by omega),drain_val ha hl hn ht (by omega)]
   have f1:¬ i+1=manyB s t:=by omega
   have f2:¬ (a≤i∧i+1 < manyB s t):=by omega
   rw [if_neg f1,if_neg f1,if_neg f2,if_neg f2]
 · rw [List.getElem?_append_right (by omega),hlt,List.getElem?_drop,buf_get,show a+1+(i - a)=i+1 by omega]
   by_cases h2:i+1 < manyB s t
   · have f1:¬ i+1=manyB s t:=by omega
     have f2:a≤i∧i+1 < manyB s t:=⟨h,h2⟩
     rw [if_pos (by omega),if_pos (by omega),drain_loc ha hl hn ht (by omega),drain_val ha hl hn ht (by omega),if_neg f1,if_neg f1,if_pos f2,if_pos f2]
   · rw [if_neg (by omega),if_neg (by omega)]
theorem buf_split {s:By} {t a:Nat} (ha:a < manyB s t):bufL s t=(bufL s t).take a++(bLoc s t a,bVal s t a) :: (bufL s t).drop (a+1):=by
 have h1:(bufL s t)[a]? = some (bLoc s t a,bVal s t a):=by rw [buf_get,if_pos ha]
 have hlen:a < (bufL s t).length:=by rw [buf_len];exact ha
 have h2:=List.take_append_drop a (bufL s t)
 rw [List.drop_eq_getElem_cons hlen] at h2;rw [List.getElem?_eq_getElem hlen] at h1
 have h1:=Option.some.inj h1
 rw [h1] at h2
 exact h2.symm
section
variable {p:Prg} {m:UInt8} {s:By} {t:Nat} {l:List Ins} {x:Ins}
theorem ExecOf.bufKeep (h:ExecOf p m s t l x) {u:Nat} (hu:u < 4) (hc:u ≠ t∨¬ buffers m x):bufL (execP m x s t) u=bufL s u:=by
 have h12:=(h.r.many hu).1
 by_cases hb:buffers m x
 · obtain ⟨h1,h2⟩:=h.far hu (hc.resolve_right fun hh=>hh hb)
   exact buf_same h1 h12 h2
 · obtain ⟨h1,h2⟩:=h.still hb u
   exact buf_same h1 h12 (fun i _=>h2 i)
theorem ExecOf.perAdd (h:ExecOf p m s t l x) (hb:buffers m x) (k:UInt8):perL (bufL (execP m x s t) t) k=perL (bufL s t) k++if x.loc=k then [(x.loc,valA x (cut s (t * 9)))] else []:=by
 have hn:=h.room
 have ht:=h.t4
 have ha:=addAt_le (m:=m) (s:=s) (t:=t) (loc:=x.loc) (manyB s t)
 obtain ⟨a1,a2,a3⟩:=addAt_spec (m:=m) (s:=s) (t:=t) (loc:=x.loc) (manyB s t)
 obtain ⟨h1,h2⟩:=h.adds hb t
 have hmany:manyB (addP m s t (stP x.loc (valA x (cut s (t * 9))))) t=manyB s t+1:=add_many ha hn
 have e:bufL (execP m x s t) t=bufL (addP m s t (stP x.loc (valA x (cut s (t * 9))))) t:=buf_same h1 (by omega) (fun i _=>h2 i)
 rw [e]
 show perL (bufL (addR s t (addAt m s t x.loc (manyB s t)) (stP x.loc (valA x (cut s (t * 9))))) t) k=_
 generalize addAt m s t x.loc (manyB s t)=a at ha a1 a2 a3
 rw [buf_add ha hn ht]
 show perL ((bufL s t).take a++([(x.loc,valA x (cut s (t * 9)))]++(bufL s t).drop a)) k=_
 rw [perL_append,perL_append,perL_one]
 conv=>rhs;rw [← List.take_append_drop a (bufL s t),perL_append]
 by_cases hk:x.loc=k
 · rw [if_pos hk]
   have hd:perL ((bufL s t).drop a) k=[]:=perL_none fun i y hy=>by
     rw [List.getElem?_drop,buf_get] at hy
     split at hy
     · rename_i hlt
       cases hy
       intro hk2
       have hk2:bLoc s t (a+i)=k:=hk2
       by_cases h3:m=3
       · have:=a1 h3 (a+i) (by omega) hlt
         rw [hk2,hk] at this
         omega
       · have:=a3 h3
         omega
     · cases hy
   rw [hd];simp
 · rw [if_neg hk];simp
theorem ExecOf.bufAdd (h:ExecOf p m s t l x) (hb:buffers m x) (hm:m ≠ 3):bufL (execP m x s t) t=bufL s t++[(x.loc,valA x (cut s (t * 9)))]:=by
 have hn:=h.room
 have ht:=h.t4
 have ha:=addAt_le (m:=m) (s:=s) (t:=t) (loc:=x.loc) (manyB s t)
 obtain ⟨a1,a2,a3⟩:=addAt_spec (m:=m) (s:=s) (t:=t) (loc:=x.loc) (manyB s t)
 obtain ⟨h1,h2⟩:=h.adds hb t
 have hmany:manyB (addP m s t (stP x.loc (valA x (cut s (t * 9))))) t=manyB s t+1:=add_many ha hn
 have e:bufL (execP m x s t) t=bufL (addP m s t (stP x.loc (valA x (cut s (t * 9))))) t:=buf_same h1 (by omega) (fun i _=>h2 i)
 rw [e]
 show bufL (addR s t (addAt m s t x.loc (manyB s t)) (stP x.loc (valA x (cut s (t * 9))))) t=_
 rw [a3 hm,buf_add (Nat.le_refl _) hn ht,List.take_of_length_le (by rw [buf_len];exact Nat.le_refl _),List.drop_eq_nil_of_le (by rw [buf_len];exact Nat.le_refl _)]
 rfl
end
section
variable {p:Prg} {m:UInt8} {s:By} {t a:Nat}
theorem DrainOf.bufKeep (h:DrainOf p m s t a) {u:Nat} (hu:u < 4) (hne:u ≠ t):bufL (drainR s t a) u=bufL s u:=by
 obtain ⟨h1,h2⟩:=drain_far h.lt h.loc6 h.n12 h.t4 hu hne
 exact buf_same h1 (h.r.many hu).1 h2
theorem DrainOf.bufOwn (h:DrainOf p m s t a):bufL (drainR s t a) t=(bufL s t).take a++(bufL s t).drop (a+1):=buf_drain h.lt h.loc6 h.n12 h.t4
theorem DrainOf.before (h:DrainOf p m s t a) {k:UInt8} (hk:bLoc s t a=k):perL ((bufL s t).take a) k=[]:=perL_none fun i y hy=>by
 rcases Nat.lt_or_ge i a with hi | hi
 · rw [List.getElem?_take_of_lt hi,buf_get] at hy
   split at hy
   · cases hy
     intro hk2
     have hk2:bLoc s t i=k:=hk2
     exact (h.fst i hi).2 (hk2.trans hk.symm)
   · cases hy
 · rw [List.getElem?_eq_none (by rw [List.length_take];omega)] at hy;cases hy
theorem DrainOf.perHere (h:DrainOf p m s t a):perL (bufL s t) (bLoc s t a)=(bLoc s t a,bVal s t a) :: perL (bufL (drainR s t a) t) (bLoc s t a):=by
 rw [h.bufOwn]
 conv=>lhs;rw [buf_split h.lt]
 rw [perL_append,perL_append,h.before rfl,List.nil_append,List.nil_append]
 show perL ([(bLoc s t a,bVal s t a)]++_) _=_
 rw [perL_append,perL_one,if_pos rfl]
 rfl
theorem DrainOf.perElse (h:DrainOf p m s t a) {k:UInt8} (hk:bLoc s t a ≠ k):perL (bufL (drainR s t a) t) k=perL (bufL s t) k:=by
 rw [h.bufOwn]
 conv=>rhs;rw [buf_split h.lt]
 rw [perL_append,perL_append]
 show _=_++perL ([(bLoc s t a,bVal s t a)]++_) _
 rw [perL_append,perL_one,if_neg hk]
 rfl
end
theorem seen_per {p:Prg} {m:UInt8} {s:By} (h:RightM p m s) {t:Nat} (ht:t < 4) (k:UInt8):seenP s t k=match (perL (bufL s t) k).getLast? with | some x=>x.2 | none=>s (36+k.toNat):=by
 rw [seen_eq h ht]
 unfold bufL
 generalize manyB s t=n
 induction n with
 | zero=>rfl
 | succ n ih=>
   rw [seenN,List.range_succ,List.map_append,perL_append]
   show _=match (perL _ k++perL [(bLoc s t n,bVal s t n)] k).getLast? with | some x=>x.2 | none=>s (36+k.toNat)
   rw [perL_one]
   by_cases hk:bLoc s t n=k
   · rw [if_pos hk,if_pos hk,List.getLast?_append];rfl
   · rw [if_neg hk,if_neg hk,List.append_nil];exact ih
-- BfZ
theorem execT_thr {x:Ins} {s:By} {t:Nat} (hop:x.op=1∨x.op=2∨x.op=3∨x.op=4∨x.op=5∨x.op=6∨x.op=7∨x.op=8):execT x s t=thrP x (cut s (t * 9)) (if x.op=1 then seenP s t x.loc else s (36+x.loc.toNat)):=by
 unfold execT thrP
 by_cases h1:x.op=1
 · rw [if_pos h1,if_pos h1,if_neg (by simp [isLocal,h1])]
 · rw [if_neg h1,if_neg h1]
   by_cases h2:x.op=2
   · rw [if_pos h2,if_neg (by simp [isLocal,h2])]
     unfold farP
     rw [if_pos h2]
     rfl
   · rw [if_neg h2]
     by_cases h4:x.op=4∨x.op=5∨x.op=6
     · rw [if_pos h4,if_neg (by rcases h4 with h | h | h <;> simp [isLocal,h])]
     · rw [if_neg h4,if_pos]
       rcases hop with h | h | h | h | h | h | h | h
       · exact absurd h h1
       · exact absurd h h2
       · simp [isLocal,h]
       · exact absurd (.inl h) h4
       · exact absurd (.inr (.inl h)) h4
       · exact absurd (.inr (.inr h)) h4
       · simp [isLocal,h]
       · simp [isLocal,h]
section
variable {p:Prg} {m:UInt8} {s:By} {t a:Nat} {l:List Ins} {x:Ins}
theorem ExecOf.perKeep (h:ExecOf p m s t l x) {u:Nat} (hu:u < 4) (hc:u ≠ t∨¬ buffers m x) (k:UInt8):perL (bufL (execP m x s t) u) k=perL (bufL s u) k:=by rw [h.bufKeep hu hc]
end
theorem drains_mem {m:UInt8} {s:By} {t j:Nat} (hj:j=0∨(m=3∧bLoc s t j ≠ bLoc s t (j - 1))):∀ n,j < n→drainAt m s t j ∈ drains m s t n
 | 0,h=>absurd h (by omega)
 | n+1,h=>by
   rw [drains]
   rcases Nat.lt_or_ge j n with h1 | h1
   · have:=drains_mem hj n h1
     split
     · exact List.mem_append.2 (.inl this)
     · exact this
   · obtain rfl:j=n:=by omega
     rw [if_pos hj]
     exact List.mem_append.2 (.inr (by simp))
theorem mem_drainT {p:Prg} {m:UInt8} {s:By} {t j:Nat} (hj:j=0∨(m=3∧bLoc s t j ≠ bLoc s t (j - 1))) (hm:j < manyB s t):∀ n,t < n→drainAt m s t j ∈ movesN p m s n
 | 0,h=>absurd h (by omega)
 | n+1,h=>by
   rw [movesN]
   rcases Nat.lt_or_ge t n with h1 | h1
   · exact List.mem_append.2 (.inl (mem_drainT hj hm n h1))
   · obtain rfl:t=n:=by omega
     refine List.mem_append.2 (.inr ?_)
     unfold movesT
     exact List.mem_append.2 (.inr (drains_mem hj _ hm))
structure SimW (q:Prg) (s z:By):Prop where
 r:RightM q 2 s
 rz:RightM q 3 z
 low:∀ i,i < 42→z i=s i
 many:∀ t,t < 4→manyB z t=manyB s t
 per:∀ t,t < 4→∀ k,perL (bufL z t) k=perL (bufL s t) k
theorem SimW.seen {q:Prg} {s z:By} (h:SimW q s z) {t:Nat} (ht:t < 4) {k:UInt8} (hk:k.toNat < 6):seenP z t k=seenP s t k:=by
 rw [seen_per h.rz ht,seen_per h.r ht,h.per t ht,h.low _ (by omega)]
-- BfK
-- RlP
def Got (p:Prg) (m:UInt8) (z:By):Prop:=Fine p m z∧∃ r,RunM p m (startP p) r z
theorem Got.step {p:Prg} {m:UInt8} {z:By} {x:Pss} (h:Got p m z) (hx:x ∈ movesM p m z):Got p m (stepM p m z x):=⟨h.1.step hx,by
 obtain ⟨r,hr⟩:=h.2
 exact ⟨_,hr.snoc hx⟩⟩
theorem got_start {p:Prg} {m:UInt8} (hp:rightErr p=0) (hm:knownM m=true):Got p m (startP p):=⟨fine_start hp hm,[],rfl⟩
def ManyGot (p:Prg) (m:UInt8) (most:Nat):Prop:=∃ L:List By,L.Nodup∧most < L.length∧∀ z ∈ L,Got p m z
theorem visit_many {p:Prg} {m:UInt8} {most k:Nat} {s:By} (hs:Got p m s):∀ (r:List Pss) (l:List By) (q:List (Int × Pss)),(∀ x ∈ r,x ∈ movesM p m s)→(∀ y ∈ l,Got p m y)→l.Nodup →
   (visitR p m most k s r l q=none→ManyGot p m most)∧∀ l' q',visitR p m most k s r l q=some (l',q')→(∀ y ∈ l',Got p m y)∧l'.Nodup
 | [],l,q,_,hl,hn=>⟨fun e=>(by simp [visitR] at e),fun l' q' e=>by
   simp only [visitR,Option.some.injEq,Prod.mk.injEq] at e
   obtain ⟨rfl,rfl⟩:=e
   exact ⟨hl,hn⟩⟩
 | x :: r,l,q,hr,hl,hn=>by
   have hx:=hr x (by simp)
   have hz:=hs.step hx
   have hin:=isIn_iff (fun y hy=>(hl y hy).1.t) hz.1.t
   have hr':∀ y ∈ r,y ∈ movesM p m s:=fun y hy=>hr y (by simp [hy])
   rw [visitR]
   by_cases hc:isIn l (stepM p m s x)=true
   · rw [if_pos hc];exact visit_many hs r l q hr' hl hn
   · rw [if_neg hc]
     have hl2:∀ y ∈ l++[stepM p m s x],Got p m y:=fun y hy=>by
       rcases List.mem_append.1 hy with h | h
       · exact hl y h
       · rw [List.mem_singleton.1 h];exact hz
     have hn2:(l++[stepM p m s x]).Nodup:=by
       rw [List.nodup_append]
       refine ⟨hn,by simp,fun a ha b hb=>?_⟩
       obtain rfl:b=stepM p m s x:=by simpa using hb
       rintro rfl
       exact hc (hin.2 ha)
     by_cases hm:most≤l.length
     · rw [if_pos hm]
       exact ⟨fun _=>⟨_,hn2,by simp;omega,hl2⟩,fun _ _ e=>by cases e⟩
     · rw [if_neg hm];exact visit_many hs r _ _ hr' hl2 hn2
theorem search_many {p:Prg} {m:UInt8} {most:Nat}:∀ (f k:Nat) (a:Fnd),(∀ y ∈ a.list,Got p m y)→a.list.Nodup→searchR p m most f k a=none→ManyGot p m most
 | 0,_,_,_,_,e=>by simp [searchR] at e
 | f+1,k,a,hl,hn,e=>by
   rw [searchR] at e
   cases hs:a.list[k]? with
   | none=>rw [hs] at e;cases e
   | some s=>
     have hv:=visit_many (most:=most) (k:=k) (hl s (List.mem_of_getElem? hs)) (movesM p m s) a.list a.links (fun x hx=>hx) hl hn
     simp only [hs] at e
     cases hq:visitR p m most k s (movesM p m s) a.list a.links with
     | none=>exact hv.1 hq
     | some lq=>
       obtain ⟨l,q⟩:=lq
       rw [hq] at e
       have h2:=hv.2 l q hq
       exact search_many f (k+1) _ h2.1 h2.2 e
theorem reach_many {p:Prg} {m:UInt8} {most:Nat} (hp:rightErr p=0) (hm:knownM m=true) (h:reachR p m most=none):ManyGot p m most:=
 search_many _ 0 (firstR p) (fun y hy=>by
   rw [show y=startP p by simpa [firstR] using hy]
   exact got_start hp hm) (by simp [firstR]) h
theorem len_sub {α:Type}:∀ {l q:List α},l.Nodup→(∀ x ∈ l,x ∈ q)→l.length≤q.length
 | [],_,_,_=>Nat.zero_le _
 | x :: r,q,hn,h=>by
   obtain ⟨a,b,rfl⟩:=List.append_of_mem (h x (by simp))
   have hn':=List.nodup_cons.1 hn
   have:=len_sub (l:=r) (q:=a++b) hn'.2 (fun y hy=>by
     have:=h y (by simp [hy])
     rw [List.mem_append,List.mem_cons] at this
     rcases this with h1 | h1 | h1
     · exact List.mem_append.2 (.inl h1)
     · rw [h1] at hy;exact absurd hy hn'.1
     · exact List.mem_append.2 (.inr h1))
   simp only [List.length_append,List.length_cons] at this ⊢
   omega
theorem less_states {p q:Prg} {m:UInt8} {fd:Fnd} {n:Int} {g:By→By} (hq:rightErr q=0) (h:statesR p m n=some fd) (he:statesE p m n=0) (hg:∀ z,Got q m z→∃ s,Got p m s∧g s=z) :
   statesE q m n=0∧∃ fd2,statesR q m n=some fd2∧fd2.list.length≤fd.list.length:=by
 obtain ⟨fd',h3,hI,_,hr,hk⟩:=states_some he
 rw [h] at h3
 cases h3
 have key:∀ L:List By,L.Nodup→(∀ z ∈ L,Got q m z)→L.length≤fd.list.length:=fun L hn hL=>by
   have:=len_sub (q:=fd.list.map g) hn (fun z hz=>by
     obtain ⟨s,⟨_,r,hs⟩,rfl⟩:=hg z (hL z hz)
     obtain ⟨j,hj,_⟩:=way_least hI r s hs
     exact List.mem_map.2 ⟨s,List.mem_of_getElem? hj,rfl⟩)
   rwa [List.length_map] at this
 have hC:statesC p m n:=by
   rcases Classical.em (statesC p m n) with hC | hC
   · exact hC
   · have:=(states_neg hC).2;rw [h] at this;cases this
 have hC2:statesC q m n:=⟨hC.1,hC.2.1,hC.2.2.1,hq⟩
 rcases states_pos hC2 with ⟨_,h2⟩ | ⟨h1,fd2,h2,h3⟩
 · exfalso
   have h3:reachR q m n.toNat=none:=by
     unfold statesR at h2
     rwa [if_pos hC2] at h2
   obtain ⟨L,a1,a2,a3⟩:=reach_many hq hk h3
   have:=key L a1 a3
   have:=hI.many
   omega
 · have hI2:=reach_ok hq hk (by have:=hC.2.1;omega) h3
   refine ⟨h1,fd2,h2,key _ hI2.nodup fun z hz=>⟨hI2.fine z hz,?_⟩⟩
   obtain ⟨j,hj⟩:=List.getElem?_of_mem hz
   exact ⟨_,way_run hI2 j z hj⟩
-- RtP
set_option maxRecDepth 100000
def ren (g:Nat→Nat) (x:Ins):Ins:={ x with loc:=if hasB x.op 2=true then UInt8.ofNat (g x.loc.toNat) else x.loc }
structure Ren (p q:Prg) (f f' g g':Nat→Nat):Prop where
 pv:rightErr p=0
 qv:rightErr q=0
 nt:q.threads.length=p.threads.length
 nl:q.locs.length=p.locs.length
 f1:∀ t,t < p.threads.length→f t < p.threads.length∧f' (f t)=t
 f2:∀ t,t < p.threads.length→f' t < p.threads.length∧f (f' t)=t
 g1:∀ t,t < p.locs.length→g t < p.locs.length∧g' (g t)=t
 g2:∀ t,t < p.locs.length→g' t < p.locs.length∧g (g' t)=t
 thr:∀ (t:Nat) (l:List Ins),p.threads[t]? = some l→q.threads[f t]? = some (l.map (ren g))
 ini:∀ i,i < p.locs.length→q.init.getD (g i) 0=p.init.getD i 0
theorem small_nat {n:Nat} (h:n < 6):(UInt8.ofNat n).toNat=n:=by rw [UInt8.toNat_ofNat'];omega
theorem ofNat_byte (i:UInt8):UInt8.ofNat i.toNat=i:=by simp
theorem far_has {x:Ins} (hop:x.op=1∨x.op=2∨x.op=3∨x.op=4∨x.op=5∨x.op=6∨x.op=7∨x.op=8) (h:isLocal x=false):hasB x.op 2=true:=by
 rcases hop with e | e | e | e | e | e | e | e
 · rw [e];decide
 · rw [e];decide
 · simp [isLocal,e] at h
 · rw [e];decide
 · rw [e];decide
 · rw [e];decide
 · simp [isLocal,e] at h
 · simp [isLocal,e] at h
section
variable {p q:Prg} {f f' g g':Nat→Nat}
theorem Ren.finj (R:Ren p q f f' g g') {t u:Nat} (ht:t < p.threads.length) (hu:u < p.threads.length) (h:f t=f u):t=u:=by rw [← (R.f1 t ht).2,h,(R.f1 u hu).2]
theorem Ren.ginj (R:Ren p q f f' g g') {t u:Nat} (ht:t < p.locs.length) (hu:u < p.locs.length) (h:g t=g u):t=u:=by rw [← (R.g1 t ht).2,h,(R.g1 u hu).2]
theorem Ren.nl6 (R:Ren p q f f' g g'):p.locs.length≤6:=(valid R.pv).locs6
theorem Ren.nt4 (R:Ren p q f f' g g'):p.threads.length≤4:=(valid R.pv).thr4
theorem Ren.gnat (R:Ren p q f f' g g') {k:Nat} (h:k < p.locs.length):(UInt8.ofNat (g k)).toNat=g k:=small_nat (by have:=(R.g1 k h).1;have:=R.nl6;omega)
theorem Ren.gnat' (R:Ren p q f f' g g') {k:Nat} (h:k < p.locs.length):(UInt8.ofNat (g' k)).toNat=g' k:=small_nat (by have:=(R.g2 k h).1;have:=R.nl6;omega)
theorem Ren.gb (R:Ren p q f f' g g') {k:UInt8} (h:k.toNat < p.locs.length):UInt8.ofNat (g' (UInt8.ofNat (g k.toNat)).toNat)=k:=by rw [R.gnat h,(R.g1 _ h).2,ofNat_byte]
theorem Ren.gb' (R:Ren p q f f' g g') {k:UInt8} (h:k.toNat < p.locs.length):UInt8.ofNat (g (UInt8.ofNat (g' k.toNat)).toNat)=k:=by rw [R.gnat' h,(R.g2 _ h).2,ofNat_byte]
theorem Ren.gbinj (R:Ren p q f f' g g') {k j:UInt8} (h:k.toNat < p.locs.length) (hj:j.toNat < p.locs.length):UInt8.ofNat (g k.toNat)=UInt8.ofNat (g j.toNat) ↔ k=j:=
 ⟨fun e=>by rw [← R.gb h,e,R.gb hj],fun e=>by rw [e]⟩
theorem Ren.symm (R:Ren p q f f' g g'):Ren q p f' f g' g where
 pv:=R.qv
 qv:=R.pv
 nt:=R.nt.symm
 nl:=R.nl.symm
 f1:=fun t ht=>by rw [R.nt] at ht ⊢;exact R.f2 t ht
 f2:=fun t ht=>by rw [R.nt] at ht ⊢;exact R.f1 t ht
 g1:=fun t ht=>by rw [R.nl] at ht ⊢;exact R.g2 t ht
 g2:=fun t ht=>by rw [R.nl] at ht ⊢;exact R.g1 t ht
 thr:=fun t l hl=>by
   have ht:t < p.threads.length:=by rw [← R.nt];exact (List.getElem?_eq_some_iff.1 hl).1
   obtain ⟨u,hu⟩:∃ u,p.threads[f' t]? = some u:=⟨_,List.getElem?_eq_getElem (R.f2 t ht).1⟩
   have h1:=R.thr _ _ hu
   rw [(R.f2 t ht).2,hl] at h1
   obtain rfl:=Option.some.inj h1
   rw [hu,List.map_map]
   refine congrArg some ((List.map_congr_left (g:=id) fun x hx=>?_).trans (List.map_id _)).symm
   obtain ⟨j,hj⟩:=List.mem_iff_getElem?.1 hx
   have hi:=inses_at ((valid R.pv).ins _ u hu) hj
   show ren g' (ren g x)=x
   unfold ren
   cases hb:hasB x.op 2 with
   | true=>
     have h3:=loc_in hi hb
     simp only [hb,if_true]
     rw [R.gb (by omega)]
   | false=>simp only [hb,Bool.false_eq_true,if_false]
 ini:=fun i hi=>by
   rw [R.nl] at hi;rw [← R.ini _ (R.g2 i hi).1,(R.g2 i hi).2]
end
def valsB (s:By) (t:Nat) (k:UInt8):List UInt8:=(perL (bufL s t) k).map Prod.snd
structure SimT (p q:Prg) (m:UInt8) (f g:Nat→Nat) (s z:By):Prop where
 fs:Fine p m s
 fz:Fine q m z
 thr:∀ t,t < p.threads.length→∀ k,k < 9→z (f t * 9+k)=s (t * 9+k)
 mem:∀ i,i < p.locs.length→z (36+g i)=s (36+i)
 per:∀ t,t < p.threads.length→∀ k:UInt8,k.toNat < p.locs.length→valsB z (f t) (UInt8.ofNat (g k.toNat))=valsB s t k
 buf:m ≠ 3→∀ t,t < p.threads.length→bufL z (f t)=(bufL s t).map fun x=>(UInt8.ofNat (g x.1.toNat),x.2)
theorem buf_locs {p:Prg} {m:UInt8} {s:By} {t:Nat} (h:RightM p m s) (ht:t < 4):∀ x ∈ bufL s t,x.1.toNat < p.locs.length:=fun x hx=>by
 obtain ⟨i,hi⟩:=List.mem_iff_getElem?.1 hx
 rw [buf_get] at hi
 split at hi
 · rename_i hl
   cases hi
   exact h.loc ht hl
 · cases hi
theorem perL_cons (x:UInt8 × UInt8) (r:List (UInt8 × UInt8)) (k:UInt8):perL (x :: r) k=(if x.1=k then [x] else [])++perL r k:=by
 rw [← perL_one,← perL_append];rfl
theorem per_vals {l:List (UInt8 × UInt8)} {k:UInt8}:perL l k=((perL l k).map Prod.snd).map fun v=>(k,v):=by
 rw [List.map_map]
 refine ((List.map_congr_left (g:=id) fun x hx=>?_).trans (List.map_id _)).symm
 have h:=(List.mem_filter.1 hx).2
 have h:x.1=k:=by simpa using h
 show (k,x.2)=x
 rw [← h]
section
variable {p q:Prg} {f f' g g':Nat→Nat} {m:UInt8} {s z:By}
theorem SimT.symm (R:Ren p q f f' g g') (h:SimT p q m f g s z):SimT q p m f' g' z s where
 fs:=h.fz
 fz:=h.fs
 thr:=fun t ht k hk=>by
   rw [R.nt] at ht
   have:=h.thr _ (R.f2 t ht).1 k hk
   rw [(R.f2 t ht).2] at this
   exact this.symm
 mem:=fun i hi=>by
   rw [R.nl] at hi
   have:=h.mem _ (R.g2 i hi).1
   rw [(R.g2 i hi).2] at this
   exact this.symm
 per:=fun t ht k hk=>by
   rw [R.nt] at ht;rw [R.nl] at hk
   have:=h.per _ (R.f2 t ht).1 (UInt8.ofNat (g' k.toNat)) (by rw [R.gnat' hk];exact (R.g2 _ hk).1)
   rw [(R.f2 t ht).2,R.gb' hk] at this
   exact this.symm
 buf:=fun hm t ht=>by
   rw [R.nt] at ht
   have hb:=h.buf hm _ (R.f2 t ht).1
   rw [(R.f2 t ht).2] at hb;rw [hb,List.map_map]
   refine ((List.map_congr_left (g:=id) fun x hx=>?_).trans (List.map_id _)).symm
   have:=buf_locs h.fs.r (by have:=(R.f2 t ht).1;have:=R.nt4;omega) x hx
   show (UInt8.ofNat (g' (UInt8.ofNat (g x.1.toNat)).toNat),x.2)=x
   rw [R.gb this]
theorem SimT.pc (h:SimT p q m f g s z) {t:Nat} (ht:t < p.threads.length):pcP z (f t)=pcP s t:=by
 have:=h.thr t ht 0 (by omega)
 rw [Nat.add_zero,Nat.add_zero] at this
 unfold pcP;rw [this]
theorem SimT.seen (R:Ren p q f f' g g') (h:SimT p q m f g s z) {t:Nat} (ht:t < p.threads.length) {k:UInt8} (hk:k.toNat < p.locs.length):seenP z (f t) (UInt8.ofNat (g k.toNat))=seenP s t k:=by
 have h4:=R.nt4
 have hft:=(R.f1 t ht).1
 rw [seen_per h.fz.r (by omega),seen_per h.fs.r (by omega),per_vals,per_vals (l:=bufL s t)]
 have e:((perL (bufL z (f t)) (UInt8.ofNat (g k.toNat))).map Prod.snd)=(perL (bufL s t) k).map Prod.snd:=h.per t ht k hk
 rw [e,R.gnat hk,h.mem _ hk]
 generalize (perL (bufL s t) k).map Prod.snd=q
 rw [List.getLast?_map,List.getLast?_map]
 cases q.getLast? <;> rfl
theorem SimT.empty (R:Ren p q f f' g g') (h:SimT p q m f g s z) {t:Nat} (ht:t < p.threads.length) (h0:manyB s t=0):manyB z (f t)=0:=by
 apply Decidable.byContradiction
 intro hne
 have h4:=R.nt4
 have hft:=(R.f1 t ht).1
 have hl:=h.fz.r.loc (t:=f t) (i:=0) (by omega) (by omega)
 rw [R.nl] at hl
 have hp:=h.per t ht (UInt8.ofNat (g' (bLoc z (f t) 0).toNat)) (by rw [R.gnat' hl];exact (R.g2 _ hl).1)
 rw [R.gb' hl] at hp
 have e0:bufL s t=[]:=List.eq_nil_of_length_eq_zero (by rw [buf_len];exact h0)
 have e1:valsB s t (UInt8.ofNat (g' (bLoc z (f t) 0).toNat))=[]:=by unfold valsB;rw [e0];rfl
 rw [e1] at hp
 have hm:(bLoc z (f t) 0,bVal z (f t) 0) ∈ perL (bufL z (f t)) (bLoc z (f t) 0):=List.mem_filter.2 ⟨List.mem_of_getElem? (i:=0) (by rw [buf_get,if_pos (by omega)]),by simp⟩
 have hm2:bVal z (f t) 0 ∈ valsB z (f t) (bLoc z (f t) 0):=List.mem_map.2 ⟨_,hm,rfl⟩
 rw [hp] at hm2
 cases hm2
theorem SimT.empty_iff (R:Ren p q f f' g g') (h:SimT p q m f g s z) {t:Nat} (ht:t < p.threads.length):manyB z (f t)=0 ↔ manyB s t=0:=by
 refine ⟨fun h0=>?_,h.empty R ht⟩
 have:=(h.symm R).empty R.symm (t:=f t) (by rw [R.nt];exact (R.f1 t ht).1) h0
 rwa [(R.f1 t ht).2] at this
theorem SimT.ready (R:Ren p q f f' g g') (h:SimT p q m f g s z) {t:Nat} (ht:t < p.threads.length) (x:Ins):readyI (ren g x) m z (f t)=readyI x m s t:=by
 have e:(z (138+f t) == 0)=(s (138+t) == 0):=by
   have h1:=h.empty_iff R ht
   have key:∀ b:UInt8,(b == 0)=decide (b.toNat=0):=fun b=>by
     rw [Bool.eq_iff_iff,beq_iff_eq,decide_eq_true_eq]
     exact ⟨fun e=>by rw [e];rfl,fun e=>UInt8.toNat_inj.1 e⟩
   rw [key,key]
   exact decide_eq_decide.2 h1
 show (if x.op=4∨x.op=5∨x.op=6 then z (138+f t) == 0 else if x.op=7 then !(x.mode == 3 || (m == 3 && x.mode == 5)) || z (138+f t) == 0 else true)=_
 rw [e]
 rfl
theorem ren_loc {x:Ins} (hop:x.op=1∨x.op=2∨x.op=3∨x.op=4∨x.op=5∨x.op=6∨x.op=7∨x.op=8) (h:isLocal x=false):(ren g x).loc=UInt8.ofNat (g x.loc.toNat):=by
 unfold ren
 simp only [far_has hop h,if_true]
theorem SimT.execOf (R:Ren p q f f' g g') (h:SimT p q m f g s z) {t:Nat} {l:List Ins} {x:Ins} (hE:ExecOf p m s t l x):ExecOf q m z (f t) (l.map (ren g)) (ren g x):=by
 have ht:t < p.threads.length:=(List.getElem?_eq_some_iff.1 hE.hl).1
 have hft:=(R.f1 t ht).1
 refine ⟨h.fz.r,R.thr t l hE.hl,?_,(h.ready R ht x).trans hE.ready,by have:=R.nt4;omega,hE.op,fun hL=>?_⟩
 · rw [h.pc ht,List.getElem?_map,hE.hx];rfl
 · have hL:isLocal x=false:=hL
   have hl:=hE.loc hL
   rw [ren_loc hE.op hL,R.gnat hl,R.nl]
   exact (R.g1 _ hl).1
theorem SimT.exec (R:Ren p q f f' g g') (h:SimT p q m f g s z) {t:Nat} {l:List Ins} {x:Ins} (hE:ExecOf p m s t l x) (h1:Fine p m (execP m x s t)) (h2:Fine q m (execP m (ren g x) z (f t))):SimT p q m f g (execP m x s t) (execP m (ren g x) z (f t)):=by
 have ht:t < p.threads.length:=(List.getElem?_eq_some_iff.1 hE.hl).1
 have hft:=(R.f1 t ht).1
 have h4:=R.nt4
 have h6:=R.nl6
 have hZ:=h.execOf R hE
 have hcut:∀ k,k < 9→cut z (f t * 9) k=cut s (t * 9) k:=fun k hk=>h.thr t ht k hk
 have hval:valA (ren g x) (cut z (f t * 9))=valA x (cut s (t * 9)):=(show valA (ren g x) (cut z (f t * 9))=valA x (cut z (f t * 9)) from rfl).trans (valA_congr hcut)
 have hloc:isLocal x=false→(ren g x).loc=UInt8.ofNat (g x.loc.toNat):=ren_loc hE.op
 have hnat:isLocal x=false→(ren g x).loc.toNat=g x.loc.toNat:=fun hL=>by rw [hloc hL,R.gnat (hE.loc hL)]
 refine ⟨h1,h2,fun u hu k hk=>?_,fun i hi=>?_,fun u hu k hk=>?_,fun hm u hu=>?_⟩
 · by_cases e:u=t
   · subst e
     rw [hZ.own hk,hE.own hk,execT_thr hZ.op,execT_thr hE.op]
     have e1:∀ v,thrP (ren g x) (cut z (f u * 9)) v k=thrP x (cut s (u * 9)) v k:=fun v=>(show thrP (ren g x) (cut z (f u * 9)) v k=thrP x (cut z (f u * 9)) v k from rfl).trans (thrP_congr hcut k hk)
     rw [e1]
     cases hL:isLocal x with
     | true=>rw [thrP_local hL]
     | false=>
       have hl:=hE.loc hL
       show thrP x _ (if x.op=1 then _ else _) k=_
       rw [hnat hL,hloc hL,h.seen R ht hl,h.mem _ hl]
   · have hfu:=(R.f1 u hu).1
     rw [hZ.other (by omega) (fun e2=>e (R.finj hu ht e2)) hk,hE.other (by omega) e hk]
     exact h.thr u hu k hk
 · have hg:=(R.g1 i hi).1
   rw [hZ.mem (by omega),hE.mem (by omega)]
   by_cases hw:writesM m x
   · have hL:=hE.notLocal (.inl hw)
     have hl:=hE.loc hL
     have hw':writesM m (ren g x):=hw
     by_cases e:i=x.loc.toNat
     · rw [if_pos ⟨hw',by rw [hnat hL,e]⟩,if_pos ⟨hw,e⟩,hnat hL,h.mem _ hl]
       exact (show hasP (ren g x) (cut z (f t * 9)) _=hasP x (cut z (f t * 9)) _ from rfl).trans (hasP_congr hcut)
     · rw [if_neg (fun hh=>e (R.ginj hi hl (hh.2.trans (hnat hL)))),if_neg (fun hh=>e hh.2)]
       exact h.mem i hi
   · have hw':¬ writesM m (ren g x):=hw
     rw [if_neg (fun hh=>hw' hh.1),if_neg (fun hh=>hw hh.1)]
     exact h.mem i hi
 · have hfu:=(R.f1 u hu).1
   by_cases hc:u ≠ t∨¬ buffers m x
   · have hc':f u ≠ f t∨¬ buffers m (ren g x):=hc.imp (fun e e2=>e (R.finj hu ht e2)) id
     unfold valsB
     rw [hZ.perKeep (by omega) hc',hE.perKeep (by omega) hc]
     exact h.per u hu k hk
   · have e:u=t:=Decidable.not_not.1 fun e=>hc (.inl e)
     have hb:buffers m x:=Decidable.not_not.1 fun e=>hc (.inr e)
     subst e
     have hL:=hE.notLocal (.inr hb)
     have hb':buffers m (ren g x):=hb
     have hpr:=h.per u hu k hk
     unfold valsB at hpr ⊢
     rw [hZ.perAdd hb',hE.perAdd hb,List.map_append,List.map_append,hpr,hval,hloc hL]
     by_cases e:x.loc=k
     · rw [if_pos e,if_pos (by rw [e])];rfl
     · rw [if_neg e,if_neg (fun e2=>e ((R.gbinj (hE.loc hL) hk).1 e2))]
 · have hfu:=(R.f1 u hu).1
   by_cases hc:u ≠ t∨¬ buffers m x
   · have hc':f u ≠ f t∨¬ buffers m (ren g x):=hc.imp (fun e e2=>e (R.finj hu ht e2)) id
     rw [hZ.bufKeep (by omega) hc',hE.bufKeep (by omega) hc]
     exact h.buf hm u hu
   · have e:u=t:=Decidable.not_not.1 fun e=>hc (.inl e)
     have hb:buffers m x:=Decidable.not_not.1 fun e=>hc (.inr e)
     subst e
     have hL:=hE.notLocal (.inr hb)
     have hb':buffers m (ren g x):=hb
     rw [hZ.bufAdd hb' hm,hE.bufAdd hb hm,h.buf hm u hu,List.map_append,hval,hloc hL]
     rfl
theorem SimT.drain (R:Ren p q f f' g g') (h:SimT p q m f g s z) {t a b:Nat} (hD:DrainOf p m s t a) (hD0:DrainOf q m z (f t) b) (ht:t < p.threads.length) (hk:bLoc z (f t) b=UInt8.ofNat (g (bLoc s t a).toNat)) (h1:Fine p m (drainR s t a)) (h2:Fine q m (drainR z (f t) b)):SimT p q m f g (drainR s t a) (drainR z (f t) b):=by
 have hft:=(R.f1 t ht).1
 have h4:=R.nt4
 have h6:=R.nl6
 have hl:=hD.loc
 have hp1:=hD.perHere
 have hp2:=hD0.perHere
 have hpr:=h.per t ht (bLoc s t a) hl
 rw [hk] at hp2
 unfold valsB at hpr
 rw [hp1,hp2,List.map_cons,List.map_cons] at hpr
 obtain ⟨hv,hrest⟩:=List.cons.inj hpr
 have hv:bVal z (f t) b=bVal s t a:=hv
 refine ⟨h1,h2,fun u hu k hk2=>?_,fun i hi=>?_,fun u hu k hk2=>?_,fun hm u hu=>?_⟩
 · have hfu:=(R.f1 u hu).1
   rw [hD0.low (by omega),hD.low (by omega)]
   exact h.thr u hu k hk2
 · have hg:=(R.g1 i hi).1
   rw [drain_mem hD0.lt (by omega),drain_mem hD.lt (by omega),hk,R.gnat hl,hv,h.mem i hi]
   by_cases e:i=(bLoc s t a).toNat
   · rw [if_pos e,if_pos (by rw [e])]
   · rw [if_neg e,if_neg (fun e2=>e (R.ginj hi hl e2))]
 · have hfu:=(R.f1 u hu).1
   by_cases e:u=t
   · subst e
     by_cases e2:bLoc s u a=k
     · subst e2
       exact hrest
     · unfold valsB
       rw [hD.perElse e2,hD0.perElse (by rw [hk];exact fun e3=>e2 ((R.gbinj hl hk2).1 e3))]
       exact h.per u hu k hk2
   · unfold valsB
     rw [hD.bufKeep (by omega) e,hD0.bufKeep (by omega) (fun e2=>e (R.finj hu ht e2))]
     exact h.per u hu k hk2
 · have hfu:=(R.f1 u hu).1
   by_cases e:u=t
   · subst e
     have ha:a=0:=by
       rcases Nat.eq_zero_or_pos a with e | e
       · exact e
       · exact absurd (hD.fst 0 e).1 hm
     have hb:b=0:=by
       rcases Nat.eq_zero_or_pos b with e | e
       · exact e
       · exact absurd (hD0.fst 0 e).1 hm
     subst ha hb
     rw [hD.bufOwn,hD0.bufOwn,h.buf hm u hu]
     simp only [List.take_zero,List.nil_append,List.map_drop]
   · rw [hD.bufKeep (by omega) e,hD0.bufKeep (by omega) (fun e2=>e (R.finj hu ht e2))]
     exact h.buf hm u hu
theorem SimT.step (R:Ren p q f f' g g') (h:SimT p q m f g s z) {x:Pss} (hx:x ∈ movesM p m s):∃ y,y ∈ movesM q m z∧SimT p q m f g (stepM p m s x) (stepM q m z y):=by
 have hfn:=h.fs.step hx
 have hw:=went h.fs.r hx
 have h4:=R.nt4
 generalize stepM p m s x=s' at hw hfn ⊢
 cases hw with
 | @exec t l i hE hn=>
   have ht:t < p.threads.length:=(List.getElem?_eq_some_iff.1 hE.hl).1
   have hft:=(R.f1 t ht).1
   have hto:=ofNat_to (show f t < 4 by omega)
   have hZ:=h.execOf R hE
   have hn2:nextI q z (f t)=some (ren g i):=nextI_at hZ.hl hZ.hx
   have hen:enabledM q m z (f t)=true:=by unfold enabledM;rw [hn2];exact hZ.ready
   have e2:stepM q m z ⟨UInt8.ofNat (f t),false,0⟩=execP m (ren g i) z (f t):=by
     unfold stepM
     rw [if_neg (by simp)]
     show (match nextI q z (UInt8.ofNat (f t)).toNat with | some i=>execP m i z (UInt8.ofNat (f t)).toNat | none=>z)=_
     rw [hto,hn2]
   have hmv:(⟨UInt8.ofNat (f t),false,0⟩:Pss) ∈ movesM q m z:=mem_exec hen _ (by rw [R.nt];exact hft)
   have hfz:=h.fz.step hmv
   rw [e2] at hfz
   refine ⟨_,hmv,?_⟩
   rw [e2]
   exact h.exec R hE hfn hfz
 | @drain t i hD hi he=>
   generalize drainI m s t (drainAt m s t i).l=a at hD he hfn
   have ht4:=hD.t4
   have ht:t < p.threads.length:=by
     obtain ⟨_,l,hl,_⟩:=(h.fs.r.many ht4).2 (by omega)
     exact (List.getElem?_eq_some_iff.1 hl).1
   have hft:=(R.f1 t ht).1
   have hto:=ofNat_to (show f t < 4 by omega)
   have hl:=hD.loc
   obtain ⟨j,hj1,hj2⟩:∃ j,j < manyB z (f t)∧bLoc z (f t) j=UInt8.ofNat (g (bLoc s t a).toNat):=by
     have hpr:=h.per t ht (bLoc s t a) hl
     have hm1:bVal s t a ∈ valsB s t (bLoc s t a):=by unfold valsB;rw [hD.perHere];simp
     rw [← hpr] at hm1
     obtain ⟨y,hy,_⟩:=List.mem_map.1 hm1
     obtain ⟨hy1,hy2⟩:=List.mem_filter.1 hy
     obtain ⟨j,hj⟩:=List.mem_iff_getElem?.1 hy1
     rw [buf_get] at hj
     split at hj
     · rename_i hlt
       refine ⟨j,hlt,?_⟩
       have:y.1=UInt8.ofNat (g (bLoc s t a).toNat):=by simpa using hy2
       rw [← this,← Option.some.inj hj]
     · cases hj
   obtain ⟨hD0,hq0⟩:=drainOf h.fz.r (show f t < 4 by omega) hj1
   have e3:stepM q m z (drainAt m z (f t) j)=drainR z (f t) (drainI m z (f t) (drainAt m z (f t) j).l):=by
     unfold stepM
     rw [if_pos (show (drainAt m z (f t) j).d=true from rfl)]
     show drainP m z (UInt8.ofNat (f t)).toNat _=_
     rw [hto]
     rfl
   generalize drainI m z (f t) (drainAt m z (f t) j).l=b at hD0 hq0 e3
   have hkb:bLoc z (f t) b=UInt8.ofNat (g (bLoc s t a).toNat):=by
     by_cases hm:m=3
     · rw [hq0 hm,hj2]
     · have hb:b=0:=by
         rcases Nat.eq_zero_or_pos b with e | e
         · exact e
         · exact absurd (hD0.fst 0 e).1 hm
       have ha:a=0:=by
         rcases Nat.eq_zero_or_pos a with e | e
         · exact e
         · exact absurd (hD.fst 0 e).1 hm
       rw [hb,ha]
       have e1:(bufL z (f t))[0]? = some (bLoc z (f t) 0,bVal z (f t) 0):=by rw [buf_get,if_pos (by omega)]
       rw [h.buf hm t ht,List.getElem?_map,buf_get,if_pos (by omega)] at e1
       exact (congrArg Prod.fst (Option.some.inj e1)).symm
   have hmv:drainAt m z (f t) j ∈ movesM q m z:=by
     have e4:drainAt m z (f t) j=drainAt m z (f t) b:=by
       show (⟨UInt8.ofNat (f t),true,if m=3 then bLoc z (f t) j else 0⟩:Pss)=⟨UInt8.ofNat (f t),true,if m=3 then bLoc z (f t) b else 0⟩
       rw [hj2,hkb]
     rw [e4]
     refine mem_drainT ?_ hD0.lt _ (by rw [R.nt];exact hft)
     rcases Nat.eq_zero_or_pos b with e0 | e0
     · exact .inl e0
     · exact .inr ⟨(hD0.fst (b - 1) (by omega)).1,fun e1=>(hD0.fst (b - 1) (by omega)).2 e1.symm⟩
   have hfz:=h.fz.step hmv
   rw [e3] at hfz
   refine ⟨_,hmv,?_⟩
   rw [e3]
   exact h.drain R hD hD0 ht hkb hfn hfz
end
-- RtQ
set_option maxRecDepth 100000
theorem sorted_eq:∀ {l q:List (UInt8 × UInt8)},(l.Pairwise fun a b=>a.1.toNat≤b.1.toNat)→(q.Pairwise fun a b=>a.1.toNat≤b.1.toNat)→(∀ k,perL l k=perL q k)→l=q
 | [],[],_,_,_=>rfl
 | [],b :: q,_,_,h=>by
   have:=h b.1
   rw [perL_cons,if_pos rfl] at this
   cases this
 | a :: r,[],_,_,h=>by
   have:=h a.1
   rw [perL_cons,if_pos rfl] at this
   cases this
 | a :: r,b :: q,hl,hq,h=>by
   obtain ⟨hl1,hl2⟩:=List.pairwise_cons.1 hl
   obtain ⟨hq1,hq2⟩:=List.pairwise_cons.1 hq
   have low:∀ {c:UInt8} {s:List (UInt8 × UInt8)},(∀ x ∈ s,c.toNat < x.1.toNat)→perL s c=[]:=fun {c s} hs=>perL_none fun i x hx e=>by
     have:=hs x (List.mem_of_getElem? hx)
     rw [e] at this;omega
   have hab:a.1=b.1:=by
     rcases Nat.lt_trichotomy a.1.toNat b.1.toNat with e | e | e
     · have h1:=h a.1
       rw [low (s:=b :: q) (fun x hx=>by
         rcases List.mem_cons.1 hx with hx | hx
         · rw [hx];exact e
         · have:=hq1 x hx;omega),perL_cons,if_pos rfl] at h1
       cases h1
     · exact UInt8.toNat_inj.1 e
     · have h1:=h b.1
       rw [low (s:=a :: r) (fun x hx=>by
         rcases List.mem_cons.1 hx with hx | hx
         · rw [hx];exact e
         · have:=hl1 x hx;omega),perL_cons,if_pos rfl] at h1
       cases h1
   have h1:=h a.1
   rw [perL_cons,perL_cons,if_pos rfl,if_pos hab.symm] at h1
   have h2:a=b:=(List.cons.inj h1).1
   subst h2
   rw [sorted_eq hl2 hq2 fun k=>by
     have h3:=h k
     rw [perL_cons,perL_cons] at h3
     exact List.append_cancel_left h3]
theorem bufs_sorted {p:Prg} {m:UInt8} {s:By} {t:Nat} (h:RightM p m s) (hm:m=3) (ht:t < 4):(bufL s t).Pairwise fun a b=>a.1.toNat≤b.1.toNat:=by
 have hn:=(h.many ht).1
 have key:∀ j,j < manyB s t→∀ i,i≤j→(bLoc s t i).toNat≤(bLoc s t j).toNat:=by
   intro j
   induction j with
   | zero=>intro _ i hi;rw [show i=0 by omega];exact Nat.le_refl _
   | succ j ih=>
     intro hj i hi
     rcases Nat.lt_or_ge i (j+1) with e | e
     · have h1:=ih (by omega) i (by omega)
       have h2:=((slot_iff.1 (h.slot ht (i:=j+1) (by omega))).2 hj).2 hm (by omega)
       rw [Nat.add_sub_cancel] at h2
       omega
     · rw [show i=j+1 by omega];exact Nat.le_refl _
 rw [List.pairwise_iff_getElem]
 intro i j hi hj hij
 have e:∀ k (hk:k < (bufL s t).length),(bufL s t)[k]=(bLoc s t k,bVal s t k):=fun k hk=>by
   have h1:=buf_get s t k
   rw [List.getElem?_eq_getElem hk,if_pos (by rw [buf_len] at hk;exact hk)] at h1
   exact Option.some.inj h1
 rw [e i hi,e j hj]
 exact key j (by rw [buf_len] at hj;exact hj) i (by omega)
theorem by_bufs {p:Prg} {m:UInt8} {s z:By} (hs:Fine p m s) (hz:Fine p m z) (h:∀ t,t < 4→bufL s t=bufL z t) (i:Nat) (hi:42≤i):s i=z i:=by
 rcases Nat.lt_or_ge i 142 with h1 | h1
 · rcases Nat.lt_or_ge i 138 with h2 | h2
   · have ht:(i - 42) / 24 < 4:=by omega
     generalize ht':(i - 42) / 24=t at ht
     have hj:(i - 42) % 24 / 2 < 12:=by omega
     generalize hj':(i - 42) % 24 / 2=j at hj
     have hb:=h t ht
     have hm:manyB s t=manyB z t:=by rw [← buf_len,← buf_len,hb]
     have key:bLoc s t j=bLoc z t j∧bVal s t j=bVal z t j:=by
       rcases Nat.lt_or_ge j (manyB s t) with e | e
       · have h3:=congrArg (fun l=>l[j]?) hb
         simp only [buf_get] at h3
         rw [if_pos e,if_pos (by omega)] at h3
         have h3:=Option.some.inj h3
         exact ⟨congrArg Prod.fst h3,congrArg Prod.snd h3⟩
       · have h3:=(slot_iff.1 (hs.r.slot ht hj)).1 e
         have h4:=(slot_iff.1 (hz.r.slot ht hj)).1 (by omega)
         rw [h3.1,h3.2,h4.1,h4.2]
         exact ⟨rfl,rfl⟩
     unfold bLoc bVal at key
     rcases Nat.mod_two_eq_zero_or_one (i - 42) with e | e
     · rw [show i=42+t * 24+j * 2 by omega];exact key.1
     · rw [show i=42+t * 24+j * 2+1 by omega];exact key.2
   · have hb:=congrArg List.length (h (i - 138) (by omega))
     rw [buf_len,buf_len] at hb
     unfold manyB at hb
     rw [show 138+(i - 138)=i by omega] at hb
     exact UInt8.toNat_inj.1 hb
 · rw [hs.t i h1,hz.t i h1]
theorem thread_zero {p:Prg} {m:UInt8} {s:By} (h:RightM p m s) {t k:Nat} (hn:p.threads.length≤t) (ht:t < 4) (hk:k < 9):s (t * 9+k)=0:=by
 have h1:=h.thread ht
 rw [threadSt_none hn,same_iff] at h1
 exact h1 k hk
theorem mem_zero {p:Prg} {m:UInt8} {s:By} (h:RightM p m s) {k:Nat} (hn:p.locs.length≤k) (hk:k < 6):s (36+k)=0:=by
 have h1:=h.mem hk
 rw [memSt_out hn] at h1
 simpa using h1
section
variable {p q:Prg} {f f' g g':Nat→Nat} {m:UInt8} {s z z2:By}
theorem SimT.inj (R:Ren p q f f' g g') (h:SimT p q m f g s z) (h2:SimT p q m f g s z2):z=z2:=by
 have h4:=R.nt4
 have h6:=R.nl6
 funext i
 rcases Nat.lt_or_ge i 42 with hi | hi
 · rcases Nat.lt_or_ge i 36 with hi2 | hi2
   · have e:i=i / 9 * 9+i % 9:=by omega
     have hk:i % 9 < 9:=by omega
     have ht:i / 9 < 4:=by omega
     generalize i / 9=t at e ht
     generalize i % 9=k at e hk
     subst e
     rcases Nat.lt_or_ge t p.threads.length with hn | hn
     · have e1:=h.thr _ (R.f2 t hn).1 k hk
       have e2:=h2.thr _ (R.f2 t hn).1 k hk
       rw [(R.f2 t hn).2] at e1 e2;rw [e1,e2]
     · rw [thread_zero h.fz.r (by rw [R.nt];exact hn) ht hk,thread_zero h2.fz.r (by rw [R.nt];exact hn) ht hk]
   · obtain ⟨k,rfl⟩:∃ k,i=36+k:=⟨i - 36,by omega⟩
     rcases Nat.lt_or_ge k p.locs.length with hn | hn
     · have e1:=h.mem _ (R.g2 k hn).1
       have e2:=h2.mem _ (R.g2 k hn).1
       rw [(R.g2 k hn).2] at e1 e2;rw [e1,e2]
     · rw [mem_zero h.fz.r (by rw [R.nl];exact hn) (by omega),mem_zero h2.fz.r (by rw [R.nl];exact hn) (by omega)]
 · refine by_bufs h.fz h2.fz (fun t ht=>?_) i hi
   rcases Nat.lt_or_ge t p.threads.length with hn | hn
   · have hf:=R.f2 t hn
     by_cases hm:m=3
     · refine sorted_eq (bufs_sorted h.fz.r hm ht) (bufs_sorted h2.fz.r hm ht) fun k=>?_
       rcases Nat.lt_or_ge k.toNat p.locs.length with hk | hk
       · have e1:=h.per _ hf.1 (UInt8.ofNat (g' k.toNat)) (by rw [R.gnat' hk];exact (R.g2 _ hk).1)
         have e2:=h2.per _ hf.1 (UInt8.ofNat (g' k.toNat)) (by rw [R.gnat' hk];exact (R.g2 _ hk).1)
         rw [hf.2,R.gb' hk] at e1 e2;rw [per_vals,per_vals (l:=bufL z2 t)]
         unfold valsB at e1 e2
         rw [e1,e2]
       · have key:∀ {w:By},Fine q m w→perL (bufL w t) k=[]:=fun {w} hw=>perL_none fun i x hx e=>by
           have:=buf_locs hw.r ht x (List.mem_of_getElem? hx)
           rw [e,R.nl] at this;omega
         rw [key h.fz,key h2.fz]
     · have e1:=h.buf hm _ hf.1
       have e2:=h2.buf hm _ hf.1
       rw [hf.2] at e1 e2;rw [e1,e2]
   · have key:∀ {w:By},Fine q m w→bufL w t=[]:=fun {w} hw=>List.eq_nil_of_length_eq_zero (by
       rw [buf_len]
       apply Decidable.byContradiction
       intro hne
       obtain ⟨_,l,hl,_⟩:=(hw.r.many ht).2 hne
       have:=(List.getElem?_eq_some_iff.1 hl).1
       rw [R.nt] at this;omega)
     rw [key h.fz,key h2.fz]
theorem simT_start (R:Ren p q f f' g g') (hm:knownM m=true):SimT p q m f g (startP p) (startP q):=by
 have h4:=R.nt4
 have h6:=R.nl6
 have e1:∀ t,t < 4→bufL (startP p) t=[]:=fun t ht=>List.eq_nil_of_length_eq_zero (by rw [buf_len];exact (start_rightM R.pv hm).2 t ht)
 have e2:∀ t,t < 4→bufL (startP q) t=[]:=fun t ht=>List.eq_nil_of_length_eq_zero (by rw [buf_len];exact (start_rightM R.qv hm).2 t ht)
 refine ⟨fine_start R.pv hm,fine_start R.qv hm,fun t ht k hk=>?_,fun i hi=>?_,fun t ht k hk=>?_,fun _ t ht=>?_⟩
 · have:=(R.f1 t ht).1
   rw [start_at R.pv,start_at R.qv,if_neg (by omega),if_neg (by omega)]
 · have:=(R.g1 i hi).1
   rw [start_at R.pv,start_at R.qv,R.nl,if_pos (by omega),if_pos (by omega),Nat.add_sub_cancel_left,Nat.add_sub_cancel_left]
   exact R.ini i hi
 · have:=(R.f1 t ht).1
   unfold valsB
   rw [e1 t (by omega),e2 _ (by omega)]
   rfl
 · have:=(R.f1 t ht).1
   rw [e1 t (by omega),e2 _ (by omega)]
   rfl
theorem SimT.run (R:Ren p q f f' g g'):∀ {r:List Pss} {s z y:By},SimT p q m f g s z→RunM p m s r y→∃ r2 y2,RunM q m z r2 y2∧SimT p q m f g y y2
 | [],s,z,y,h,hr=>by
   have hr:y=s:=hr
   subst hr
   exact ⟨[],z,rfl,h⟩
 | x :: r,s,z,y,h,hr=>by
   obtain ⟨x2,hx2,h2⟩:=h.step R hr.1
   obtain ⟨r2,y2,h3,h4⟩:=SimT.run R h2 hr.2
   exact ⟨x2 :: r2,y2,⟨hx2,h3⟩,h4⟩
theorem got_turn (R:Ren p q f f' g g') (hm:knownM m=true) (h:Got p m s):∃ z,Got q m z∧SimT p q m f g s z:=by
 obtain ⟨_,r,hr⟩:=h
 obtain ⟨r2,z,h1,h2⟩:=(simT_start R hm).run R hr
 exact ⟨z,⟨h2.fz,r2,h1⟩,h2⟩
theorem SimT.over (R:Ren p q f f' g g') (h:SimT p q m f g s z) (h0:movesM p m s=[]):movesM q m z=[]:=List.eq_nil_iff_forall_not_mem.2 fun y hy=>by
 obtain ⟨x,hx,_⟩:=(h.symm R).step R.symm hy
 rw [h0] at hx
 cases hx
open Classical in
noncomputable def standT (p q:Prg) (m:UInt8) (f g:Nat→Nat) (s:By):By:=if h:∃ z,SimT p q m f g s z then h.choose else zb
theorem stand_eq (R:Ren p q f f' g g') (h:SimT p q m f g s z):standT p q m f g s=z:=by
 have h1:∃ z,SimT p q m f g s z:=⟨z,h⟩
 unfold standT
 rw [dif_pos h1]
 exact h1.choose_spec.inj R h
theorem ends_less (R:Ren p q f f' g g') {fd fd2:Fnd} {a b:Nat} (hI:FndI p m a fd.list.length fd) (hI2:FndI q m b fd2.list.length fd2):fd2.ends.length≤fd.ends.length:=by
 have hm:knownM m=true:=(hI.fine _ (List.mem_of_getElem? hI.head)).r.known
 have hat:∀ k ∈ fd2.ends,∃ z,fd2.list[k]? = some z∧movesM q m z=[]:=fun k hk=>(ends_iff hI2).1 hk
 have h1:((fd2.ends.map fun k=>fd2.list.getD k zb)).Nodup:=by
   refine List.pairwise_map.2 ((ends_sorted hI2).imp_of_mem fun {i j} hi hj hij e=>?_)
   obtain ⟨y,hy,_⟩:=hat i hi
   obtain ⟨z,hz,_⟩:=hat j hj
   rw [List.getD_eq_getElem?_getD,List.getD_eq_getElem?_getD,hy,hz] at e
   have e:y=z:=e
   subst e
   have h2:=List.pairwise_iff_getElem.1 hI2.nodup i j (List.getElem?_eq_some_iff.1 hy).1 (List.getElem?_eq_some_iff.1 hz).1 hij
   exact h2 ((List.getElem?_eq_some_iff.1 hy).2.trans (List.getElem?_eq_some_iff.1 hz).2.symm)
 have h2:=len_sub (q:=(fd.ends.map fun k=>fd.list.getD k zb).map (standT p q m f g)) h1 (fun z hz=>by
   obtain ⟨k,hk,rfl⟩:=List.mem_map.1 hz
   obtain ⟨z,hz,he⟩:=hat k hk
   rw [List.getD_eq_getElem?_getD,hz]
   obtain ⟨s,hs,hS⟩:=got_turn R.symm hm ⟨hI2.fine z (List.mem_of_getElem? hz),_,way_run hI2 k z hz⟩
   have hS2:=hS.symm R.symm
   obtain ⟨_,r,hr⟩:=hs
   obtain ⟨j,hj,hjs,_⟩:=end_found hI hr (hS.over R.symm he)
   refine List.mem_map.2 ⟨s,List.mem_map.2 ⟨j,hj,by rw [List.getD_eq_getElem?_getD,hjs];rfl⟩,?_⟩
   exact stand_eq R hS2)
 rwa [List.length_map,List.length_map,List.length_map] at h2
theorem turn_states (R:Ren p q f f' g g') {n:Int} {fd:Fnd} (h:statesR p m n=some fd) (he:statesE p m n=0):statesE q m n=0∧∃ fd2,statesR q m n=some fd2∧fd2.list.length=fd.list.length∧fd2.ends.length=fd.ends.length:=by
 obtain ⟨fd0,h0,hI,_,_,hk⟩:=states_some he
 rw [h] at h0
 cases h0
 obtain ⟨h1,fd2,h2,h3⟩:=less_states R.qv h he (g:=standT p q m f g) (fun z hz=>by
   obtain ⟨s,hs,hS⟩:=got_turn R.symm hk hz
   exact ⟨s,hs,stand_eq R (hS.symm R.symm)⟩)
 obtain ⟨_,fd3,h5,h6⟩:=less_states R.pv h2 h1 (g:=standT q p m f' g') (fun s hs=>by
   obtain ⟨z,hz,hS⟩:=got_turn R hk hs
   exact ⟨z,hz,stand_eq R.symm (hS.symm R)⟩)
 rw [h] at h5
 cases h5
 obtain ⟨fd4,h7,hI2,_⟩:=states_some h1
 rw [h2] at h7
 cases h7
 exact ⟨h1,fd2,h2,by omega,Nat.le_antisymm (ends_less R hI hI2) (ends_less R.symm hI2 hI)⟩
end
def finG (n k:Nat) (f g:Nat→Nat) (F:By):By:=fun i=>if i < 32 then (if i / 8 < n then F (f (i / 8) * 8+i % 8) else F i) else if i - 32 < k then F (32+g (i - 32)) else F i
def finL (n k:Nat) (f g:Nat→Nat) (x:List UInt8):List UInt8:=toL 38 (finG n k f g (ofL x))
theorem ofL_toL {F:By} {i:Nat} (hi:i < 38):ofL (toL 38 F) i=F i:=by
 unfold ofL
 rw [List.getD_eq_getElem?_getD,toL_at hi];rfl
theorem finL_toL {n k:Nat} {f g:Nat→Nat} (hf:∀ t,t < n→f t < 4) (hg:∀ t,t < k→g t < 6) (F:By):finL n k f g (toL 38 F)=toL 38 (finG n k f g F):=by
 unfold finL
 rw [toL_eq,same_iff]
 intro i hi
 unfold finG
 split
 · split
   · rename_i h
     have:=hf _ h
     exact ofL_toL (by omega)
   · exact ofL_toL hi
 · split
   · rename_i h
     have:=hg _ h
     exact ofL_toL (by omega)
   · exact ofL_toL hi
section
variable {p q:Prg} {f f' g g':Nat→Nat} {m:UInt8} {s z:By}
theorem SimT.final (R:Ren p q f f' g g') (h:SimT p q m f g s z) (i:Nat) (hi:i < 38):finalP z i=finG p.threads.length p.locs.length f' g' (finalP s) i:=by
 have h4:=R.nt4
 have h6:=R.nl6
 unfold finG finalP
 by_cases h1:i < 32
 · rw [if_pos h1,if_pos h1]
   have hk:i % 8 < 8:=by omega
   have ht:i / 8 < 4:=by omega
   by_cases h2:i / 8 < p.threads.length
   · have h3:=R.f2 _ h2
     have h5:=h.thr _ h3.1 (1+i % 8) (by omega)
     rw [h3.2] at h5;rw [if_pos h2,if_pos (by omega),show (f' (i / 8) * 8+i % 8) / 8=f' (i / 8) by omega,show (f' (i / 8) * 8+i % 8) % 8=i % 8 by omega,Nat.add_assoc,Nat.add_assoc]
     exact h5
   · rw [if_neg h2,if_pos h1,Nat.add_assoc,thread_zero h.fz.r (by rw [R.nt];omega) ht (by omega),thread_zero h.fs.r (by omega) ht (by omega)]
 · rw [if_neg h1,if_neg h1]
   by_cases h2:i - 32 < p.locs.length
   · have h3:=R.g2 _ h2
     have h5:=h.mem _ h3.1
     rw [h3.2] at h5;rw [if_pos h2,if_neg (by omega),Nat.add_sub_cancel_left]
     exact h5
   · rw [if_neg h2,if_neg h1,mem_zero h.fz.r (by rw [R.nl];omega) (by omega),mem_zero h.fs.r (by omega) (by omega)]
theorem out_turn (R:Ren p q f f' g g') (hm:knownM m=true) {x:List UInt8} (h:OutM p m x):∃ y,OutM q m y∧y=finL p.threads.length p.locs.length f' g' x∧x=finL p.threads.length p.locs.length f g y:=by
 have h4:=R.nt4
 have h6:=R.nl6
 obtain ⟨r,s,hr,he,rfl⟩:=h
 obtain ⟨r2,z,h1,h2⟩:=(simT_start R hm).run R hr
 refine ⟨_,⟨r2,z,h1,h2.over R he,rfl⟩,?_,?_⟩
 · rw [finL_toL (fun t ht=>by have:=(R.f2 t ht).1;omega) (fun t ht=>by have:=(R.g2 t ht).1;omega),toL_eq,same_iff]
   exact fun i hi=>h2.final R i hi
 · rw [finL_toL (fun t ht=>by have:=(R.f1 t ht).1;omega) (fun t ht=>by have:=(R.g1 t ht).1;omega),toL_eq,same_iff]
   intro i hi
   have h5:=(h2.symm R).final R.symm i hi
   rw [R.nt,R.nl] at h5
   exact h5
theorem out_len (R:Ren p q f f' g g') (hm:knownM m=true) {n:Int} {l l2:List By} (hf:FinOut p m n l) (hf2:FinOut q m n l2) (h:statesE p m n=0) (h2:statesE q m n=0):l.length≤l2.length:=by
 have h3:=(hf.2 h).2.2
 have h4:=(hf2.2 h2).2.2
 have:=len_sub (q:=(tl l2).map (finL p.threads.length p.locs.length f g)) (rising_nodup h3.1) (fun x hx=>by
   obtain ⟨y,h5,_,h6⟩:=out_turn R hm ((h3.2 x).1 hx)
   exact List.mem_map.2 ⟨y,(h4.2 y).2 h5,h6.symm⟩)
 rwa [List.length_map,tl_len,tl_len] at this
end
section
variable {p:Prg} {T L:List Int} {h:Nat}
theorem ren_turn (hv:rightErr p=0) (hT:IsPerm p.threads.length T) (hL:IsPerm p.locs.length L):Ren p (turnPr h p T L) (posZ T) (idxZ T) (posZ L) (idxZ L) where
 pv:=hv
 qv:=right_turn hv hT hL
 nt:=thr_lenT
 nl:=locs_len
 f1:=fun t ht=>⟨(pos_at hT ht).1,idx_pos hT ht⟩
 f2:=fun t ht=>⟨(idx_at hT ht).2,pos_idx hT ht⟩
 g1:=fun t ht=>⟨(pos_at hL ht).1,idx_pos hL ht⟩
 g2:=fun t ht=>⟨(idx_at hL ht).2,pos_idx hL ht⟩
 thr:=fun t l hl=>by
   have ht:t < p.threads.length:=(List.getElem?_eq_some_iff.1 hl).1
   rw [thr_atT hT (pos_at hT ht).1,idx_pos hT ht,hl]
   rfl
 ini:=fun i hi=>by
   rw [List.getD_eq_getElem?_getD,List.getD_eq_getElem?_getD,init_at (valid hv).init hL (pos_at hL hi).1,idx_pos hL hi]
theorem turn_same {m:UInt8} (hv:rightErr p=0) (hm:knownM m=true) (hT:IsPerm p.threads.length T) (hL:IsPerm p.locs.length L) (he:statesE p m 600=0):statesE (turnPr h p T L) m 600=0∧(fo (statesR (turnPr h p T L) m 600)).list.length=(fo (statesR p m 600)).list.length∧(fo (statesR (turnPr h p T L) m 600)).ends.length=(fo (statesR p m 600)).ends.length:=by
 obtain ⟨fd,hfd,_⟩:=states_some he
 obtain ⟨h1,fd2,h2,h3,h4⟩:=turn_states (ren_turn (h:=h) hv hT hL) hfd he
 rw [hfd,h2]
 exact ⟨h1,h3,h4⟩
theorem turn_lens {m:UInt8} {l l2:List By} (hv:rightErr p=0) (hm:knownM m=true) (hT:IsPerm p.threads.length T) (hL:IsPerm p.locs.length L) (he:statesE p m 600=0) (he2:statesE (turnPr h p T L) m 600=0) (hf:FinOut p m 600 l) (hf2:FinOut (turnPr h p T L) m 600 l2):l2.length=l.length:=
 Nat.le_antisymm (out_len (ren_turn hv hT hL).symm hm hf2 hf he2 he) (out_len (ren_turn hv hT hL) hm hf hf2 he he2)
theorem turn_in {m:UInt8} {l l2:List By} (hv:rightErr p=0) (hm:knownM m=true) (hT:IsPerm p.threads.length T) (hL:IsPerm p.locs.length L) (he:statesE p m 600=0) (he2:statesE (turnPr h p T L) m 600=0) (hf:FinOut p m 600 l) (hf2:FinOut (turnPr h p T L) m 600 l2) {x:By} (hx:x ∈ l):toL 38 (finT x T L) ∈ tl l2:=by
 have V:=valid hv
 have h4:=V.thr4
 have h6:=V.locs6
 have h1:toL 38 x ∈ tl l:=List.mem_map.2 ⟨x,hx,rfl⟩
 obtain ⟨y,h2,h3,_⟩:=out_turn (ren_turn (h:=h) hv hT hL) hm (((hf.2 he).2.2.2 _).1 h1)
 rw [finL_toL (fun t ht=>by have:=(idx_at hT ht).2;omega) (fun t ht=>by have:=(idx_at hL ht).2;omega)] at h3
 have e:toL 38 (finT x T L)=y:=by
   rw [h3]
   show toL 38 (finG T.length L.length (idxZ T) (idxZ L) x)=_
   rw [hT.len,hL.len]
 rw [e]
 exact ((hf2.2 he2).2.2.2 y).2 h2
end
end Go.Proofs.YtbgnapmaimkpkaaGreatDoor
