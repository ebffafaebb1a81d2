/-
  Plain Lean: a move of a machine with store buffers leads from a valid state to a valid one, and there is less left to do: last part; runs. Conditions: none.
-/
import Derived.Test.YtbgnapmaimkpkaaGreatDoorJn3
set_option linter.unusedSimpArgs false
set_option linter.unusedVariables false
namespace Go.Proofs.YtbgnapmaimkpkaaGreatDoor
-- BfT
section
variable {p:Prg} {m:UInt8} {s:By} {t:Nat} {l:List Ins} {x:Ins}
theorem add_slots (h:ExecOf p m s t l x) (hb:buffers m x) (v:UInt8):∀ i,i < 12→slotOk p m (addP m s t (stP x.loc v)) t i=true:=by
 have hn:=h.room
 have ht:=h.t4
 have ha:=addAt_le (m:=m) (s:=s) (t:=t) (loc:=x.loc) (manyB s t)
 obtain ⟨a1,a2,a3⟩:=addAt_spec (m:=m) (s:=s) (t:=t) (loc:=x.loc) (manyB s t)
 have hll:=h.loc (h.notLocal (.inr hb))
 have hs:∀ i,i < 12→_:=fun i hi=>slot_iff.1 (h.r.slot ht hi)
 intro i hi
 rw [slot_iff]
 have hst:stP x.loc v 0=x.loc:=rfl
 unfold addP
 rw [hst]
 generalize hA:addAt m s t x.loc (manyB s t)=a at ha a1 a2 a3
 have hL:∀ j,j < 12→bLoc (addR s t a (stP x.loc v)) t j=if j=a then x.loc else if a < j∧j≤manyB s t then bLoc s t (j - 1) else bLoc s t j:=fun j hj=>add_loc ha hn ht hj
 rw [add_many ha hn]
 refine ⟨fun hmi=>?_,fun hil=>⟨?_,fun h3 h0=>?_⟩⟩
 · rw [hL i hi,add_val ha hn ht hi,if_neg (by omega),if_neg (by omega),if_neg (by omega),if_neg (by omega)]
   exact (hs i hi).1 (by omega)
 · rw [hL i hi]
   by_cases e:i=a
   · rw [if_pos e];exact hll
   · rw [if_neg e]
     by_cases e2:a < i∧i≤manyB s t
     · rw [if_pos e2];exact ((hs (i - 1) (by omega)).2 (by omega)).1
     · rw [if_neg e2];exact ((hs i hi).2 (by omega)).1
 · rw [hL i hi,hL (i - 1) (by omega)]
   by_cases e:i=a
   · rw [if_pos e,if_neg (by omega),if_neg (by omega),e]
     exact a2 h3 (by omega)
   · rw [if_neg e]
     by_cases e2:a < i∧i≤manyB s t
     · rw [if_pos e2]
       by_cases e3:i - 1=a
       · rw [if_pos e3]
         have:=a1 h3 (i - 1) (by omega) (by omega)
         omega
       · rw [if_neg e3,if_pos (by omega)]
         exact ((hs (i - 1) (by omega)).2 (by omega)).2 h3 (by omega)
     · rw [if_neg e2,if_neg (by omega),if_neg (by omega)]
       exact ((hs i hi).2 (by omega)).2 h3 h0
theorem ExecOf.right (h:ExecOf p m s t l x):RightM p m (execP m x s t):=by
 have ht:=h.t4
 have hpc:=h.pc
 refine ⟨h.r.known,bare_ok h.r.prog (fun u hu=>?_) (fun k hk=>?_),fun u hu=>?_⟩
 · by_cases hut:u=t
   · subst hut
     rw [threadSt_some h.hl]
     exact decide_eq_true hpc.2
   · exact threadSt_same (fun k hk=>h.other hu hut hk) (h.r.thread hu)
 · have h1:=h.r.mem hk
   unfold memSt at h1 ⊢
   by_cases hkl:k < p.locs.length
   · rw [decide_eq_true hkl,Bool.true_or]
   · rw [decide_eq_false hkl,Bool.false_or] at h1 ⊢
     rw [h.mem hk,if_neg]
     · exact h1
     · rintro ⟨hw,e⟩
       have:=h.loc (h.notLocal (.inl hw))
       omega
 · by_cases hut:u=t
   · subst hut
     by_cases hb:buffers m x
     · obtain ⟨h1,h2⟩:=h.adds hb u
       rw [fits_iff]
       have hmany:=add_many (st:=stP x.loc (valA x (cut s (u * 9)))) (addAt_le (m:=m) (s:=s) (t:=u) (loc:=x.loc) (manyB s u)) h.room
       have hmost:=h.r.most ht
       have hlt:=(List.getElem?_eq_some_iff.1 h.hl).1
       refine ⟨?_,fun i hi=>?_⟩
       · rw [h1]
         show manyB (addR s u (addAt m s u x.loc (manyB s u)) _) u≤_
         rw [hmany]
         unfold mostB at hmost ⊢
         rw [if_pos ⟨hb.2,hlt⟩] at hmost ⊢
         have:=hpc.1
         unfold pcP at this
         omega
       · have h3:=add_slots h hb (valA x (cut s (u * 9))) i hi
         rw [slot_iff] at h3 ⊢;rw [h1,(h2 i).1,(h2 i).2,(h2 (i - 1)).1]
         exact h3
     · obtain ⟨h1,h2⟩:=h.still hb u
       exact fits_same h1 (fun i _=>h2 i) (most_pc (Nat.le_of_lt hpc.1)) (h.r.fits u hu)
   · obtain ⟨h1,h2⟩:=h.far hu hut
     exact fits_same h1 h2 (most_pc (Nat.le_of_eq (h.pcOther hu hut).symm)) (h.r.fits u hu)
theorem ExecOf.many (h:ExecOf p m s t l x):manyB (execP m x s t) t≤manyB s t+1:=by
 by_cases hb:buffers m x
 · have hmany:=add_many (st:=stP x.loc (valA x (cut s (t * 9)))) (addAt_le (m:=m) (s:=s) (t:=t) (loc:=x.loc) (manyB s t)) h.room
   rw [(h.adds hb t).1]
   exact Nat.le_of_eq hmany
 · rw [(h.still hb t).1]
   omega
theorem ExecOf.nu (h:ExecOf p m s t l x):nu p (execP m x s t) < nu p s:=by
 have h1:=h.pc
 have h2:=h.lt
 have h3:=lenP_at h.hl
 have h4:=h.t4
 have h5:=h.many
 have q:∀ u,u < 4→u ≠ t→pcP (execP m x s t) u=pcP s u:=fun u hu hne=>h.pcOther hu hne
 have r:∀ u,u < 4→u ≠ t→manyB (execP m x s t) u=manyB s u:=fun u hu hne=>(h.far hu hne).1
 unfold Go.Proofs.YtbgnapmaimkpkaaGreatDoor.nu Go.Proofs.YtbgnapmaimkpkaaGreatDoor.mu
 rcases (by omega:t=0∨t=1∨t=2∨t=3) with rfl | rfl | rfl | rfl
 · rw [q 1 (by omega) (by omega),q 2 (by omega) (by omega),q 3 (by omega) (by omega),r 1 (by omega) (by omega),r 2 (by omega) (by omega),r 3 (by omega) (by omega)];omega
 · rw [q 0 (by omega) (by omega),q 2 (by omega) (by omega),q 3 (by omega) (by omega),r 0 (by omega) (by omega),r 2 (by omega) (by omega),r 3 (by omega) (by omega)];omega
 · rw [q 0 (by omega) (by omega),q 1 (by omega) (by omega),q 3 (by omega) (by omega),r 0 (by omega) (by omega),r 1 (by omega) (by omega),r 3 (by omega) (by omega)];omega
 · rw [q 0 (by omega) (by omega),q 1 (by omega) (by omega),q 2 (by omega) (by omega),r 0 (by omega) (by omega),r 1 (by omega) (by omega),r 2 (by omega) (by omega)];omega
end
structure DrainOf (p:Prg) (m:UInt8) (s:By) (t a:Nat):Prop where
 r:RightM p m s
 t4:t < 4
 lt:a < manyB s t
 fst:∀ i,i < a→m=3∧bLoc s t i ≠ bLoc s t a
theorem drainI_spec {m:UInt8} {s:By} {t:Nat} {loc:UInt8}:∀ (f i:Nat),(m=3→∃ j,i≤j∧j < i+f∧bLoc s t j=loc)→(m ≠ 3→0 < f)→i≤drainN m s t loc f i∧drainN m s t loc f i < i+f∧(m=3→bLoc s t (drainN m s t loc f i)=loc)∧(∀ j,i≤j→j < drainN m s t loc f i→m=3∧bLoc s t j ≠ loc)
 | 0,i,h1,h2=>by
   by_cases hm:m=3
   · obtain ⟨j,_,_,_⟩:=h1 hm
     omega
   · exact absurd (h2 hm) (by omega)
 | f+1,i,h1,h2=>by
   rw [drainN]
   split
   · rename_i hc
     obtain ⟨q1,q2,q3,q4⟩:=drainI_spec (m:=m) (s:=s) (t:=t) (loc:=loc) f (i+1) (fun hm=>by
       obtain ⟨j,j1,j2,j3⟩:=h1 hm
       rcases Nat.eq_or_lt_of_le j1 with e | e
       · subst e;exact absurd j3 hc.2
       · exact ⟨j,e,by omega,j3⟩) (fun hm=>absurd hc.1 hm)
     refine ⟨by omega,by omega,q3,fun j hj1 hj2=>?_⟩
     rcases Nat.eq_or_lt_of_le hj1 with e | e
     · subst e;exact hc
     · exact q4 j e hj2
   · rename_i hc
     exact ⟨Nat.le_refl _,by omega,fun hm=>Decidable.not_not.1 fun hn=>hc ⟨hm,hn⟩,fun j hj1 hj2=>absurd hj1 (by omega)⟩
theorem drainOf {p:Prg} {m:UInt8} {s:By} {t i:Nat} (hr:RightM p m s) (ht:t < 4) (hi:i < manyB s t):DrainOf p m s t (drainI m s t (drainAt m s t i).l)∧(m=3→bLoc s t (drainI m s t (drainAt m s t i).l)=bLoc s t i):=by
 have hl:m=3→(drainAt m s t i).l=bLoc s t i:=fun h=>if_pos h
 obtain ⟨h1,h2,h3,h4⟩:=drainI_spec (m:=m) (s:=s) (t:=t) (loc:=(drainAt m s t i).l) (manyB s t) 0 (fun h=>⟨i,by omega,by omega,(hl h).symm⟩) (fun _=>by omega)
 refine ⟨⟨hr,ht,by unfold drainI;omega,fun j hj=>?_⟩,fun h=>(h3 h).trans (hl h)⟩
 obtain ⟨h5,h6⟩:=h4 j (by omega) hj
 exact ⟨h5,fun e=>h6 (e.trans (h3 h5))⟩
section
variable {p:Prg} {m:UInt8} {s:By} {t a:Nat}
theorem DrainOf.n12 (h:DrainOf p m s t a):manyB s t≤12:=(h.r.many h.t4).1
theorem DrainOf.loc (h:DrainOf p m s t a):(bLoc s t a).toNat < p.locs.length:=h.r.loc h.t4 h.lt
theorem DrainOf.loc6 (h:DrainOf p m s t a):(bLoc s t a).toNat < 6:=by have:=h.loc;have:=(valid h.r.prog).locs6;omega
theorem DrainOf.low (h:DrainOf p m s t a) {i:Nat} (hi:i < 36):drainR s t a i=s i:=drain_low h.lt hi
theorem DrainOf.pc (h:DrainOf p m s t a) {u:Nat} (hu:u < 4):pcP (drainR s t a) u=pcP s u:=by unfold pcP;rw [h.low (by omega)]
theorem DrainOf.right (h:DrainOf p m s t a):RightM p m (drainR s t a):=by
 have ht:=h.t4
 have hn:=h.n12
 have hlt:=h.lt
 have hl6:=h.loc6
 refine ⟨h.r.known,bare_ok h.r.prog (fun u hu=>threadSt_same (fun k hk=>h.low (by omega)) (h.r.thread hu)) (fun k hk=>?_),fun u hu=>?_⟩
 · have h1:=h.r.mem hk
   unfold memSt at h1 ⊢
   by_cases hkl:k < p.locs.length
   · rw [decide_eq_true hkl,Bool.true_or]
   · rw [decide_eq_false hkl,Bool.false_or] at h1 ⊢
     rw [drain_mem hlt hk,if_neg (by have:=h.loc;omega)]
     exact h1
 · by_cases hut:u=t
   · subst hut
     rw [fits_iff]
     have hs:∀ i,i < 12→_:=fun i hi=>slot_iff.1 (h.r.slot ht hi)
     have hL:∀ j,j < 12→_:=fun j hj=>drain_loc hlt hl6 hn ht hj
     refine ⟨?_,fun i hi=>?_⟩
     · rw [drain_many hlt hl6]
       have h1:=h.r.most ht
       have h2:=most_pc (p:=p) (m:=m) (Nat.le_of_eq (h.pc hu).symm)
       omega
     · rw [slot_iff,drain_many hlt hl6]
       refine ⟨fun hmi=>?_,fun hil=>⟨?_,fun h3 h0=>?_⟩⟩
       · rw [hL i hi,drain_val hlt hl6 hn ht hi]
         by_cases e:i+1=manyB s u
         · rw [if_pos e,if_pos e];exact ⟨rfl,rfl⟩
         · rw [if_neg e,if_neg e,if_neg (by omega),if_neg (by omega)]
           exact (hs i hi).1 (by omega)
       · rw [hL i hi,if_neg (by omega)]
         by_cases e2:a≤i∧i+1 < manyB s u
         · rw [if_pos e2];exact ((hs (i+1) (by omega)).2 (by omega)).1
         · rw [if_neg e2];exact ((hs i hi).2 (by omega)).1
       · have e1:¬ i+1=manyB s u:=by omega
         have e1':¬ i - 1+1=manyB s u:=by omega
         rw [hL i hi,hL (i - 1) (by omega),if_neg e1,if_neg e1']
         by_cases e2:a≤i∧i+1 < manyB s u
         · rw [if_pos e2]
           have k1:=((hs (i+1) (by omega)).2 (by omega)).2 h3 (by omega)
           rw [show i+1 - 1=i by omega] at k1
           by_cases e3:a≤i - 1∧i - 1+1 < manyB s u
           · rw [if_pos e3,show i - 1+1=i by omega];exact k1
           · rw [if_neg e3]
             have k2:=((hs i hi).2 (by omega)).2 h3 h0
             omega
         · rw [if_neg e2,if_neg (by omega)]
           exact ((hs i hi).2 (by omega)).2 h3 h0
   · obtain ⟨h1,h2⟩:=drain_far hlt hl6 hn ht hu hut
     exact fits_same h1 h2 (most_pc (Nat.le_of_eq (h.pc hu).symm)) (h.r.fits u hu)
theorem DrainOf.nu (h:DrainOf p m s t a):nu p (drainR s t a) < nu p s:=by
 have ht:=h.t4
 have hlt:=h.lt
 have hm:=drain_many hlt h.loc6
 have q:∀ u,u < 4→pcP (drainR s t a) u=pcP s u:=fun u hu=>h.pc hu
 have r:∀ u,u < 4→u ≠ t→manyB (drainR s t a) u=manyB s u:=fun u hu hne=>(drain_far hlt h.loc6 h.n12 ht hu hne).1
 unfold Go.Proofs.YtbgnapmaimkpkaaGreatDoor.nu Go.Proofs.YtbgnapmaimkpkaaGreatDoor.mu
 rw [q 0 (by omega),q 1 (by omega),q 2 (by omega),q 3 (by omega)]
 rcases (by omega:t=0∨t=1∨t=2∨t=3) with rfl | rfl | rfl | rfl
 · rw [r 1 (by omega) (by omega),r 2 (by omega) (by omega),r 3 (by omega) (by omega)];omega
 · rw [r 0 (by omega) (by omega),r 2 (by omega) (by omega),r 3 (by omega) (by omega)];omega
 · rw [r 0 (by omega) (by omega),r 1 (by omega) (by omega),r 3 (by omega) (by omega)];omega
 · rw [r 0 (by omega) (by omega),r 1 (by omega) (by omega),r 2 (by omega) (by omega)];omega
end
inductive Went (p:Prg) (m:UInt8) (s:By):Pss→By→Prop
 | exec {t:Nat} {l:List Ins} {x:Ins}:ExecOf p m s t l x→nextI p s t=some x→Went p m s ⟨UInt8.ofNat t,false,0⟩ (execP m x s t)
 | drain {t i:Nat}:DrainOf p m s t (drainI m s t (drainAt m s t i).l)→i < manyB s t→(m=3→bLoc s t (drainI m s t (drainAt m s t i).l)=bLoc s t i)→Went p m s (drainAt m s t i) (drainR s t (drainI m s t (drainAt m s t i).l))
theorem went {p:Prg} {m:UInt8} {s:By} {x:Pss} (hr:RightM p m s) (hx:x ∈ movesM p m s):Went p m s x (stepM p m s x):=by
 have hV4:=(valid hr.prog).thr4
 obtain ⟨t,htl,hmv⟩:=mem_movesN hx
 have ht4:t < 4:=by omega
 have hto:=ofNat_to ht4
 rcases hmv with ⟨rfl,hen⟩ | ⟨i,hi,rfl⟩
 · obtain ⟨l,ix,hE,hn⟩:=execOf hr htl hen
   have e:stepM p m s ⟨UInt8.ofNat t,false,0⟩=execP m ix s t:=by
     unfold stepM
     rw [if_neg (by simp)]
     show (match nextI p s (UInt8.ofNat t).toNat with | some i=>execP m i s (UInt8.ofNat t).toNat | none=>s)=_
     rw [hto,hn]
   rw [e]
   exact .exec hE hn
 · obtain ⟨h1,h2⟩:=drainOf hr ht4 hi
   have e:stepM p m s (drainAt m s t i)=drainR s t (drainI m s t (drainAt m s t i).l):=by
     unfold stepM
     rw [if_pos (show (drainAt m s t i).d=true from rfl)]
     show drainP m s (UInt8.ofNat t).toNat _=_
     rw [hto]
     rfl
   rw [e]
   exact .drain h1 hi h2
theorem Went.right {p:Prg} {m:UInt8} {s z:By} {x:Pss} (h:Went p m s x z):RightM p m z:=by
 cases h with
 | exec h _=>exact h.right
 | drain h _ _=>exact h.right
theorem Went.nu {p:Prg} {m:UInt8} {s z:By} {x:Pss} (h:Went p m s x z):nu p z < nu p s:=by
 cases h with
 | exec h _=>exact h.nu
 | drain h _ _=>exact h.nu
-- BfU
theorem seen_eq {p:Prg} {m:UInt8} {s:By} (h:RightM p m s) {t:Nat} (ht:t < 4) (loc:UInt8):seenP s t loc=seenN s t loc (manyB s t):=by
 have:=(h.many ht).1
 unfold seenP
 rw [Nat.min_eq_left this]
section
variable {p:Prg} {m:UInt8} {s:By} {t:Nat} {l:List Ins} {x:Ins}
end
theorem DrainOf.seen {p:Prg} {m:UInt8} {s:By} {t a:Nat} (h:DrainOf p m s t a) {loc:UInt8} (hl:loc.toNat < 6):seenP (drainR s t a) t loc=seenP s t loc:=by
 have hlt:=h.lt
 have hl6:=h.loc6
 have hn:=h.n12
 have ht:=h.t4
 rw [seen_eq h.right ht,seen_eq h.r ht,drain_many hlt hl6]
 have hB:∀ i,i < 12→_:=fun i hi=>And.intro (drain_loc hlt hl6 hn ht hi) (drain_val hlt hl6 hn ht hi)
 have hmem:drainR s t a (36+loc.toNat)=if bLoc s t a=loc then bVal s t a else s (36+loc.toNat):=by
   rw [drain_mem hlt hl]
   by_cases e:bLoc s t a=loc
   · rw [if_pos (by rw [e]),if_pos e]
   · rw [if_neg (fun e2=>e (UInt8.toNat_inj.1 e2.symm)),if_neg e]
 have low:∀ k,k≤a→seenN (drainR s t a) t loc k=if bLoc s t a=loc then bVal s t a else seenN s t loc k:=by
   intro k
   induction k with
   | zero=>intro _;exact hmem
   | succ k ih=>
     intro hk
     have e:=hB k (by omega)
     have f1:¬ k+1=manyB s t:=by omega
     have f2:¬ (a≤k∧k+1 < manyB s t):=by omega
     rw [seenN,e.1,e.2,if_neg f1,if_neg f1,if_neg f2,if_neg f2,ih (by omega),seenN]
     by_cases e1:bLoc s t a=loc
     · rw [if_pos e1,if_pos e1,if_neg (by rw [← e1];exact (h.fst k (by omega)).2)]
     · rw [if_neg e1,if_neg e1]
 have high:∀ k,a≤k→k+1≤manyB s t→seenN (drainR s t a) t loc k=seenN s t loc (k+1):=by
   intro k hk
   induction hk with
   | refl=>
     intro _
     rw [low a (Nat.le_refl _),seenN]
   | @step k hak ih=>
     intro hk1
     have hak:a≤k:=hak
     have hk1:k+1+1≤manyB s t:=hk1
     have e:=hB k (by omega)
     have e1:¬ k+1=manyB s t:=by omega
     have e2:a≤k∧k+1 < manyB s t:=⟨hak,by omega⟩
     show seenN (drainR s t a) t loc (k+1)=seenN s t loc (k+1+1)
     rw [seenN,e.1,e.2,if_neg e1,if_neg e1,if_pos e2,if_pos e2,ih (by omega)]
     exact (seenN.eq_2 s t loc (k+1)).symm
 have:=high (manyB s t - 1) (by omega) (by omega)
 rwa [show manyB s t - 1+1=manyB s t by omega] at this
-- BfG
open Go.Proofs.Tryz
open Go.RowKit
set_option maxRecDepth 100000
def moveSM (p:Prg) (m:UInt8) (s:By) (x:Pss):By:=if x ∈ movesR p m s then stepM p m s x else zb
def moveEM (p:Prg) (m:UInt8) (s:By) (x:Pss):Int:=if x ∈ movesR p m s then 0 else 2
theorem mem_movesR {p:Prg} {m:UInt8} {s:By} {x:Pss} (h:x ∈ movesR p m s):RightM p m s∧x ∈ movesM p m s:=by
 unfold movesR at h
 split at h
 · rename_i hr;exact ⟨rightM_iff.1 hr,h⟩
 · simp at h
theorem movesR_eq {p:Prg} {m:UInt8} {s:By} (h:RightM p m s):movesR p m s=movesM p m s:=by rw [movesR,rightM_iff.2 h];rfl
theorem moveM_any (cs:List Value) (p:Prg) (w0:World) (hP:ProgAt w0 cs p) (hN:NeedsAt w0) (mc:UInt8) (s:By) (x:Pss) :
   Calls Tryz.prog 28 #[.agg cs.toArray,Go.Proofs.YtbgnapmaimkpkaaGreatDoor.b8 mc,.agg (bs 142 s).toArray,.agg x.cells.toArray] w0 fun e w'=>e = .returned (.tuple #[.agg (bs 142 (moveSM p mc s x)).toArray,.int .i64 (moveEM p mc s x)])∧Below w0.heap.size w0 w':=by
 have H:=Own.start w0 none
 obtain ⟨d1,d2,d3,d4,d5,d6,d7,d8,d9,d10,rfl⟩:=hP.len10
 refine enterF func28 rfl ntmps28 rfl (fun a F=>?_);refine cSR fun K1 hK1=>?_;refine sBx H F rfl rfl rfl ?_;clear F a H;intro b4 a w F H;refine sBxB H F rfl rfl rfl ?_;clear F a H;intro b6 a w F H;refine sBx H F rfl rfl rfl ?_;clear F a H;intro b7 a w F H;refine sAlB H zB70 F rfl rfl ?_;clear F a H;intro b8 a w F H;refine sAs F rfl rfl rfl (qNK hK1 ?_);clear hK1;clear F a;intro a F;refine cSeq (fun K2 hK2=>?_);refine cSeq (fun K3 hK3=>?_);refine cRegRO (by kernel_rfl) H ?_;replace H:=H.drew
 refine eTake (k:=0) (i:=0) rfl (by kernel_rfl) F rfl rfl rfl rfl (fun w H=>rLr underlying29 rfl ?si F rfl (H.whole 3 rfl)) H (fun _ _ _ h=>h) ?_
 case si=>exact info_size sizeOf29
 clear F a;intro a F;refine eTF 1 rfl (by kernel_rfl) F rfl rfl rfl (fun w=>rMv F rfl) H qq0 (qT 2 rfl (by kernel_rfl) rfl rfl rfl rfl (fun a F w H=>rLrB underlying70 rfl sizeOf70 F rfl (H.whole 2 rfl)) H qq0 ?_);clear F a;intro a F
 refine eTake (k:=3) (i:=4) rfl (by kernel_rfl) F rfl rfl rfl rfl (fun w H=>rLr underlying86 rfl ?si F rfl (H.whole 1 rfl)) H (fun _ _ _ h=>h) ?_
 case si=>exact info_size sizeOf86
 clear F a;intro a F;refine eOne (k:=4) (i:=3) rfl (by kernel_rfl) F rfl (oCall call27 F rfl rfl (movesR_any _ p _ (hP.own H) (hN.own H) mc s) ?_);rintro e w ⟨A,c,rfl,H2⟩;replace H:=H.join H2;clear H2;refine ⟨_,rfl,?_⟩;clear F a;intro a F;refine eKeep H.tail ?_;refine eOne (k:=5) (i:=5) rfl (by kernel_rfl) F rfl (oCall call53 F rfl rfl (containsX_any A c (movesR p mc s) x _ (H.rowsAt 0 rfl (rowX _) (by decide)) (by have:=(H.rwsLen 0 rfl).2;simp only [maxLen] at this;omega)) ?_);rintro e w ⟨rfl,hb⟩;replace H:=H.grow hb;clear hb;refine ⟨_,rfl,?_⟩;clear F a;intro a F;refine ePartO (by kernel_rfl) H ?_;refine eTF 6 rfl (by kernel_rfl) F rfl rfl rfl (fun w=>rNot F rfl) H qq0 ?_;clear F a;intro a F;refine eNil (k:=7) (by kernel_rfl) ?_;refine hK3 _ _ ?_;clear hK3
 refine cIf F rfl (fun h16=>?_) (fun h16=>?_)
 ·
  replace h16:=notT h16
  have hin:¬ x ∈ movesR p mc s:=of_decide_eq_false h16
  refine cSR fun K4 hK4=>sBdB (places:=[(0,36),(36,6),(42,96),(138,4)]) zB70 underlying70 (by kernel_rfl) F rfl rfl rfl FillB.nil ?_;clear F a;intro a F;refine sSrB H 1 sizeOf70 F rfl rfl rfl rfl (by omega) ?_;clear H;intro w H;rw [lay_all] at H;refine sAs F rfl rfl rfl (qNK hK4 ?_);clear hK4;clear F a;intro a F;refine wp_ret ?_;simp only [Exit.then];refine bRetB1 results28 F rfl rfl underlying70 rfl sizeOf70 H 1 rfl ?_
  first
    | exact ⟨by rw [moveSM,if_pos hin,moveEM,if_pos hin],H.below⟩
    | exact ⟨by rw [moveSM,if_neg hin,moveEM,if_neg hin],H.below⟩
 replace h16:=notF h16
 have hin:x ∈ movesR p mc s:=of_decide_eq_true h16
 obtain ⟨hr,hxm⟩:=mem_movesR hin
 refine wp_skip (hK2 _ _ (cSR fun K5 hK5=>?_));clear hK2
 refine sLr underlying29 rfl ?si F rfl rfl rfl (H.whole 4 rfl) ?_
 case si=>exact info_size sizeOf29
 clear F a;intro a F;refine sMv F rfl rfl rfl (qLrB underlying70 rfl sizeOf70 rfl rfl rfl (H.whole 3 rfl) ?_);clear F a;intro a F
 refine sLr underlying86 rfl ?si F rfl rfl rfl (H.whole 2 rfl) ?_
 case si=>exact info_size sizeOf86
 clear F a;intro a F;refine sCall call54 F rfl rfl rfl (stepM_any _ p _ (hP.own H) (hN.own H) mc s x hr hxm) ?_;rintro e w ⟨rfl,hb⟩;replace H:=H.grow hb;clear hb;refine ⟨_,rfl,?_⟩;clear F a;intro a F;refine sSrB H 1 sizeOf70 F rfl rfl rfl rfl (by omega) ?_;clear H;intro w H;rw [lay_all] at H;refine sAs F rfl rfl rfl (qNK hK5 ?_);clear hK5;clear F a;intro a F;refine wp_ret ?_;refine bRetB1 results28 F rfl rfl underlying70 rfl sizeOf70 H 1 rfl ?_
 first
   | exact ⟨by rw [moveSM,if_pos hin,moveEM,if_pos hin],H.below⟩
   | exact ⟨by rw [moveSM,if_neg hin,moveEM,if_neg hin],H.below⟩
theorem start_rightM {p:Prg} {m:UInt8} (h:rightErr p=0) (hm:knownM m=true):RightM p m (startP p)∧∀ t,t < 4→manyB (startP p) t=0:=by
 have hz:∀ i,42≤i→startP p i=0:=fun i hi=>by rw [start_at h,if_neg (by have:=(valid h).locs6;omega)]
 have hm0:∀ t,t < 4→manyB (startP p) t=0:=fun t ht=>by unfold manyB;rw [hz _ (by omega)];rfl
 have hr:=start_right h
 unfold rightS stateOk at hr
 simp only [Bool.and_eq_true] at hr
 refine ⟨⟨hm,bare_ok h (allB_iff.1 hr.2.1.1) (allB_iff.1 hr.2.1.2),fun t ht=>?_⟩,hm0⟩
 rw [fits_iff,hm0 t ht]
 refine ⟨Nat.zero_le _,fun i hi=>?_⟩
 rw [slot_iff,hm0 t ht]
 exact ⟨fun _=>⟨hz _ (by omega),hz _ (by omega)⟩,fun hh=>absurd hh (by omega)⟩
def okM (p:Prg) (m:UInt8):Prop:=rightErr p=0∧knownM m=true
instance (p:Prg) (m:UInt8):Decidable (okM p m):=by unfold okM;infer_instance
theorem playM_end {p:Prg} {m:UInt8} {picks:List UInt8} {s:By} {run:List Pss} (h:movesM p m s=[]):∀ f,playM p m picks f s run=(s,run)
 | 0=>rfl
 | f+1=>by unfold playM;simp [h]
theorem playM_step {p:Prg} {m:UInt8} {picks:List UInt8} {s:By} {run:List Pss} {f:Nat} {k:Pss} (h:movesM p m s ≠ []) (hk:pickM picks run.length (movesM p m s)=k):playM p m picks (f+1) s run=playM p m picks f (stepM p m s k) (run++[k]):=by
 rw [playM];simp only [if_neg h,hk]
-- BfV
theorem mem_exec {p:Prg} {m:UInt8} {s:By} {t:Nat} (h:enabledM p m s t=true):∀ n,t < n→(⟨UInt8.ofNat t,false,0⟩:Pss) ∈ movesN p m s n
 | 0,h=>absurd h (by omega)
 | n+1,hn=>by
   rw [movesN]
   rcases Nat.lt_or_ge t n with h1 | h1
   · exact List.mem_append.2 (.inl (mem_exec h n h1))
   · obtain rfl:t=n:=by omega
     refine List.mem_append.2 (.inr ?_)
     unfold movesT
     rw [if_pos h]
     simp
-- BfW
def RunM (p:Prg) (m:UInt8):By→List Pss→By→Prop
 | s,[],z=>z=s
 | s,x :: r,z=>x ∈ movesM p m s∧RunM p m (stepM p m s x) r z
theorem pickM_mem {picks:List UInt8} {n:Nat} {l:List Pss} (h:l ≠ []):pickM picks n l ∈ l:=by
 have hpos:0 < l.length:=List.length_pos_iff.2 h
 have key:∀ q,q < l.length→l.getD q ⟨0,false,0⟩ ∈ l:=fun q hq=>by
   rw [List.getD_eq_getElem?_getD,List.getElem?_eq_getElem hq]
   exact List.getElem_mem hq
 unfold pickM
 refine key _ ?_
 split
 · exact Nat.mod_lt _ hpos
 · exact hpos
theorem runM_of_play {p:Prg} {m:UInt8} (picks:List UInt8):∀ (f:Nat) (s:By) (run0:List Pss),RightM p m s→nu p s≤f →
   ∃ r z,playM p m picks f s run0=(z,run0++r)∧RunM p m s r z∧movesM p m z=[]
 | 0,s,run0,hr,h=>by
   have he:movesM p m s=[]:=by
     cases hq:movesM p m s with
     | nil=>rfl
     | cons k r=>have:=(went hr (x:=k) (by rw [hq];simp)).nu;omega
   exact ⟨[],s,by rw [playM_end he];simp,rfl,he⟩
 | f+1,s,run0,hr,h=>by
   by_cases he:movesM p m s=[]
   · exact ⟨[],s,by rw [playM_end he];simp,rfl,he⟩
   · have hmem:=pickM_mem (picks:=picks) (n:=run0.length) he
     have hw:=went hr hmem
     have hnu:=hw.nu
     obtain ⟨r,z,h1,h2,h3⟩:=runM_of_play picks f (stepM p m s (pickM picks run0.length (movesM p m s))) (run0++[pickM picks run0.length (movesM p m s)]) hw.right (by omega)
     exact ⟨_ :: r,z,by rw [playM_step he rfl,h1];simp,⟨hmem,h2⟩,h3⟩
theorem RunM.nu {p:Prg} {m:UInt8} {z:By}:∀ {r:List Pss} {s:By},RightM p m s→RunM p m s r z→r.length+nu p z≤nu p s
 | [],s,_,h=>by
   have h:z=s:=h
   subst h;simp
 | x :: r,s,hr,h=>by
   have hw:=went hr h.1
   have:=RunM.nu hw.right h.2
   have:=hw.nu
   simp only [List.length_cons]
   omega
theorem RunM.right {p:Prg} {m:UInt8} {z:By}:∀ {r:List Pss} {s:By},RightM p m s→RunM p m s r z→RightM p m z
 | [],s,hr,h=>by
   have h:z=s:=h
   subst h;exact hr
 | x :: r,s,hr,h=>RunM.right (went hr h.1).right h.2
theorem RunM.nil {p:Prg} {m:UInt8} {s z:By} (h:RunM p m s [] z):z=s:=h
-- RnP
structure Fnd where
 list:List By
 links:List (Int × Pss)
 ends:List Nat
def isIn (l:List By) (z:By):Bool:=l.any fun y=>same 142 z y
def visitR (p:Prg) (m:UInt8) (most k:Nat) (s:By):List Pss→List By→List (Int × Pss)→Option (List By × List (Int × Pss))
 | [],l,q=>some (l,q)
 | x :: r,l,q=>if isIn l (stepM p m s x)=true then visitR p m most k s r l q
   else if most≤l.length then none else visitR p m most k s r (l++[stepM p m s x]) (q++[((k:Int),x)])
def searchR (p:Prg) (m:UInt8) (most:Nat):Nat→Nat→Fnd→Option Fnd
 | 0,_,a=>some a
 | f+1,k,a=>match a.list[k]? with
   | none=>some a
   | some s=>match visitR p m most k s (movesM p m s) a.list a.links with
     | none=>none
     | some (l,q)=>searchR p m most f (k+1) ⟨l,q,if movesM p m s=[] then a.ends++[k] else a.ends⟩
def firstR (p:Prg):Fnd:=⟨[startP p],[(-1,⟨0,false,0⟩)],[]⟩
def reachR (p:Prg) (m:UInt8) (most:Nat):Option Fnd:=searchR p m most (most+1) 0 (firstR p)
def Tidy (s:By):Prop:=∀ i,142≤i→s i=0
theorem tidy_eq {s z:By} (hs:Tidy s) (hz:Tidy z):same 142 s z=true ↔ s=z:=by
 rw [same_iff]
 constructor
 · intro h
   funext i
   rcases Nat.lt_or_ge i 142 with hi | hi
   · exact h i hi
   · rw [hs i hi,hz i hi]
 · rintro rfl
   exact fun _ _=>rfl
theorem isIn_iff {l:List By} {z:By} (hl:∀ y ∈ l,Tidy y) (hz:Tidy z):isIn l z=true ↔ z ∈ l:=by
 unfold isIn
 rw [List.any_eq_true]
 constructor
 · rintro ⟨y,hy,h⟩
   rw [(tidy_eq hz (hl y hy)).1 h];exact hy
 · exact fun h=>⟨z,h,(tidy_eq hz hz).2 rfl⟩
theorem start_tidy {p:Prg} (h:rightErr p=0):Tidy (startP p):=fun i hi=>by rw [start_at h,if_neg (by have:=(valid h).locs6;omega)]
theorem Went.tidy {p:Prg} {m:UInt8} {s z:By} {x:Pss} (h:Went p m s x z) (hs:Tidy s):Tidy z:=by
 cases h with
 | @exec t l i hE _=>
   intro k hk
   have ht:=hE.t4
   rw [hE.high (by omega)]
   split
   · show addR s t (addAt m s t i.loc (manyB s t)) _ k=0
     have hn:=hE.room
     have ha:=addAt_le (m:=m) (s:=s) (t:=t) (loc:=i.loc) (manyB s t)
     rw [addR_at s t _ _ ha,if_neg (by omega),if_neg (by omega),if_neg (by omega)]
     exact hs k hk
   · exact hs k hk
 | @drain t i hD hi he=>
   intro k hk
   generalize drainI m s t (drainAt m s t i).l=a at hD he
   have ht:=hD.t4
   have hl:=hD.loc6
   have hn:=hD.n12
   have hlt:=hD.lt
   rw [drainR_at s t a hlt,if_neg (by omega),if_neg (by omega),if_neg (by omega),if_neg (by omega)]
   exact hs k hk
structure Fine (p:Prg) (m:UInt8) (s:By):Prop where
 r:RightM p m s
 t:Tidy s
theorem Fine.step {p:Prg} {m:UInt8} {s:By} {x:Pss} (h:Fine p m s) (hx:x ∈ movesM p m s):Fine p m (stepM p m s x):=⟨(went h.r hx).right,(went h.r hx).tidy h.t⟩
theorem fine_start {p:Prg} {m:UInt8} (h:rightErr p=0) (hm:knownM m=true):Fine p m (startP p):=⟨(start_rightM h hm).1,start_tidy h⟩
structure FndI (p:Prg) (m:UInt8) (most k:Nat) (a:Fnd):Prop where
 fine:∀ s ∈ a.list,Fine p m s
 nodup:a.list.Nodup
 many:a.list.length≤most
 kle:k≤a.list.length
 len:a.links.length=a.list.length
 head:a.list[0]? = some (startP p)
 head2:a.links[0]? = some (-1,⟨0,false,0⟩)
 link:∀ (j:Nat) (f:Int) (x:Pss),0 < j→a.links[j]? = some (f,x)→∃ i:Nat,f=(i:Int)∧i < j∧i < k∧∃ s,a.list[i]? = some s∧x ∈ movesM p m s∧a.list[j]? = some (stepM p m s x)
 mono:∀ (i j:Nat) (f g:Int) (x y:Pss),i≤j→a.links[i]? = some (f,x)→a.links[j]? = some (g,y)→f≤g
 next:∀ (i:Nat) (s:By) (x:Pss),i < k→a.list[i]? = some s→x ∈ movesM p m s→∃ j:Nat,a.list[j]? = some (stepM p m s x)∧(0 < j→∃ (f:Int) (y:Pss),a.links[j]? = some (f,y)∧f≤(i:Int))
 ends:a.ends=(List.range k).filter fun i=>match a.list[i]? with | some s=>(movesM p m s).isEmpty | none=>false
theorem fnd_first {p:Prg} {m:UInt8} {most:Nat} (h:rightErr p=0) (hm:knownM m=true) (h1:1≤most):FndI p m most 0 (firstR p) where
 fine:=fun s hs=>by
   simp only [firstR,List.mem_singleton] at hs
   subst hs;exact fine_start h hm
 nodup:=by simp [firstR]
 many:=h1
 kle:=Nat.zero_le _
 len:=rfl
 head:=rfl
 head2:=rfl
 link:=fun j f x hj h=>by
   obtain ⟨j,rfl⟩:∃ i,j=i+1:=⟨j - 1,by omega⟩
   simp [firstR] at h
 mono:=fun i j f g x y hij hi hj=>by
   have h1:=(List.getElem?_eq_some_iff.1 hj).1
   simp only [firstR,List.length_singleton] at h1
   obtain rfl:j=0:=by omega
   obtain rfl:i=0:=by omega
   rw [hi] at hj;cases hj;exact Int.le_refl _
 next:=fun i s x hi=>absurd hi (by omega)
 ends:=rfl
structure VisI (p:Prg) (m:UInt8) (most k:Nat) (s:By) (l0:List By) (dn:List Pss) (l:List By) (q:List (Int × Pss)):Prop where
 fine:∀ s ∈ l,Fine p m s
 nodup:l.Nodup
 many:l.length≤most
 len:q.length=l.length
 old:∃ r,l=l0++r
 here:l[k]? = some s
 head:l[0]? = some (startP p)
 head2:q[0]? = some (-1,⟨0,false,0⟩)
 link:∀ (j:Nat) (f:Int) (x:Pss),0 < j→q[j]? = some (f,x)→∃ i:Nat,f=(i:Int)∧i < j∧i < k+1∧∃ s,l[i]? = some s∧x ∈ movesM p m s∧l[j]? = some (stepM p m s x)
 mono:∀ (i j:Nat) (f g:Int) (x y:Pss),i≤j→q[i]? = some (f,x)→q[j]? = some (g,y)→f≤g
 next:∀ (i:Nat) (s:By) (x:Pss),i < k→l[i]? = some s→x ∈ movesM p m s→∃ j:Nat,l[j]? = some (stepM p m s x)∧(0 < j→∃ (f:Int) (y:Pss),q[j]? = some (f,y)∧f≤(i:Int))
 now:∀ x ∈ dn,∃ j:Nat,l[j]? = some (stepM p m s x)∧(0 < j→∃ (f:Int) (y:Pss),q[j]? = some (f,y)∧f≤(k:Int))
theorem VisI.low {p:Prg} {m:UInt8} {most k:Nat} {s:By} {l0:List By} {dn:List Pss} {l:List By} {q:List (Int × Pss)} (h:VisI p m most k s l0 dn l q) {j:Nat} {f:Int} {x:Pss} (hj:q[j]? = some (f,x)):f≤(k:Int):=by
 rcases Nat.eq_zero_or_pos j with e | e
 · subst e
   rw [h.head2] at hj;cases hj;omega
 · obtain ⟨i,rfl,_,hi,_⟩:=h.link j f x e hj
   omega
theorem VisI.old_at {p:Prg} {m:UInt8} {most k:Nat} {s:By} {l0:List By} {dn:List Pss} {l:List By} {q:List (Int × Pss)} (h:VisI p m most k s l0 dn l q) {i:Nat} (hi:i < l0.length):l[i]? = l0[i]?:=by
 obtain ⟨r,rfl⟩:=h.old
 exact List.getElem?_append_left hi
theorem visit_ok {p:Prg} {m:UInt8} {most k:Nat} {s:By} {l0:List By}:∀ (r dn:List Pss) (l:List By) (q:List (Int × Pss)) (l':List By) (q':List (Int × Pss)),VisI p m most k s l0 dn l q→(∀ x ∈ r,x ∈ movesM p m s)→visitR p m most k s r l q=some (l',q')→VisI p m most k s l0 (dn++r) l' q'
 | [],dn,l,q,l',q',h,_,e=>by
   simp only [visitR,Option.some.injEq,Prod.mk.injEq] at e
   obtain ⟨rfl,rfl⟩:=e
   rw [List.append_nil];exact h
 | x :: r,dn,l,q,l',q',h,hr,e=>by
   have hx:=hr x (by simp)
   have hs:Fine p m s:=h.fine s (List.mem_of_getElem? h.here)
   have hz:=hs.step hx
   have hin:=isIn_iff (fun y hy=>(h.fine y hy).t) hz.t
   have key:VisI p m most k s l0 (dn++[x]) l' q'→VisI p m most k s l0 (dn++x :: r) l' q'→VisI p m most k s l0 (dn++x :: r) l' q':=fun _ h=>h
   rw [visitR] at e
   rw [show dn++x :: r=(dn++[x])++r by simp]
   by_cases hc:isIn l (stepM p m s x)=true
   · rw [if_pos hc] at e
     refine visit_ok r (dn++[x]) l q l' q' { h with now:=fun y hy=>?_ } (fun y hy=>hr y (by simp [hy])) e
     rcases List.mem_append.1 hy with h1 | h1
     · exact h.now y h1
     · obtain rfl:y=x:=by simpa using h1
       obtain ⟨j,hj⟩:=List.mem_iff_getElem?.1 (hin.1 hc)
       refine ⟨j,hj,fun hj0=>?_⟩
       obtain ⟨⟨f,z⟩,hf⟩:∃ f,q[j]? = some f:=⟨_,List.getElem?_eq_getElem (by rw [h.len];exact (List.getElem?_eq_some_iff.1 hj).1)⟩
       exact ⟨f,z,hf,h.low hf⟩
   · rw [if_neg hc] at e
     by_cases hm:most≤l.length
     · rw [if_pos hm] at e;cases e
     · rw [if_neg hm] at e
       have hkl:k < l.length:=(List.getElem?_eq_some_iff.1 h.here).1
       have hl:∀ i,i < l.length→(l++[stepM p m s x])[i]? = l[i]?:=fun i hi=>List.getElem?_append_left hi
       have hq:∀ i,i < l.length→(q++[((k:Int),x)])[i]? = q[i]?:=fun i hi=>List.getElem?_append_left (by rw [h.len];exact hi)
       have hqn:(q++[((k:Int),x)])[l.length]? = some ((k:Int),x):=by rw [← h.len,List.getElem?_append_right (Nat.le_refl _)];simp
       have hln:(l++[stepM p m s x])[l.length]? = some (stepM p m s x):=by rw [List.getElem?_append_right (Nat.le_refl _)];simp
       have up:∀ {z:By},(∃ j,l[j]? = some z∧(0 < j→∃ (f:Int) (y:Pss),q[j]? = some (f,y)∧f≤(k:Int)))→∃ j,(l++[stepM p m s x])[j]? = some z∧(0 < j→∃ (f:Int) (y:Pss),(q++[((k:Int),x)])[j]? = some (f,y)∧f≤(k:Int)):=by
         rintro z ⟨j,h1,h2⟩
         have hjl:=(List.getElem?_eq_some_iff.1 h1).1
         exact ⟨j,by rw [hl j hjl];exact h1,by rw [hq j hjl];exact h2⟩
       refine visit_ok r (dn++[x]) _ _ l' q' ?_ (fun y hy=>hr y (by simp [hy])) e
       refine ⟨fun y hy=>?_,?_,by simp;omega,by simp [h.len],?_,by rw [hl k hkl];exact h.here,by rw [hl 0 (by omega)];exact h.head,by rw [hq 0 (by omega)];exact h.head2,fun j f y hj0 hj=>?_,fun i j f g y z hij hi hj=>?_,fun i y z hi hy hz=>?_,fun y hy=>?_⟩
       · rcases List.mem_append.1 hy with h1 | h1
         · exact h.fine y h1
         · obtain rfl:y=stepM p m s x:=by simpa using h1
           exact hz
       · rw [List.nodup_append]
         refine ⟨h.nodup,by simp,fun a ha b hb=>?_⟩
         obtain rfl:b=stepM p m s x:=by simpa using hb
         rintro rfl
         exact hc (hin.2 ha)
       · obtain ⟨r0,rfl⟩:=h.old
         exact ⟨r0++[stepM p m s x],by simp⟩
       · rcases Nat.lt_or_ge j l.length with h1 | h1
         · rw [hq j h1] at hj
           obtain ⟨i,e1,e2,e3,z,e4,e5,e6⟩:=h.link j f y hj0 hj
           exact ⟨i,e1,e2,e3,z,by rw [hl i (by omega)];exact e4,e5,by rw [hl j h1];exact e6⟩
         · have h2:=(List.getElem?_eq_some_iff.1 hj).1
           simp only [List.length_append,List.length_singleton,h.len] at h2
           obtain rfl:j=l.length:=by omega
           rw [hqn] at hj
           cases hj
           exact ⟨k,rfl,by omega,by omega,s,by rw [hl k hkl];exact h.here,hx,hln⟩
       · rcases Nat.lt_or_ge j l.length with h1 | h1
         · rw [hq j h1] at hj
           rw [hq i (by omega)] at hi
           exact h.mono i j f g y z hij hi hj
         · have h2:=(List.getElem?_eq_some_iff.1 hj).1
           simp only [List.length_append,List.length_singleton,h.len] at h2
           obtain rfl:j=l.length:=by omega
           rw [hqn] at hj
           cases hj
           rcases Nat.lt_or_ge i l.length with h3 | h3
           · rw [hq i h3] at hi
             exact h.low hi
           · obtain rfl:i=l.length:=by omega
             rw [hqn] at hi;cases hi;exact Int.le_refl _
       · rw [hl i (by omega)] at hy
         obtain ⟨j,e1,e2⟩:=h.next i y z hi hy hz
         have hjl:=(List.getElem?_eq_some_iff.1 e1).1
         exact ⟨j,by rw [hl j hjl];exact e1,by rw [hq j hjl];exact e2⟩
       · rcases List.mem_append.1 hy with h1 | h1
         · exact up (h.now y h1)
         · obtain rfl:y=x:=by simpa using h1
           exact ⟨l.length,hln,fun _=>⟨k,y,hqn,Int.le_refl _⟩⟩
theorem vis_start {p:Prg} {m:UInt8} {most k:Nat} {a:Fnd} {s:By} (h:FndI p m most k a) (hs:a.list[k]? = some s):VisI p m most k s a.list [] a.list a.links:=
 ⟨h.fine,h.nodup,h.many,h.len,⟨[],by simp⟩,hs,h.head,h.head2,fun j f x h1 h2=>by
   obtain ⟨i,e1,e2,e3,e4⟩:=h.link j f x h1 h2
   exact ⟨i,e1,e2,by omega,e4⟩,h.mono,h.next,fun x hx=>by cases hx⟩
theorem vis_in {p:Prg} {m:UInt8} {most k:Nat} {s:By} {l0:List By} {dn:List Pss} {l:List By} {q:List (Int × Pss)} {x:Pss} (h:VisI p m most k s l0 dn l q) (hx:x ∈ movesM p m s) (hc:isIn l (stepM p m s x)=true):VisI p m most k s l0 (dn++[x]) l q:=
 visit_ok [x] dn l q l q h (fun y hy=>by simp at hy;subst hy;exact hx) (by rw [visitR,if_pos hc];rfl)
theorem vis_new {p:Prg} {m:UInt8} {most k:Nat} {s:By} {l0:List By} {dn:List Pss} {l:List By} {q:List (Int × Pss)} {x:Pss} (h:VisI p m most k s l0 dn l q) (hx:x ∈ movesM p m s) (hc:isIn l (stepM p m s x)=false) (hm:l.length < most):VisI p m most k s l0 (dn++[x]) (l++[stepM p m s x]) (q++[((k:Int),x)]):=
 visit_ok [x] dn l q _ _ h (fun y hy=>by simp at hy;subst hy;exact hx) (by rw [visitR,if_neg (by rw [hc];simp),if_neg (by omega)];rfl)
theorem search_step {p:Prg} {m:UInt8} {most k:Nat} {a:Fnd} {s:By} {l:List By} {q:List (Int × Pss)} (h:FndI p m most k a) (hs:a.list[k]? = some s) (e:visitR p m most k s (movesM p m s) a.list a.links=some (l,q)) :
   FndI p m most (k+1) ⟨l,q,if movesM p m s=[] then a.ends++[k] else a.ends⟩:=by
 have hkl:=(List.getElem?_eq_some_iff.1 hs).1
 have h0:=vis_start h hs
 have h1:=visit_ok _ _ _ _ _ _ h0 (fun x hx=>hx) e
 rw [List.nil_append] at h1
 have hlen:k+1≤l.length:=(List.getElem?_eq_some_iff.1 h1.here).1
 refine ⟨h1.fine,h1.nodup,h1.many,hlen,h1.len,h1.head,h1.head2,h1.link,h1.mono,fun i y x hi hy hx=>?_,?_⟩
 · rcases Nat.lt_or_ge i k with h2 | h2
   · exact h1.next i y x h2 hy hx
   · obtain rfl:i=k:=by omega
     have hy:l[i]? = some y:=hy
     rw [h1.here] at hy;cases hy
     exact h1.now x hx
 · show (if movesM p m s=[] then a.ends++[k] else a.ends)=(List.range (k+1)).filter fun i=>match l[i]? with | some s=>(movesM p m s).isEmpty | none=>false
   rw [List.range_succ,List.filter_append]
   have h2:((List.range k).filter fun i=>match l[i]? with | some s=>(movesM p m s).isEmpty | none=>false)=a.ends:=by
     rw [h.ends]
     apply List.filter_congr
     intro i hi
     rw [h1.old_at (by have:=List.mem_range.1 hi;omega)]
   rw [h2]
   have h3:(List.filter (fun i=>match l[i]? with | some s=>(movesM p m s).isEmpty | none=>false) [k])=if (movesM p m s).isEmpty=true then [k] else []:=by
     rw [List.filter_cons,h1.here]
     rfl
   rw [h3]
   by_cases hm:movesM p m s=[]
   · rw [if_pos hm,hm];rfl
   · rw [if_neg hm,if_neg (by simpa using hm),List.append_nil]
theorem search_ok {p:Prg} {m:UInt8} {most:Nat}:∀ (f k:Nat) (a b:Fnd),FndI p m most k a→most≤k+f→searchR p m most f k a=some b→FndI p m most b.list.length b
 | 0,k,a,b,h,hf,e=>by
   simp only [searchR,Option.some.injEq] at e
   subst e
   have:=h.kle
   have:=h.many
   obtain e:k=a.list.length:=by omega
   rw [← e];exact h
 | f+1,k,a,b,h,hf,e=>by
   rw [searchR] at e
   cases hk:a.list[k]? with
   | none=>
     rw [hk] at e
     simp only [Option.some.injEq] at e
     subst e
     have:=h.kle
     have:¬ k < a.list.length:=fun hh=>by rw [List.getElem?_eq_getElem hh] at hk;cases hk
     obtain e:k=a.list.length:=by omega
     rw [← e];exact h
   | some s=>
     rw [hk] at e
     cases hv:visitR p m most k s (movesM p m s) a.list a.links with
     | none=>simp only [hv] at e;cases e
     | some lq=>
       obtain ⟨l,q⟩:=lq
       simp only [hv] at e
       exact search_ok f (k+1) _ b (search_step h hk hv) (by omega) e
theorem reach_ok {p:Prg} {m:UInt8} {most:Nat} {b:Fnd} (h:rightErr p=0) (hm:knownM m=true) (h1:1≤most) (e:reachR p m most=some b):FndI p m most b.list.length b:=
 search_ok (most+1) 0 _ b (fnd_first h hm h1) (by omega) e
theorem search_go {p:Prg} {m:UInt8} {most f k:Nat} {a:Fnd} {s:By} {l:List By} {q:List (Int × Pss)} (hs:a.list[k]? = some s) (hv:visitR p m most k s (movesM p m s) a.list a.links=some (l,q)):searchR p m most (f+1) k a=searchR p m most f (k+1) ⟨l,q,if movesM p m s=[] then a.ends++[k] else a.ends⟩:=by
 rw [searchR,hs]
 simp only [hv]
theorem search_no {p:Prg} {m:UInt8} {most f k:Nat} {a:Fnd} {s:By} (hs:a.list[k]? = some s) (hv:visitR p m most k s (movesM p m s) a.list a.links=none):searchR p m most (f+1) k a=none:=by
 rw [searchR,hs]
 simp only [hv]
theorem search_end {p:Prg} {m:UInt8} {most k:Nat} {a:Fnd} (hs:a.list.length≤k):∀ f,searchR p m most f k a=some a
 | 0=>rfl
 | f+1=>by rw [searchR,List.getElem?_eq_none hs]
theorem visit_inR {p:Prg} {m:UInt8} {most k:Nat} {s:By} {x:Pss} {r:List Pss} {l:List By} {q:List (Int × Pss)} (hc:isIn l (stepM p m s x)=true):visitR p m most k s (x :: r) l q=visitR p m most k s r l q:=by rw [visitR,if_pos hc]
theorem visit_newR {p:Prg} {m:UInt8} {most k:Nat} {s:By} {x:Pss} {r:List Pss} {l:List By} {q:List (Int × Pss)} (hc:isIn l (stepM p m s x)=false) (hm:l.length < most):visitR p m most k s (x :: r) l q=visitR p m most k s r (l++[stepM p m s x]) (q++[((k:Int),x)]):=by rw [visitR,if_neg (by rw [hc];simp),if_neg (by omega)]
theorem visit_fullR {p:Prg} {m:UInt8} {most k:Nat} {s:By} {x:Pss} {r:List Pss} {l:List By} {q:List (Int × Pss)} (hc:isIn l (stepM p m s x)=false) (hm:most≤l.length):visitR p m most k s (x :: r) l q=none:=by rw [visitR,if_neg (by rw [hc];simp),if_pos hm]
-- RnQ
def backR (q:List (Int × Pss)):Nat→Nat→List Pss
 | 0,_=>[]
 | f+1,k=>if k=0 then [] else match q[k]? with
   | some (g,x)=>backR q f g.toNat++[x]
   | none=>[]
def wayR (a:Fnd) (k:Nat):List Pss:=backR a.links k k
theorem back_fuel {p:Prg} {m:UInt8} {most n:Nat} {a:Fnd} (h:FndI p m most n a):∀ (k f:Nat),k≤f→backR a.links f k=backR a.links k k:=by
 intro k
 induction k using Nat.strongRecOn with
 | ind k ih=>
   intro f hf
   rcases Nat.eq_zero_or_pos k with e | e
   · subst e
     cases f with
     | zero=>rfl
     | succ f=>rfl
   · obtain ⟨f,rfl⟩:∃ g,f=g+1:=⟨f - 1,by omega⟩
     obtain ⟨k',rfl⟩:∃ g,k=g+1:=⟨k - 1,by omega⟩
     rw [backR,backR,if_neg (by omega),if_neg (by omega)]
     cases hq:a.links[k'+1]? with
     | none=>rfl
     | some y=>
       obtain ⟨g,x⟩:=y
       obtain ⟨i,rfl,hi,_⟩:=h.link _ _ _ e hq
       show backR a.links f (i:Int).toNat++[x]=backR a.links k' (i:Int).toNat++[x]
       rw [Int.toNat_natCast,ih i hi f (by omega),ih i hi k' (by omega)]
theorem way_zero (a:Fnd):wayR a 0=[]:=rfl
theorem way_succ {p:Prg} {m:UInt8} {most n:Nat} {a:Fnd} (h:FndI p m most n a) {k i:Nat} {x:Pss} (hk:0 < k) (hq:a.links[k]? = some ((i:Int),x)):wayR a k=wayR a i++[x]:=by
 obtain ⟨j,e,hj,_⟩:=h.link k _ _ hk hq
 obtain rfl:i=j:=by omega
 obtain ⟨k',rfl⟩:∃ g,k=g+1:=⟨k - 1,by omega⟩
 unfold wayR
 rw [backR,if_neg (by omega),hq]
 show backR a.links k' (i:Int).toNat++[x]=_
 rw [Int.toNat_natCast,back_fuel h i k' (by omega)]
theorem RunM.snoc {p:Prg} {m:UInt8} {y:By} {x:Pss}:∀ {r:List Pss} {s:By},RunM p m s r y→x ∈ movesM p m y→RunM p m s (r++[x]) (stepM p m y x)
 | [],s,h,hx=>by
   have h:y=s:=h
   subst h
   exact ⟨hx,rfl⟩
 | z :: r,s,h,hx=>⟨h.1,RunM.snoc h.2 hx⟩
theorem RunM.unsnoc {p:Prg} {m:UInt8} {z:By} {x:Pss}:∀ {r:List Pss} {s:By},RunM p m s (r++[x]) z→∃ y,RunM p m s r y∧x ∈ movesM p m y∧z=stepM p m y x
 | [],s,h=>⟨s,rfl,h.1,h.2⟩
 | w :: r,s,h=>by
   obtain ⟨y,h1,h2,h3⟩:=RunM.unsnoc (r:=r) h.2
   exact ⟨y,⟨h.1,h1⟩,h2,h3⟩
theorem way_run {p:Prg} {m:UInt8} {most n:Nat} {a:Fnd} (h:FndI p m most n a):∀ (k:Nat) (s:By),a.list[k]? = some s→RunM p m (startP p) (wayR a k) s:=by
 intro k
 induction k using Nat.strongRecOn with
 | ind k ih=>
   intro s hs
   rcases Nat.eq_zero_or_pos k with e | e
   · subst e
     rw [h.head] at hs
     cases hs;exact rfl
   · obtain ⟨⟨f,x⟩,hq⟩:∃ f,a.links[k]? = some f:=⟨_,List.getElem?_eq_getElem (by rw [h.len];exact (List.getElem?_eq_some_iff.1 hs).1)⟩
     obtain ⟨i,rfl,hi,_,y,h1,h2,h3⟩:=h.link _ _ _ e hq
     rw [hs] at h3;cases h3
     rw [way_succ h e hq]
     exact (ih i hi y h1).snoc h2
theorem way_mono {p:Prg} {m:UInt8} {most n:Nat} {a:Fnd} (h:FndI p m most n a):∀ (j i:Nat),i≤j→j < a.list.length→(wayR a i).length≤(wayR a j).length:=by
 intro j
 induction j using Nat.strongRecOn with
 | ind j ih=>
   intro i hij hj
   rcases Nat.eq_zero_or_pos i with e | e
   · subst e;rw [way_zero];exact Nat.zero_le _
   · obtain ⟨⟨f,x⟩,hq⟩:∃ f,a.links[i]? = some f:=⟨_,List.getElem?_eq_getElem (by rw [h.len];omega)⟩
     obtain ⟨⟨g,y⟩,hq2⟩:∃ f,a.links[j]? = some f:=⟨_,List.getElem?_eq_getElem (by rw [h.len];omega)⟩
     obtain ⟨i',rfl,hi,_⟩:=h.link _ _ _ e hq
     obtain ⟨j',rfl,hj2,_⟩:=h.link _ _ _ (by omega) hq2
     have:=h.mono i j _ _ _ _ hij hq hq2
     rw [way_succ h e hq,way_succ h (by omega) hq2,List.length_append,List.length_append]
     have:=ih j' hj2 i' (by omega) (by omega)
     simpa using this
theorem way_least {p:Prg} {m:UInt8} {most:Nat} {a:Fnd} (h:FndI p m most a.list.length a) (r:List Pss):∀ (z:By),RunM p m (startP p) r z→∃ j,a.list[j]? = some z∧(wayR a j).length≤r.length:=by
 suffices ∀ (n:Nat) (r:List Pss) (z:By),r.length=n→RunM p m (startP p) r z→∃ j,a.list[j]? = some z∧(wayR a j).length≤r.length from fun z hz=>this _ r z rfl hz
 intro n
 induction n with
 | zero=>
   intro r z hn hz
   obtain rfl:r=[]:=List.eq_nil_of_length_eq_zero hn
   have hz:z=startP p:=hz
   subst hz
   exact ⟨0,h.head,by rw [way_zero];exact Nat.le_refl _⟩
 | succ n ih=>
   intro r z hn hz
   have hne:r ≠ []:=fun e=>by rw [e] at hn;simp at hn
   obtain ⟨r',x,rfl⟩:∃ r' x,r=r'++[x]:=⟨r.dropLast,r.getLast hne,(List.dropLast_concat_getLast hne).symm⟩
   obtain ⟨y,h1,h2,rfl⟩:=hz.unsnoc
   simp only [List.length_append,List.length_singleton] at hn
   obtain ⟨j,hj,hjl⟩:=ih r' y (by omega) h1
   obtain ⟨j2,h3,h4⟩:=h.next j y x (List.getElem?_eq_some_iff.1 hj).1 hj h2
   refine ⟨j2,h3,?_⟩
   rcases Nat.eq_zero_or_pos j2 with e | e
   · subst e;rw [way_zero];exact Nat.zero_le _
   · obtain ⟨f,w,hq,hf⟩:=h4 e
     obtain ⟨i,rfl,hi,_⟩:=h.link _ _ _ e hq
     rw [way_succ h e hq,List.length_append,List.length_append]
     have:=way_mono h j i (by omega) (List.getElem?_eq_some_iff.1 hj).1
     simp only [List.length_singleton]
     omega
theorem ends_iff {p:Prg} {m:UInt8} {most:Nat} {a:Fnd} (h:FndI p m most a.list.length a) {k:Nat}:k ∈ a.ends ↔ ∃ s,a.list[k]? = some s∧movesM p m s=[]:=by
 rw [h.ends,List.mem_filter,List.mem_range]
 constructor
 · rintro ⟨hk,h2⟩
   rw [List.getElem?_eq_getElem hk] at h2
   exact ⟨_,List.getElem?_eq_getElem hk,by simpa using h2⟩
 · rintro ⟨s,hs,he⟩
   refine ⟨(List.getElem?_eq_some_iff.1 hs).1,?_⟩
   rw [hs]
   simp [he]
theorem ends_sorted {p:Prg} {m:UInt8} {most n:Nat} {a:Fnd} (h:FndI p m most n a):a.ends.Pairwise (· < ·):=by
 rw [h.ends]
 exact List.Pairwise.filter _ List.pairwise_lt_range
theorem end_found {p:Prg} {m:UInt8} {most:Nat} {a:Fnd} (h:FndI p m most a.list.length a) {r:List Pss} {z:By} (hz:RunM p m (startP p) r z) (he:movesM p m z=[]):∃ k,k ∈ a.ends∧a.list[k]? = some z∧(wayR a k).length≤r.length:=by
 obtain ⟨j,h1,h2⟩:=way_least h r z hz
 exact ⟨j,(ends_iff h).2 ⟨z,h1,he⟩,h1,h2⟩
theorem end_run {p:Prg} {m:UInt8} {most:Nat} {a:Fnd} (h:FndI p m most a.list.length a) {k:Nat} (hk:k ∈ a.ends):∃ z,a.list[k]? = some z∧RunM p m (startP p) (wayR a k) z∧movesM p m z=[]:=by
 obtain ⟨z,h1,h2⟩:=(ends_iff h).1 hk
 exact ⟨z,h1,way_run h k z h1,h2⟩
theorem ends_pos {p:Prg} {m:UInt8} {most:Nat} {a:Fnd} (h:FndI p m most a.list.length a):a.ends ≠ []:=by
 have hr:RightM p m (startP p):=(h.fine _ (List.mem_of_getElem? h.head)).r
 obtain ⟨r,z,_,h2,h3⟩:=runM_of_play [] (nu p (startP p)) (startP p) [] hr (Nat.le_refl _)
 obtain ⟨k,hk,_⟩:=end_found h h2 h3
 exact fun e=>by rw [e] at hk;cases hk
theorem visit_len {p:Prg} {m:UInt8} {most k:Nat} {s:By}:∀ (r:List Pss) (l:List By) (q:List (Int × Pss)) {l':List By} {q':List (Int × Pss)},visitR p m most k s r l q=some (l',q')→l.length≤l'.length
 | [],l,q,l',q',h=>by simp only [visitR,Option.some.injEq,Prod.mk.injEq] at h;rw [h.1];exact Nat.le_refl _
 | x :: r,l,q,l',q',h=>by
   rw [visitR] at h
   split at h
   · exact visit_len r l q h
   · split at h
     · cases h
     · have:=visit_len r _ _ h
       simp only [List.length_append,List.length_singleton] at this
       omega
theorem visit_lim {p:Prg} {m:UInt8} {A B k:Nat} {s:By}:∀ (r:List Pss) (l:List By) (q:List (Int × Pss)) {l':List By} {q':List (Int × Pss)},visitR p m A k s r l q=some (l',q')→l.length≤B →
   (l'.length≤B→visitR p m B k s r l q=some (l',q'))∧(B < l'.length→visitR p m B k s r l q=none)
 | [],l,q,l',q',h,hB=>by
   have h2:=h
   simp only [visitR,Option.some.injEq,Prod.mk.injEq] at h2
   exact ⟨fun _=>h,fun hh=>by rw [← h2.1] at hh;omega⟩
 | x :: r,l,q,l',q',h,hB=>by
   rw [visitR] at h ⊢
   by_cases hc:isIn l (stepM p m s x)=true
   · rw [if_pos hc] at h ⊢
     exact visit_lim r l q h hB
   · rw [if_neg hc] at h ⊢
     by_cases hA:A≤l.length
     · rw [if_pos hA] at h;cases h
     · rw [if_neg hA] at h
       have hl:=visit_len r _ _ h
       simp only [List.length_append,List.length_singleton] at hl
       by_cases hB2:B≤l.length
       · rw [if_pos hB2]
         exact ⟨fun hh=>absurd hh (by omega),fun _=>rfl⟩
       · rw [if_neg hB2]
         exact visit_lim r _ _ h (by simp;omega)
theorem search_len {p:Prg} {m:UInt8} {A:Nat}:∀ (f k:Nat) (a b:Fnd),searchR p m A f k a=some b→a.list.length≤b.list.length
 | 0,k,a,b,h=>by simp only [searchR,Option.some.injEq] at h;rw [h];exact Nat.le_refl _
 | f+1,k,a,b,h=>by
   rw [searchR] at h
   cases hk:a.list[k]? with
   | none=>rw [hk] at h;simp only [Option.some.injEq] at h;rw [h];exact Nat.le_refl _
   | some s=>
     rw [hk] at h
     cases hv:visitR p m A k s (movesM p m s) a.list a.links with
     | none=>simp only [hv] at h;cases h
     | some lq=>
       obtain ⟨l,q⟩:=lq
       simp only [hv] at h
       have h1:=visit_len _ _ _ hv
       have h2:=search_len f (k+1) _ b h
       exact Nat.le_trans h1 h2
theorem search_lim {p:Prg} {m:UInt8} {A B:Nat}:∀ (f k:Nat) (a b:Fnd),searchR p m A f k a=some b→b.list.length≤k+f→a.list.length≤B→k≤a.list.length →
   (b.list.length≤B→∀ f',b.list.length≤k+f'→searchR p m B f' k a=some b)∧(B < b.list.length→∀ f',B≤k+f'→searchR p m B f' k a=none)
 | f,k,a,b,h,hf,hB,hk=>by
   cases hn:a.list[k]? with
   | none=>
     have e:a=b:=by
       cases f with
       | zero=>simpa [searchR] using h
       | succ f=>rw [searchR,hn] at h;simpa using h
     subst e
     refine ⟨fun _ f' _=>?_,fun hh=>absurd hh (by omega)⟩
     cases f' with
     | zero=>rfl
     | succ f'=>rw [searchR,hn]
   | some s=>
     have hkl:=(List.getElem?_eq_some_iff.1 hn).1
     have hab:=search_len f k a b h
     cases f with
     | zero=>omega
     | succ f=>
       rw [searchR,hn] at h
       cases hv:visitR p m A k s (movesM p m s) a.list a.links with
       | none=>simp only [hv] at h;cases h
       | some lq=>
         obtain ⟨l,q⟩:=lq
         simp only [hv] at h
         have h1:=visit_lim _ _ _ hv hB
         have h2:=visit_len _ _ _ hv
         have h3:=search_len f (k+1) _ b h
         have h3:l.length≤b.list.length:=h3
         refine ⟨fun hb f' hf'=>?_,fun hb f' hf'=>?_⟩
         · obtain ⟨f',rfl⟩:∃ g,f'=g+1:=⟨f' - 1,by omega⟩
           rw [searchR,hn]
           simp only [h1.1 (by omega)]
           exact (search_lim f (k+1) _ b h (by omega) (show l.length≤B by omega) (show k+1≤l.length by omega)).1 hb f' (by omega)
         · obtain ⟨f',rfl⟩:∃ g,f'=g+1:=⟨f' - 1,by omega⟩
           rw [searchR,hn]
           rcases Nat.lt_or_ge B l.length with h4 | h4
           · simp only [h1.2 h4]
           · simp only [h1.1 h4]
             exact (search_lim f (k+1) _ b h (by omega) (show l.length≤B from h4) (show k+1≤l.length by omega)).2 hb f' (by omega)
theorem reach_lim {p:Prg} {m:UInt8} {A B:Nat} {b:Fnd} (h:rightErr p=0) (hm:knownM m=true) (hA:1≤A) (hB:1≤B) (e:reachR p m A=some b):(b.list.length≤B→reachR p m B=some b)∧(B < b.list.length→reachR p m B=none):=by
 have hI:=reach_ok h hm hA e
 have:=hI.many
 have h1:=search_lim (B:=B) (A+1) 0 _ b e (by omega) hB (Nat.zero_le _)
 exact ⟨fun hb=>h1.1 hb (B+1) (by omega),fun hb=>h1.2 hb (B+1) (by omega)⟩
-- RnE
def ofN (n:Nat):By:=fun i=>if i < 142 then UInt8.ofNat (n / 256 ^ i % 256) else 0
theorem ofN_tidy (n:Nat):Tidy (ofN n):=fun i hi=>if_neg (by omega)
def visitC (p:Prg) (m:UInt8) (most k:Nat) (L:List Nat) (s:By):List Pss→Nat→List (Int × Pss)→Option (Nat × List (Int × Pss))
 | [],n,q=>some (n,q)
 | x :: r,n,q=>if (L.take n).any (fun y=>same 142 (stepM p m s x) (ofN y))=true then visitC p m most k L s r n q
   else if most≤n then none
   else match L[n]? with
     | none=>none
     | some y=>if same 142 (stepM p m s x) (ofN y)=true then visitC p m most k L s r (n+1) (q++[((k:Int),x)]) else none
def searchC (p:Prg) (m:UInt8) (most:Nat) (L:List Nat):Nat→Nat→Nat→List (Int × Pss)→List Nat→Option (Nat × List (Int × Pss) × List Nat)
 | 0,_,n,q,e=>some (n,q,e)
 | f+1,k,n,q,e=>if n≤k then some (n,q,e) else match L[k]? with
   | none=>none
   | some y=>match visitC p m most k L (ofN y) (movesM p m (ofN y)) n q with
     | none=>none
     | some (n',q')=>searchC p m most L f (k+1) n' q' (if (movesM p m (ofN y)).isEmpty then e++[k] else e)
theorem visitC_ok {p:Prg} {m:UInt8} {most k:Nat} {L:List Nat} {s:By} (hs:Fine p m s):∀ (r:List Pss) (n:Nat) (q:List (Int × Pss)) (n':Nat) (q':List (Int × Pss)),visitC p m most k L s r n q=some (n',q')→n≤L.length→(∀ y ∈ L.take n,Fine p m (ofN y))→(∀ x ∈ r,x ∈ movesM p m s) →
   visitR p m most k s r ((L.take n).map ofN) q=some ((L.take n').map ofN,q')∧n'≤L.length∧n≤n'∧(∀ y ∈ L.take n',Fine p m (ofN y))
 | [],n,q,n',q',h,hn,hF,_=>by
   simp only [visitC,Option.some.injEq,Prod.mk.injEq] at h
   obtain ⟨rfl,rfl⟩:=h
   exact ⟨rfl,hn,Nat.le_refl _,hF⟩
 | x :: r,n,q,n',q',h,hn,hF,hr=>by
   have hz:=hs.step (hr x (by simp))
   have ein:isIn ((L.take n).map ofN) (stepM p m s x)=(L.take n).any (fun y=>same 142 (stepM p m s x) (ofN y)):=by
     unfold isIn
     rw [List.any_map];rfl
   have elen:((L.take n).map ofN).length=n:=by rw [List.length_map,List.length_take];omega
   rw [visitC] at h;rw [visitR,ein,elen]
   split at h
   · rename_i hc
     rw [if_pos hc]
     exact visitC_ok hs r n q n' q' h hn hF (fun y hy=>hr y (by simp [hy]))
   · rename_i hc
     rw [if_neg hc]
     split at h
     · cases h
     · rename_i hm
       rw [if_neg hm]
       split at h
       · cases h
       · rename_i y hy
         split at h
         · rename_i hsame
           have e:stepM p m s x=ofN y:=(tidy_eq hz.t (ofN_tidy y)).1 hsame
           have hnl:=(List.getElem?_eq_some_iff.1 hy).1
           have et:L.take (n+1)=L.take n++[y]:=by rw [List.take_add_one,hy];rfl
           have:=visitC_ok hs r (n+1) _ n' q' h (by omega) (fun w hw=>by
             rw [et] at hw
             rcases List.mem_append.1 hw with h1 | h1
             · exact hF w h1
             · obtain rfl:w=y:=by simpa using h1
               rw [← e];exact hz) (fun y hy=>hr y (by simp [hy]))
           rw [et,List.map_append] at this
           obtain ⟨h1,h2,h3,h4⟩:=this
           refine ⟨?_,h2,by omega,h4⟩
           rw [e];exact h1
         · cases h
theorem searchC_ok {p:Prg} {m:UInt8} {most:Nat} {L:List Nat}:∀ (f k n:Nat) (q:List (Int × Pss)) (e:List Nat) (n':Nat) (q':List (Int × Pss)) (e':List Nat),searchC p m most L f k n q e=some (n',q',e')→n≤L.length→(∀ y ∈ L.take n,Fine p m (ofN y)) →
   searchR p m most f k ⟨(L.take n).map ofN,q,e⟩=some ⟨(L.take n').map ofN,q',e'⟩
 | 0,k,n,q,e,n',q',e',h,hn,hF=>by
   simp only [searchC,Option.some.injEq,Prod.mk.injEq] at h
   obtain ⟨rfl,rfl,rfl⟩:=h
   rfl
 | f+1,k,n,q,e,n',q',e',h,hn,hF=>by
   rw [searchC] at h
   split at h
   · rename_i hk
     simp only [Option.some.injEq,Prod.mk.injEq] at h
     obtain ⟨rfl,rfl,rfl⟩:=h
     rw [searchR,List.getElem?_eq_none (by rw [List.length_map,List.length_take];omega)]
   · rename_i hk
     split at h
     · cases h
     · rename_i y hy
       have hk2:((L.take n).map ofN)[k]? = some (ofN y):=by
         rw [List.getElem?_map,List.getElem?_take_of_lt (by omega),hy];rfl
       have hFy:=hF y (by
         rw [List.mem_iff_getElem?]
         exact ⟨k,by rw [List.getElem?_take_of_lt (by omega),hy]⟩)
       split at h
       · cases h
       · rename_i n2 q2 hv
         obtain ⟨h1,h2,h3,h4⟩:=visitC_ok hFy _ _ _ _ _ hv hn hF (fun x hx=>hx)
         rw [searchR]
         simp only [hk2]
         simp only [h1]
         have:=searchC_ok f (k+1) n2 q2 _ n' q' e' h h2 h4
         rw [← this]
         congr 2
         by_cases hm:movesM p m (ofN y)=[]
         · simp [hm]
         · have:(movesM p m (ofN y)).isEmpty=false:=by simpa using hm
           simp [hm]
theorem reachC {p:Prg} {m:UInt8} {most:Nat} {L:List Nat} {y0 n:Nat} {q:List (Int × Pss)} {e:List Nat} (hp:rightErr p=0) (hm:knownM m=true) (hy:L[0]? = some y0) (h0:same 142 (startP p) (ofN y0)=true) (h:searchC p m most L (most+1) 0 1 [(-1,⟨0,false,0⟩)] []=some (n,q,e)):reachR p m most=some ⟨(L.take n).map ofN,q,e⟩:=by
 have hF:=fine_start (p:=p) hp hm
 have e0:startP p=ofN y0:=(tidy_eq hF.t (ofN_tidy y0)).1 h0
 have et:L.take 1=[y0]:=by
   cases L with
   | nil=>cases hy
   | cons a r=>cases hy;rfl
 have:=searchC_ok (most+1) 0 1 _ [] n q e h (by have:=(List.getElem?_eq_some_iff.1 hy).1;omega) (fun y hy=>by
   rw [et] at hy
   obtain rfl:y=y0:=by simpa using hy
   rw [← e0];exact hF)
 rw [et] at this
 unfold reachR firstR
 rw [e0];exact this
-- RnS
def toL (n:Nat) (f:By):List UInt8:=(List.range n).map f
theorem toL_len (n:Nat) (f:By):(toL n f).length=n:=by simp [toL]
theorem toL_at {n i:Nat} {f:By} (h:i < n):(toL n f)[i]? = some (f i):=by simp [toL,h]
theorem toL_eq {n:Nat} {f g:By}:toL n f=toL n g ↔ same n f g=true:=by
 rw [same_iff]
 constructor
 · intro h i hi
   have:=congrArg (fun l=>l[i]?) h
   simp only [toL_at hi] at this
   exact Option.some.inj this
 · intro h
   exact List.map_congr_left fun i hi=>h i (List.mem_range.1 hi)
def lexC:List UInt8→List UInt8→Int
 | [],[]=>0
 | [],_ :: _=>-1
 | _ :: _,[]=>1
 | a :: r,b :: q=>if a < b then -1 else if b < a then 1 else lexC r q
theorem lex_self:∀ l,lexC l l=0
 | []=>rfl
 | a :: r=>by rw [lexC,if_neg (by simp),if_neg (by simp)];exact lex_self r
theorem lex_eq:∀ {l q},lexC l q=0→l=q
 | [],[],_=>rfl
 | [],_ :: _,h=>by simp [lexC] at h
 | _ :: _,[],h=>by simp [lexC] at h
 | a :: r,b :: q,h=>by
   rw [lexC] at h
   split at h
   · cases h
   · split at h
     · cases h
     · rename_i h1 h2
       have:a=b:=UInt8.toNat_inj.1 (by rw [UInt8.lt_iff_toNat_lt] at h1 h2;omega)
       rw [this,lex_eq h]
theorem lex_neg:∀ l q,lexC q l = - lexC l q
 | [],[]=>rfl
 | [],_ :: _=>rfl
 | _ :: _,[]=>rfl
 | a :: r,b :: q=>by
   rw [lexC,lexC]
   by_cases h1:a < b
   · have h2:¬ b < a:=fun h=>by rw [UInt8.lt_iff_toNat_lt] at h h1;omega
     simp [h1,h2]
   · by_cases h2:b < a
     · simp [h1,h2]
     · simp [h1,h2,lex_neg r q]
theorem lex_trans:∀ {l q s},lexC l q < 0→lexC q s < 0→lexC l s < 0
 | [],[],_,h,_=>by simp [lexC] at h
 | [],_ :: _,[],_,h=>by simp [lexC] at h
 | [],_ :: _,_ :: _,_,_=>by simp [lexC]
 | _ :: _,[],_,h,_=>by simp [lexC] at h
 | _ :: _,_ :: _,[],_,h=>by simp [lexC] at h
 | a :: r,b :: q,c :: s,h1,h2=>by
   rw [lexC] at h1 h2 ⊢
   simp only [UInt8.lt_iff_toNat_lt] at h1 h2 ⊢
   by_cases e1:a.toNat < b.toNat
   · by_cases e2:b.toNat < c.toNat
     · rw [if_pos (by omega)];decide
     · rw [if_neg e2] at h2
       by_cases e3:c.toNat < b.toNat
       · rw [if_pos e3] at h2;exact absurd h2 (by decide)
       · rw [if_pos (by omega)];decide
   · rw [if_neg e1] at h1
     by_cases e4:b.toNat < a.toNat
     · rw [if_pos e4] at h1;exact absurd h1 (by decide)
     · rw [if_neg e4] at h1
       by_cases e2:b.toNat < c.toNat
       · rw [if_pos (by omega)];decide
       · rw [if_neg e2] at h2
         by_cases e3:c.toNat < b.toNat
         · rw [if_pos e3] at h2;exact absurd h2 (by decide)
         · rw [if_neg e3] at h2
           rw [if_neg (by omega),if_neg (by omega)]
           exact lex_trans h1 h2
theorem lex_append:∀ {l q:List UInt8} (a b:List UInt8),l.length=q.length→lexC (l++a) (q++b)=if lexC l q=0 then lexC a b else lexC l q
 | [],[],a,b,_=>rfl
 | [],_ :: _,_,_,h=>by simp at h
 | _ :: _,[],_,_,h=>by simp at h
 | x :: r,y :: q,a,b,h=>by
   rw [List.cons_append,List.cons_append,lexC,lexC]
   by_cases h1:x < y
   · rw [if_pos h1,if_pos h1,if_neg (by decide)]
   · rw [if_neg h1,if_neg h1]
     by_cases h2:y < x
     · rw [if_pos h2,if_pos h2,if_neg (by decide)]
     · rw [if_neg h2,if_neg h2]
       exact lex_append a b (by simpa using h)
def Rising (l:List (List UInt8)):Prop:=l.Pairwise fun a b=>lexC a b < 0
theorem rising_nodup {l:List (List UInt8)} (h:Rising l):l.Nodup:=h.imp fun hab e=>by
 subst e
 rw [lex_self] at hab;omega
theorem rising_unique:∀ {l q:List (List UInt8)},Rising l→Rising q→(∀ x,x ∈ l ↔ x ∈ q)→l=q
 | [],[],_,_,_=>rfl
 | [],b :: q,_,_,h=>by have:=(h b).2 (by simp);cases this
 | a :: r,[],_,_,h=>by have:=(h a).1 (by simp);cases this
 | a :: r,b :: q,hl,hq,h=>by
   have hl':=List.pairwise_cons.1 hl
   have hq':=List.pairwise_cons.1 hq
   have hab:a=b:=by
     apply Decidable.byContradiction
     intro hne
     have h1:a ∈ q:=by
       rcases List.mem_cons.1 ((h a).1 (by simp)) with e | e
       · exact absurd e hne
       · exact e
     have h2:b ∈ r:=by
       rcases List.mem_cons.1 ((h b).2 (by simp)) with e | e
       · exact absurd e.symm hne
       · exact e
     have h3:=hl'.1 b h2
     have h4:=hq'.1 a h1
     have:=lex_neg a b
     omega
   subst hab
   have:r=q:=rising_unique hl'.2 hq'.2 fun x=>by
     have hx:=h x
     constructor
     · intro hr
       rcases List.mem_cons.1 (hx.1 (by simp [hr])) with e | e
       · subst e
         have:=hl'.1 x hr
         rw [lex_self] at this;omega
       · exact e
     · intro hr
       rcases List.mem_cons.1 (hx.2 (by simp [hr])) with e | e
       · subst e
         have:=hq'.1 x hr
         rw [lex_self] at this;omega
       · exact e
   rw [this]
def compactL:List (List UInt8)→List (List UInt8)
 | []=>[]
 | [a]=>[a]
 | a :: b :: r=>if a=b then compactL (b :: r) else a :: compactL (b :: r)
theorem compact_mem:∀ {l:List (List UInt8)} {x},x ∈ compactL l ↔ x ∈ l
 | [],x=>by simp [compactL]
 | [a],x=>by simp [compactL]
 | a :: b :: r,x=>by
   have ih:=compact_mem (l:=b :: r) (x:=x)
   rw [compactL]
   split
   · rename_i h
     subst h
     rw [ih];simp
   · rw [List.mem_cons,ih,List.mem_cons (a:=x) (b:=a)]
theorem compact_rising:∀ {l:List (List UInt8)},(l.Pairwise fun a b=>¬ lexC b a < 0)→Rising (compactL l)
 | [],_=>List.Pairwise.nil
 | [a],_=>by simp [compactL,Rising]
 | a :: b :: r,h=>by
   have h':=List.pairwise_cons.1 h
   have ih:=compact_rising h'.2
   rw [compactL]
   split
   · exact ih
   · rename_i hne
     refine List.pairwise_cons.2 ⟨fun x hx=>?_,ih⟩
     rw [compact_mem] at hx
     have h1:=h'.1 b (by simp)
     have hab:lexC a b < 0:=by
       have:=lex_neg a b
       rcases Int.lt_trichotomy (lexC a b) 0 with h2 | h2 | h2
       · exact h2
       · exact absurd (lex_eq h2) hne
       · omega
     rcases List.mem_cons.1 hx with e | e
     · subst e;exact hab
     · have h2:=(List.pairwise_cons.1 h'.2).1 x e
       have:=lex_neg b x
       rcases Int.lt_trichotomy (lexC b x) 0 with h3 | h3 | h3
       · exact lex_trans hab h3
       · rw [← lex_eq h3];exact hab
       · omega
def OutM (p:Prg) (m:UInt8) (x:List UInt8):Prop:=∃ r z,RunM p m (startP p) r z∧movesM p m z=[]∧x=toL 38 (finalP z)
def finsR (a:Fnd):List (List UInt8):=a.ends.map fun k=>toL 38 (finalP (a.list.getD k zb))
theorem fins_iff {p:Prg} {m:UInt8} {most:Nat} {a:Fnd} (h:FndI p m most a.list.length a) {x:List UInt8}:x ∈ finsR a ↔ OutM p m x:=by
 unfold finsR OutM
 rw [List.mem_map]
 constructor
 · rintro ⟨k,hk,rfl⟩
   obtain ⟨z,h1,h2,h3⟩:=end_run h hk
   exact ⟨_,z,h2,h3,by rw [List.getD_eq_getElem?_getD,h1];rfl⟩
 · rintro ⟨r,z,h1,h2,rfl⟩
   obtain ⟨k,hk,hz,_⟩:=end_found h h1 h2
   exact ⟨k,hk,by rw [List.getD_eq_getElem?_getD,hz];rfl⟩
end Go.Proofs.YtbgnapmaimkpkaaGreatDoor
