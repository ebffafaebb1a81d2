/-
  Plain Lean: a move of a machine with store Qz leads from a valid state to a valid one, and there is less left to do: last part; runs. Conditions: none.
-/
import Derived.Test.YtcpehikcegoojaaGreatDoorJn3
import Derived.Test.YtcpehikcegoojaaGreatDoorCkK
set_option linter.unusedSimpArgs false
set_option linter.unusedVariables false
namespace Go.Proofs.YtcpehikcegoojaaGreatDoor
-- BfT
section
variable {p:Prg} {m:UInt8} {s:By} {t:Nat} {l:List Ins} {x:Ins}
theorem Xg3 (h:ExecOf p m s t l x) (hb:Qz m x) (v:UInt8):∀ i,i < 12→Qo p m (Ce m s t (stP x.loc v)) t i=true:=by
 have hn:=h.room
 have ht:=h.t4
 have ha:=NP (m:=m) (s:=s) (t:=t) (loc:=x.loc) (JA s t)
 obtain ⟨a1,a2,a3⟩:=LS (m:=m) (s:=s) (t:=t) (loc:=x.loc) (JA s t)
 have hll:=h.loc (h.notLocal (.inr hb))
 have hs:∀ i,i < 12→_:=fun i hi=>slot_iff.1 (h.r.slot ht hi)
 intro i hi
 rw [slot_iff]
 have hst:stP x.loc v 0=x.loc:=rfl
 unfold Ce
 rw [hst]
 generalize hA:Mn m s t x.loc (JA s t)=a at ha a1 a2 a3
 have hL:∀ j,j < 12→JU (Xbj s t a (stP x.loc v)) t j=if j=a then x.loc else if a < j∧j≤JA s t then JU s t (j - 1) else JU s t j:=fun j hj=>Xbc ha hn ht hj
 rw [LR ha hn]
 refine ⟨fun hmi=>?_,fun hil=>⟨?_,fun h3 h0=>?_⟩⟩
 · rw [hL i hi,Xbb ha hn ht hi,if_neg (by omega),if_neg (by omega),if_neg (by omega),if_neg (by omega)]
   exact (hs i hi).1 (by omega)
 · rw [hL i hi]
   by_cases e:i=a
   · rw [if_pos e];exact hll
   · rw [if_neg e]
     by_cases e2:a < i∧i≤JA s t
     · rw [if_pos e2];exact ((hs (i - 1) (by omega)).2 (by omega)).1
     · rw [if_neg e2];exact ((hs i hi).2 (by omega)).1
 · rw [hL i hi,hL (i - 1) (by omega)]
   by_cases e:i=a
   · rw [if_pos e,if_neg (by omega),if_neg (by omega),e]
     exact a2 h3 (by omega)
   · rw [if_neg e]
     by_cases e2:a < i∧i≤JA s t
     · rw [if_pos e2]
       by_cases e3:i - 1=a
       · rw [if_pos e3]
         have:=a1 h3 (i - 1) (by omega) (by omega)
         omega
       · rw [if_neg e3,if_pos (by omega)]
         exact ((hs (i - 1) (by omega)).2 (by omega)).2 h3 (by omega)
     · rw [if_neg e2,if_neg (by omega),if_neg (by omega)]
       exact ((hs i hi).2 (by omega)).2 h3 h0
theorem ExecOf.right (h:ExecOf p m s t l x):RightM p m (Ql m x s t):=by
 have ht:=h.t4
 have hpc:=h.pc
 refine ⟨h.r.known,Xdy h.r.prog (fun u hu=>?_) (fun k hk=>?_),fun u hu=>?_⟩
 · by_cases hut:u=t
   · subst hut
     rw [Q1 h.hl]
     exact decide_eq_true hpc.2
   · exact N4 (fun k hk=>h.other hu hut hk) (h.r.thread hu)
 · have h1:=h.r.mem hk
   unfold LV at h1 ⊢
   by_cases hkl:k < p.locs.length
   · rw [decide_eq_true hkl,Bool.true_or]
   · rw [decide_eq_false hkl,Bool.false_or] at h1 ⊢
     rw [h.mem hk,if_neg]
     · exact h1
     · rintro ⟨hw,e⟩
       have:=h.loc (h.notLocal (.inl hw))
       omega
 · by_cases hut:u=t
   · subst hut
     by_cases hb:Qz m x
     · obtain ⟨h1,h2⟩:=h.adds hb u
       rw [Ba]
       have hmany:=LR (st:=stP x.loc (Ns x (cut s (u * 9)))) (NP (m:=m) (s:=s) (t:=u) (loc:=x.loc) (JA s u)) h.room
       have hmost:=h.r.most ht
       have hlt:=(List.getElem?_eq_some_iff.1 h.hl).1
       refine ⟨?_,fun i hi=>?_⟩
       · rw [h1]
         show JA (Xbj s u (Mn m s u x.loc (JA s u)) _) u≤_
         rw [hmany]
         unfold Mm at hmost ⊢
         rw [if_pos ⟨hb.2,hlt⟩] at hmost ⊢
         have:=hpc.1
         unfold pcP at this
         omega
       · have h3:=Xg3 h hb (Ns x (cut s (u * 9))) i hi
         rw [slot_iff] at h3 ⊢;rw [h1,(h2 i).1,(h2 i).2,(h2 (i - 1)).1]
         exact h3
     · obtain ⟨h1,h2⟩:=h.still hb u
       exact BP h1 (fun i _=>h2 i) (XaL (Nat.le_of_lt hpc.1)) (h.r.fits u hu)
   · obtain ⟨h1,h2⟩:=h.far hu hut
     exact BP h1 h2 (XaL (Nat.le_of_eq (h.pcOther hu hut).symm)) (h.r.fits u hu)
theorem ExecOf.many (h:ExecOf p m s t l x):JA (Ql m x s t) t≤JA s t+1:=by
 by_cases hb:Qz m x
 · have hmany:=LR (st:=stP x.loc (Ns x (cut s (t * 9)))) (NP (m:=m) (s:=s) (t:=t) (loc:=x.loc) (JA s t)) h.room
   rw [(h.adds hb t).1]
   exact Nat.le_of_eq hmany
 · rw [(h.still hb t).1]
   omega
theorem ExecOf.nu (h:ExecOf p m s t l x):nu p (Ql m x s t) < nu p s:=by
 have h1:=h.pc
 have h2:=h.lt
 have h3:=Xgb h.hl
 have h4:=h.t4
 have h5:=h.many
 have q:∀ u,u < 4→u ≠ t→pcP (Ql m x s t) u=pcP s u:=fun u hu hne=>h.pcOther hu hne
 have r:∀ u,u < 4→u ≠ t→JA (Ql m x s t) u=JA s u:=fun u hu hne=>(h.far hu hne).1
 unfold YtcpehikcegoojaaGreatDoor.nu YtcpehikcegoojaaGreatDoor.mu
 rcases (by omega:t=0∨t=1∨t=2∨t=3) with rfl | rfl | rfl | rfl
 · rw [q 1 (by omega) (by omega),q 2 (by omega) (by omega),q 3 (by omega) (by omega),r 1 (by omega) (by omega),r 2 (by omega) (by omega),r 3 (by omega) (by omega)];omega
 · rw [q 0 (by omega) (by omega),q 2 (by omega) (by omega),q 3 (by omega) (by omega),r 0 (by omega) (by omega),r 2 (by omega) (by omega),r 3 (by omega) (by omega)];omega
 · rw [q 0 (by omega) (by omega),q 1 (by omega) (by omega),q 3 (by omega) (by omega),r 0 (by omega) (by omega),r 1 (by omega) (by omega),r 3 (by omega) (by omega)];omega
 · rw [q 0 (by omega) (by omega),q 1 (by omega) (by omega),q 2 (by omega) (by omega),r 0 (by omega) (by omega),r 1 (by omega) (by omega),r 2 (by omega) (by omega)];omega
end
structure DrainOf (p:Prg) (m:UInt8) (s:By) (t a:Nat):Prop where
 r:RightM p m s
 t4:t < 4
 lt:a < JA s t
 fst:∀ i,i < a→m=3∧JU s t i ≠ JU s t a
theorem B0 {m:UInt8} {s:By} {t:Nat} {loc:UInt8}:∀ (f i:Nat),(m=3→∃ j,i≤j∧j < i+f∧JU s t j=loc)→(m ≠ 3→0 < f)→i≤MM m s t loc f i∧MM m s t loc f i < i+f∧(m=3→JU s t (MM m s t loc f i)=loc)∧(∀ j,i≤j→j < MM m s t loc f i→m=3∧JU s t j ≠ loc)
 | 0,i,h1,h2=>by
   by_cases hm:m=3
   · obtain ⟨j,_,_,_⟩:=h1 hm
     omega
   · exact absurd (h2 hm) (by omega)
 | f+1,i,h1,h2=>by
   rw [MM]
   split
   · rename_i hc
     obtain ⟨q1,q2,q3,q4⟩:=B0 (m:=m) (s:=s) (t:=t) (loc:=loc) f (i+1) (fun hm=>by
       obtain ⟨j,j1,j2,j3⟩:=h1 hm
       rcases Nat.eq_or_lt_of_le j1 with e | e
       · subst e;exact absurd j3 hc.2
       · exact ⟨j,e,by omega,j3⟩) (fun hm=>absurd hc.1 hm)
     refine ⟨by omega,by omega,q3,fun j hj1 hj2=>?_⟩
     rcases Nat.eq_or_lt_of_le hj1 with e | e
     · subst e;exact hc
     · exact q4 j e hj2
   · rename_i hc
     exact ⟨Nat.le_refl _,by omega,fun hm=>Decidable.not_not.1 fun hn=>hc ⟨hm,hn⟩,fun j hj1 hj2=>absurd hj1 (by omega)⟩
theorem Xjv {p:Prg} {m:UInt8} {s:By} {t i:Nat} (hr:RightM p m s) (ht:t < 4) (hi:i < JA s t):DrainOf p m s t (L1 m s t (JM m s t i).l)∧(m=3→JU s t (L1 m s t (JM m s t i).l)=JU s t i):=by
 have hl:m=3→(JM m s t i).l=JU s t i:=fun h=>if_pos h
 obtain ⟨h1,h2,h3,h4⟩:=B0 (m:=m) (s:=s) (t:=t) (loc:=(JM m s t i).l) (JA s t) 0 (fun h=>⟨i,by omega,by omega,(hl h).symm⟩) (fun _=>by omega)
 refine ⟨⟨hr,ht,by unfold L1;omega,fun j hj=>?_⟩,fun h=>(h3 h).trans (hl h)⟩
 obtain ⟨h5,h6⟩:=h4 j (by omega) hj
 exact ⟨h5,fun e=>h6 (e.trans (h3 h5))⟩
section
variable {p:Prg} {m:UInt8} {s:By} {t a:Nat}
theorem DrainOf.n12 (h:DrainOf p m s t a):JA s t≤12:=(h.r.many h.t4).1
theorem DrainOf.loc (h:DrainOf p m s t a):(JU s t a).toNat < p.locs.length:=h.r.loc h.t4 h.lt
theorem DrainOf.loc6 (h:DrainOf p m s t a):(JU s t a).toNat < 6:=by have:=h.loc;have:=(valid h.r.prog).locs6;omega
theorem DrainOf.low (h:DrainOf p m s t a) {i:Nat} (hi:i < 36):Qy s t a i=s i:=XgH h.lt hi
theorem DrainOf.pc (h:DrainOf p m s t a) {u:Nat} (hu:u < 4):pcP (Qy s t a) u=pcP s u:=by unfold pcP;rw [h.low (by omega)]
theorem DrainOf.right (h:DrainOf p m s t a):RightM p m (Qy s t a):=by
 have ht:=h.t4
 have hn:=h.n12
 have hlt:=h.lt
 have hl6:=h.loc6
 refine ⟨h.r.known,Xdy h.r.prog (fun u hu=>N4 (fun k hk=>h.low (by omega)) (h.r.thread hu)) (fun k hk=>?_),fun u hu=>?_⟩
 · have h1:=h.r.mem hk
   unfold LV at h1 ⊢
   by_cases hkl:k < p.locs.length
   · rw [decide_eq_true hkl,Bool.true_or]
   · rw [decide_eq_false hkl,Bool.false_or] at h1 ⊢
     rw [Xce hlt hk,if_neg (by have:=h.loc;omega)]
     exact h1
 · by_cases hut:u=t
   · subst hut
     rw [Ba]
     have hs:∀ i,i < 12→_:=fun i hi=>slot_iff.1 (h.r.slot ht hi)
     have hL:∀ j,j < 12→_:=fun j hj=>EZ hlt hl6 hn ht hj
     refine ⟨?_,fun i hi=>?_⟩
     · rw [ML hlt hl6]
       have h1:=h.r.most ht
       have h2:=XaL (p:=p) (m:=m) (Nat.le_of_eq (h.pc hu).symm)
       omega
     · rw [slot_iff,ML hlt hl6]
       refine ⟨fun hmi=>?_,fun hil=>⟨?_,fun h3 h0=>?_⟩⟩
       · rw [hL i hi,EY hlt hl6 hn ht hi]
         by_cases e:i+1=JA s u
         · rw [if_pos e,if_pos e];exact ⟨rfl,rfl⟩
         · rw [if_neg e,if_neg e,if_neg (by omega),if_neg (by omega)]
           exact (hs i hi).1 (by omega)
       · rw [hL i hi,if_neg (by omega)]
         by_cases e2:a≤i∧i+1 < JA s u
         · rw [if_pos e2];exact ((hs (i+1) (by omega)).2 (by omega)).1
         · rw [if_neg e2];exact ((hs i hi).2 (by omega)).1
       · have e1:¬ i+1=JA s u:=by omega
         have e1':¬ i - 1+1=JA s u:=by omega
         rw [hL i hi,hL (i - 1) (by omega),if_neg e1,if_neg e1']
         by_cases e2:a≤i∧i+1 < JA s u
         · rw [if_pos e2]
           have k1:=((hs (i+1) (by omega)).2 (by omega)).2 h3 (by omega)
           rw [show i+1 - 1=i by omega] at k1
           by_cases e3:a≤i - 1∧i - 1+1 < JA s u
           · rw [if_pos e3,show i - 1+1=i by omega];exact k1
           · rw [if_neg e3]
             have k2:=((hs i hi).2 (by omega)).2 h3 h0
             omega
         · rw [if_neg e2,if_neg (by omega)]
           exact ((hs i hi).2 (by omega)).2 h3 h0
   · obtain ⟨h1,h2⟩:=Xcf hlt hl6 hn ht hu hut
     exact BP h1 h2 (XaL (Nat.le_of_eq (h.pc hu).symm)) (h.r.fits u hu)
theorem DrainOf.nu (h:DrainOf p m s t a):nu p (Qy s t a) < nu p s:=by
 have ht:=h.t4
 have hlt:=h.lt
 have hm:=ML hlt h.loc6
 have q:∀ u,u < 4→pcP (Qy s t a) u=pcP s u:=fun u hu=>h.pc hu
 have r:∀ u,u < 4→u ≠ t→JA (Qy s t a) u=JA s u:=fun u hu hne=>(Xcf hlt h.loc6 h.n12 ht hu hne).1
 unfold YtcpehikcegoojaaGreatDoor.nu YtcpehikcegoojaaGreatDoor.mu
 rw [q 0 (by omega),q 1 (by omega),q 2 (by omega),q 3 (by omega)]
 rcases (by omega:t=0∨t=1∨t=2∨t=3) with rfl | rfl | rfl | rfl
 · rw [r 1 (by omega) (by omega),r 2 (by omega) (by omega),r 3 (by omega) (by omega)];omega
 · rw [r 0 (by omega) (by omega),r 2 (by omega) (by omega),r 3 (by omega) (by omega)];omega
 · rw [r 0 (by omega) (by omega),r 1 (by omega) (by omega),r 3 (by omega) (by omega)];omega
 · rw [r 0 (by omega) (by omega),r 1 (by omega) (by omega),r 2 (by omega) (by omega)];omega
end
inductive Went (p:Prg) (m:UInt8) (s:By):Pss→By→Prop
 | exec {t:Nat} {l:List Ins} {x:Ins}:ExecOf p m s t l x→EQ p s t=some x→Went p m s ⟨UInt8.ofNat t,false,0⟩ (Ql m x s t)
 | drain {t i:Nat}:DrainOf p m s t (L1 m s t (JM m s t i).l)→i < JA s t→(m=3→JU s t (L1 m s t (JM m s t i).l)=JU s t i)→Went p m s (JM m s t i) (Qy s t (L1 m s t (JM m s t i).l))
theorem XiQ {p:Prg} {m:UInt8} {s:By} {x:Pss} (hr:RightM p m s) (hx:x ∈ JG p m s):Went p m s x (J5 p m s x):=by
 have hV4:=(valid hr.prog).thr4
 obtain ⟨t,htl,hmv⟩:=Dr hx
 have ht4:t < 4:=by omega
 have hto:=XdR ht4
 rcases hmv with ⟨rfl,hen⟩ | ⟨i,hi,rfl⟩
 · obtain ⟨l,ix,hE,hn⟩:=Xku hr htl hen
   have e:J5 p m s ⟨UInt8.ofNat t,false,0⟩=Ql m ix s t:=by
     unfold J5
     rw [if_neg (by simp)]
     show (match EQ p s (UInt8.ofNat t).toNat with | some i=>Ql m i s (UInt8.ofNat t).toNat | none=>s)=_
     rw [hto,hn]
   rw [e]
   exact .exec hE hn
 · obtain ⟨h1,h2⟩:=Xjv hr ht4 hi
   have e:J5 p m s (JM m s t i)=Qy s t (L1 m s t (JM m s t i).l):=by
     unfold J5
     rw [if_pos (show (JM m s t i).d=true from rfl)]
     show BY m s (UInt8.ofNat t).toNat _=_
     rw [hto]
     rfl
   rw [e]
   exact .drain h1 hi h2
theorem Went.right {p:Prg} {m:UInt8} {s z:By} {x:Pss} (h:Went p m s x z):RightM p m z:=by
 cases h with
 | exec h _=>exact h.right
 | drain h _ _=>exact h.right
theorem Went.nu {p:Prg} {m:UInt8} {s z:By} {x:Pss} (h:Went p m s x z):nu p z < nu p s:=by
 cases h with
 | exec h _=>exact h.nu
 | drain h _ _=>exact h.nu
-- BfU
theorem Xfp {p:Prg} {m:UInt8} {s:By} (h:RightM p m s) {t:Nat} (ht:t < 4) (loc:UInt8):LU s t loc=seenN s t loc (JA s t):=by
 have:=(h.many ht).1
 unfold LU
 rw [Nat.min_eq_left this]
section
variable {p:Prg} {m:UInt8} {s:By} {t:Nat} {l:List Ins} {x:Ins}
end
theorem DrainOf.seen {p:Prg} {m:UInt8} {s:By} {t a:Nat} (h:DrainOf p m s t a) {loc:UInt8} (hl:loc.toNat < 6):LU (Qy s t a) t loc=LU s t loc:=by
 have hlt:=h.lt
 have hl6:=h.loc6
 have hn:=h.n12
 have ht:=h.t4
 rw [Xfp h.right ht,Xfp h.r ht,ML hlt hl6]
 have hB:∀ i,i < 12→_:=fun i hi=>And.intro (EZ hlt hl6 hn ht hi) (EY hlt hl6 hn ht hi)
 have hmem:Qy s t a (36+loc.toNat)=if JU s t a=loc then Nm s t a else s (36+loc.toNat):=by
   rw [Xce hlt hl]
   by_cases e:JU s t a=loc
   · rw [if_pos (by rw [e]),if_pos e]
   · rw [if_neg (fun e2=>e (UInt8.toNat_inj.1 e2.symm)),if_neg e]
 have low:∀ k,k≤a→seenN (Qy s t a) t loc k=if JU s t a=loc then Nm s t a else seenN s t loc k:=by
   intro k
   induction k with
   | zero=>intro _;exact hmem
   | succ k ih=>
     intro hk
     have e:=hB k (by omega)
     have f1:¬ k+1=JA s t:=by omega
     have f2:¬ (a≤k∧k+1 < JA s t):=by omega
     rw [seenN,e.1,e.2,if_neg f1,if_neg f1,if_neg f2,if_neg f2,ih (by omega),seenN]
     by_cases e1:JU s t a=loc
     · rw [if_pos e1,if_pos e1,if_neg (by rw [← e1];exact (h.fst k (by omega)).2)]
     · rw [if_neg e1,if_neg e1]
 have high:∀ k,a≤k→k+1≤JA s t→seenN (Qy s t a) t loc k=seenN s t loc (k+1):=by
   intro k hk
   induction hk with
   | refl=>
     intro _
     rw [low a (Nat.le_refl _),seenN]
   | @step k hak ih=>
     intro hk1
     have hak:a≤k:=hak
     have hk1:k+1+1≤JA s t:=hk1
     have e:=hB k (by omega)
     have e1:¬ k+1=JA s t:=by omega
     have e2:a≤k∧k+1 < JA s t:=⟨hak,by omega⟩
     show seenN (Qy s t a) t loc (k+1)=seenN s t loc (k+1+1)
     rw [seenN,e.1,e.2,if_neg e1,if_neg e1,if_pos e2,if_pos e2,ih (by omega)]
     exact (seenN.eq_2 s t loc (k+1)).symm
 have:=high (JA s t - 1) (by omega) (by omega)
 rwa [show JA s t - 1+1=JA s t by omega] at this
-- BfG
open Go.RowKit
set_option maxRecDepth 100000
def Ll (p:Prg) (m:UInt8) (s:By) (x:Pss):By:=if x ∈ Qj p m s then J5 p m s x else zb
def BH (p:Prg) (m:UInt8) (s:By) (x:Pss):Int:=if x ∈ Qj p m s then 0 else 2
theorem CV {p:Prg} {m:UInt8} {s:By} {x:Pss} (h:x ∈ Qj p m s):RightM p m s∧x ∈ JG p m s:=by
 unfold Qj at h
 split at h
 · rename_i hr;exact ⟨rightM_iff.1 hr,h⟩
 · simp at h
theorem ER {p:Prg} {m:UInt8} {s:By} (h:RightM p m s):Qj p m s=JG p m s:=by rw [Qj,rightM_iff.2 h];rfl
theorem XfZ (cs:List Value) (p:Prg) (w0:World) (hP:ProgAt w0 cs p) (hN:NeedsAt w0) (mc:UInt8) (s:By) (x:Pss) :
   Calls Tryz.prog 49 #[.agg cs.toArray,YtcpehikcegoojaaGreatDoor.b8 mc,.agg (bs 142 s).toArray,.agg x.cells.toArray] w0 fun e w'=>e = .returned (.tuple #[.agg (bs 142 (Ll p mc s x)).toArray,.int .i64 (BH p mc s x)])∧Below w0.heap.size w0 w':=by
 have H:=Own.start w0 none
 obtain ⟨d1,d2,d3,d4,d5,d6,d7,d8,d9,d10,rfl⟩:=hP.len10
 refine JF Tryz.func49 rfl Tryz.ntmps49 rfl (fun a F=>?_);refine cSR fun K1 hK1=>?_;refine sBx H F rfl rfl rfl ?_;clear F a H;intro b4 a w F H;refine Mg H F rfl rfl rfl ?_;clear F a H;intro b6 a w F H;refine sBx H F rfl rfl rfl ?_;clear F a H;intro b7 a w F H;refine Mo H N3 F rfl rfl ?_;clear F a H;intro b8 a w F H;refine Xa F rfl (qNK hK1 ?_);clear hK1;clear F a;intro a F;refine JD (fun K2 hK2=>?_);refine JD (fun K3 hK3=>?_);refine Xi H ?_;replace H:=H.drew
 refine Xk (k:=0) (i:=0) rfl F rfl rfl (fun w H=>rLr Tryz.underlying29 rfl ?si F rfl (H.whole 3 rfl)) H (fun _ _ _ h=>h) ?_
 case si=>exact Jz Tryz.sizeOf29
 clear F a;intro a F;refine Xj 1 rfl F rfl (fun w=>rMv F rfl) H qq0 (Xl 2 rfl rfl rfl (fun a F w H=>Nt Tryz.underlying60 rfl Tryz.sizeOf60 F rfl (H.whole 2 rfl)) H qq0 ?_);clear F a;intro a F
 refine Xk (k:=3) (i:=4) rfl F rfl rfl (fun w H=>rLr Tryz.underlying73 rfl ?si F rfl (H.whole 1 rfl)) H (fun _ _ _ h=>h) ?_
 case si=>exact Jz Tryz.sizeOf73
 clear F a;intro a F;refine Xn (k:=4) (i:=3) rfl F (J3 Tryz.call47 F rfl rfl (CS _ p _ (hP.own H) (hN.own H) mc s) ?_);rintro e w ⟨A,c,rfl,H2⟩;replace H:=H.join H2;clear H2;refine ⟨_,rfl,?_⟩;clear F a;intro a F;refine JR H.tail ?_;refine Xn (k:=5) (i:=5) rfl F (J3 Tryz.call72 F rfl rfl (Xa1 A c (Qj p mc s) x _ (H.rowsAt 0 rfl (Xax _) (by decide)) (by have:=(H.rwsLen 0 rfl).2;simp only [maxLen] at this;omega)) (gG H ?_));clear F a H;intro a w F H;refine Xo H ?_;refine Xj 6 rfl F rfl (fun w=>Xg5 F rfl) H qq0 ?_;clear F a;intro a F;refine Xp (k:=7) ?_;refine hK3 _ _ ?_;clear hK3
 refine cIf F rfl (fun h16=>?_) (fun h16=>?_)
 ·
  replace h16:=N1 h16
  have hin:¬ x ∈ Qj p mc s:=of_decide_eq_false h16
  refine cSR fun K4 hK4=>Xhn (places:=[(0,36),(36,6),(42,96),(138,4)]) N3 Tryz.underlying60 (by kernel_rfl) F rfl rfl rfl FillB.nil ?_;clear F a;intro a F;refine Xt H 1 Tryz.sizeOf60 F rfl rfl rfl ?_;clear H;intro w H;rw [JE] at H;refine Xa F rfl (qNK hK4 ?_);clear hK4;clear F a;intro a F;refine wp_ret ?_;simp only [Exit.then];refine QJ Tryz.results49 F rfl rfl Tryz.underlying60 rfl Tryz.sizeOf60 H 1 rfl ?_
  exact ⟨by rw [Ll,if_neg hin,BH,if_neg hin],H.below⟩
 replace h16:=N2 h16
 have hin:x ∈ Qj p mc s:=of_decide_eq_true h16
 obtain ⟨hr,hxm⟩:=CV hin
 refine wp_skip (hK2 _ _ (cSR fun K5 hK5=>?_));clear hK2
 refine Xw Tryz.underlying29 rfl ?si F rfl (H.whole 4 rfl) ?_
 case si=>exact Jz Tryz.sizeOf29
 clear F a;intro a F;refine Xf F rfl (Nu Tryz.underlying60 rfl Tryz.sizeOf60 rfl rfl rfl (H.whole 3 rfl) ?_);clear F a;intro a F
 refine Xw Tryz.underlying73 rfl ?si F rfl (H.whole 2 rfl) ?_
 case si=>exact Jz Tryz.sizeOf73
 clear F a;intro a F;refine Xu Tryz.call73 F rfl (Xfk _ p _ (hP.own H) (hN.own H) mc s x hr hxm) (gG H ?_);clear F a H;intro a w F H;refine Xt H 1 Tryz.sizeOf60 F rfl rfl rfl ?_;clear H;intro w H;rw [JE] at H;refine Xa F rfl (qNK hK5 ?_);clear hK5;clear F a;intro a F;refine wp_ret ?_;refine QJ Tryz.results49 F rfl rfl Tryz.underlying60 rfl Tryz.sizeOf60 H 1 rfl ?_
 exact ⟨by rw [Ll,if_pos hin,BH,if_pos hin],H.below⟩
theorem Xbq {p:Prg} {m:UInt8} (h:JH p=0) (hm:QS m=true):RightM p m (Qr p)∧∀ t,t < 4→JA (Qr p) t=0:=by
 have hz:∀ i,42≤i→Qr p i=0:=fun i hi=>by rw [Xaq h,if_neg (by have:=(valid h).locs6;omega)]
 have hm0:∀ t,t < 4→JA (Qr p) t=0:=fun t ht=>by unfold JA;rw [hz _ (by omega)];rfl
 have hr:=XcG h
 unfold Qi Mf at hr
 simp only [Bool.and_eq_true] at hr
 refine ⟨⟨hm,Xdy h (allB_iff.1 hr.2.1.1) (allB_iff.1 hr.2.1.2),fun t ht=>?_⟩,hm0⟩
 rw [Ba,hm0 t ht]
 refine ⟨Nat.zero_le _,fun i hi=>?_⟩
 rw [slot_iff,hm0 t ht]
 exact ⟨fun _=>⟨hz _ (by omega),hz _ (by omega)⟩,fun hh=>absurd hh (by omega)⟩
def okM (p:Prg) (m:UInt8):Prop:=JH p=0∧QS m=true
instance (p:Prg) (m:UInt8):Decidable (okM p m):=by unfold okM;infer_instance
theorem XbD {p:Prg} {m:UInt8} {picks:List UInt8} {s:By} {run:List Pss} (h:JG p m s=[]):∀ f,XcS p m picks f s run=(s,run)
 | 0=>rfl
 | f+1=>by unfold XcS;simp [h]
theorem Xex {p:Prg} {m:UInt8} {picks:List UInt8} {s:By} {run:List Pss} {f:Nat} {k:Pss} (h:JG p m s ≠ []) (hk:XcU picks run.length (JG p m s)=k):XcS p m picks (f+1) s run=XcS p m picks f (J5 p m s k) (run++[k]):=by
 rw [XcS];simp only [if_neg h,hk]
-- BfV
-- BfW
def RunM (p:Prg) (m:UInt8):By→List Pss→By→Prop
 | s,[],z=>z=s
 | s,x :: r,z=>x ∈ JG p m s∧RunM p m (J5 p m s x) r z
theorem XfK {picks:List UInt8} {n:Nat} {l:List Pss} (h:l ≠ []):XcU picks n l ∈ l:=by
 have hpos:0 < l.length:=List.length_pos_iff.2 h
 have key:∀ q,q < l.length→l.getD q ⟨0,false,0⟩ ∈ l:=fun q hq=>by
   rw [List.getD_eq_getElem?_getD,List.getElem?_eq_getElem hq]
   exact List.getElem_mem hq
 unfold XcU
 refine key _ ?_
 split
 · exact Nat.mod_lt _ hpos
 · exact hpos
theorem DE {p:Prg} {m:UInt8} (picks:List UInt8):∀ (f:Nat) (s:By) (run0:List Pss),RightM p m s→nu p s≤f →
   ∃ r z,XcS p m picks f s run0=(z,run0++r)∧RunM p m s r z∧JG p m z=[]
 | 0,s,run0,hr,h=>by
   have he:JG p m s=[]:=by
     cases hq:JG p m s with
     | nil=>rfl
     | cons k r=>have:=(XiQ hr (x:=k) (by rw [hq];simp)).nu;omega
   exact ⟨[],s,by rw [XbD he];simp,rfl,he⟩
 | f+1,s,run0,hr,h=>by
   by_cases he:JG p m s=[]
   · exact ⟨[],s,by rw [XbD he];simp,rfl,he⟩
   · have hmem:=XfK (picks:=picks) (n:=run0.length) he
     have hw:=XiQ hr hmem
     have hnu:=hw.nu
     obtain ⟨r,z,h1,h2,h3⟩:=DE picks f (J5 p m s (XcU picks run0.length (JG p m s))) (run0++[XcU picks run0.length (JG p m s)]) hw.right (by omega)
     exact ⟨_ :: r,z,by rw [Xex he rfl,h1];simp,⟨hmem,h2⟩,h3⟩
theorem RunM.nu {p:Prg} {m:UInt8} {z:By}:∀ {r:List Pss} {s:By},RightM p m s→RunM p m s r z→r.length+nu p z≤nu p s
 | [],s,_,h=>by
   have h:z=s:=h
   subst h;simp
 | x :: r,s,hr,h=>by
   have hw:=XiQ hr h.1
   have:=RunM.nu hw.right h.2
   have:=hw.nu
   simp only [List.length_cons]
   omega
theorem RunM.right {p:Prg} {m:UInt8} {z:By}:∀ {r:List Pss} {s:By},RightM p m s→RunM p m s r z→RightM p m z
 | [],s,hr,h=>by
   have h:z=s:=h
   subst h;exact hr
 | x :: r,s,hr,h=>RunM.right (XiQ hr h.1).right h.2
theorem RunM.nil {p:Prg} {m:UInt8} {s z:By} (h:RunM p m s [] z):z=s:=h
-- BfM
open Go.RowKit
-- BfY
def QU (s:By) (t:Nat):List (UInt8 × UInt8):=(List.range (JA s t)).map fun i=>(JU s t i,Nm s t i)
def DL (l:List (UInt8 × UInt8)) (k:UInt8):List (UInt8 × UInt8):=l.filter fun x=>x.1 == k
theorem NC (s:By) (t:Nat):(QU s t).length=JA s t:=by simp [QU]
theorem Q7 (s:By) (t i:Nat):(QU s t)[i]? = if i < JA s t then some (JU s t i,Nm s t i) else none:=by
 unfold QU
 rw [List.getElem?_map]
 by_cases h:i < JA s t
 · rw [if_pos h,List.getElem?_range h];rfl
 · rw [if_neg h,List.getElem?_eq_none (by simpa using h)];rfl
theorem Xeb {s z:By} {t:Nat} (hm:JA z t=JA s t) (h12:JA s t≤12) (hb:∀ i,i < 12→JU z t i=JU s t i∧Nm z t i=Nm s t i):QU z t=QU s t:=by
 apply List.ext_getElem?
 intro i
 rw [Q7,Q7,hm]
 by_cases h:i < JA s t
 · rw [if_pos h,if_pos h,(hb i (by omega)).1,(hb i (by omega)).2]
 · rw [if_neg h,if_neg h]
theorem Mk (a b:List (UInt8 × UInt8)) (k:UInt8):DL (a++b) k=DL a k++DL b k:=List.filter_append ..
theorem XaD (x:UInt8 × UInt8) (k:UInt8):DL [x] k=if x.1=k then [x] else []:=by
 unfold DL
 by_cases h:x.1=k
 · rw [if_pos h,List.filter_cons_of_pos (by simpa using h)];rfl
 · rw [if_neg h,List.filter_cons_of_neg (by simpa using h)];rfl
theorem BB {l:List (UInt8 × UInt8)} {k:UInt8} (h:∀ (i:Nat) (x:UInt8 × UInt8),l[i]? = some x→x.1 ≠ k):DL l k=[]:=by
 unfold DL
 rw [List.filter_eq_nil_iff]
 intro x hx
 obtain ⟨i,hi⟩:=List.mem_iff_getElem?.1 hx
 simpa using h i x hi
theorem XgV {s st:By} {t a:Nat} (ha:a≤JA s t) (hn:JA s t≤11) (ht:t < 4):QU (Xbj s t a st) t=(QU s t).take a++(st 0,st 1) :: (QU s t).drop a:=by
 have hlt:((QU s t).take a).length=a:=by rw [List.length_take,NC];omega
 apply List.ext_getElem?
 intro i
 rw [Q7,LR ha hn]
 rcases Nat.lt_trichotomy i a with h | h | h
 · rw [if_pos (by omega),List.getElem?_append_left (by omega),List.getElem?_take_of_lt h,Q7,if_pos (by omega),Xbc ha hn ht (by omega),Xbb ha hn ht (by omega)]
   have f1:¬ i=a:=by omega
   have f2:¬ (a < i∧i≤JA s t):=by omega
   rw [if_neg f1,if_neg f1,if_neg f2,if_neg f2]
 · subst h
   rw [if_pos (by omega),List.getElem?_append_right (by omega),hlt,Nat.sub_self,Xbc ha hn ht (by omega),Xbb ha hn ht (by omega),if_pos rfl,if_pos rfl]
   rfl
 · rw [List.getElem?_append_right (by omega),hlt,show i - a=(i - a - 1)+1 by omega,List.getElem?_cons_succ,List.getElem?_drop,Q7]
   by_cases h2:i≤JA s t
   · have f1:¬ i=a:=by omega
     have f2:a < i∧i≤JA s t:=⟨h,h2⟩
     rw [if_pos (by omega),if_pos (by omega),Xbc ha hn ht (by omega),Xbb ha hn ht (by omega),if_neg f1,if_neg f1,if_pos f2,if_pos f2,show a+(i - a - 1)=i - 1 by omega]
   · rw [if_neg (by omega),if_neg (by omega)]
theorem XgU {s:By} {t a:Nat} (ha:a < JA s t) (hl:(JU s t a).toNat < 6) (hn:JA s t≤12) (ht:t < 4):QU (Qy s t a) t=(QU s t).take a++(QU s t).drop (a+1):=by
 have hlt:((QU s t).take a).length=a:=by rw [List.length_take,NC];omega
 apply List.ext_getElem?
 intro i
 rw [Q7,ML ha hl]
 rcases Nat.lt_or_ge i a with h | h
 · rw [if_pos (by omega),List.getElem?_append_left (by omega),List.getElem?_take_of_lt h,Q7,if_pos (by omega),EZ ha hl hn ht (by omega),EY ha hl hn ht (by omega)]
   have f1:¬ i+1=JA s t:=by omega
   have f2:¬ (a≤i∧i+1 < JA s t):=by omega
   rw [if_neg f1,if_neg f1,if_neg f2,if_neg f2]
 · rw [List.getElem?_append_right (by omega),hlt,List.getElem?_drop,Q7,show a+1+(i - a)=i+1 by omega]
   by_cases h2:i+1 < JA s t
   · have f1:¬ i+1=JA s t:=by omega
     have f2:a≤i∧i+1 < JA s t:=⟨h,h2⟩
     rw [if_pos (by omega),if_pos (by omega),EZ ha hl hn ht (by omega),EY ha hl hn ht (by omega),if_neg f1,if_neg f1,if_pos f2,if_pos f2]
   · rw [if_neg (by omega),if_neg (by omega)]
section
variable {p:Prg} {m:UInt8} {s:By} {t:Nat} {l:List Ins} {x:Ins}
theorem ExecOf.perAdd (h:ExecOf p m s t l x) (hb:Qz m x) (k:UInt8):DL (QU (Ql m x s t) t) k=DL (QU s t) k++if x.loc=k then [(x.loc,Ns x (cut s (t * 9)))] else []:=by
 have hn:=h.room
 have ht:=h.t4
 have ha:=NP (m:=m) (s:=s) (t:=t) (loc:=x.loc) (JA s t)
 obtain ⟨a1,a2,a3⟩:=LS (m:=m) (s:=s) (t:=t) (loc:=x.loc) (JA s t)
 obtain ⟨h1,h2⟩:=h.adds hb t
 have hmany:JA (Ce m s t (stP x.loc (Ns x (cut s (t * 9))))) t=JA s t+1:=LR ha hn
 have e:QU (Ql m x s t) t=QU (Ce m s t (stP x.loc (Ns x (cut s (t * 9))))) t:=Xeb h1 (by omega) (fun i _=>h2 i)
 rw [e]
 show DL (QU (Xbj s t (Mn m s t x.loc (JA s t)) (stP x.loc (Ns x (cut s (t * 9))))) t) k=_
 generalize Mn m s t x.loc (JA s t)=a at ha a1 a2 a3
 rw [XgV ha hn ht]
 show DL ((QU s t).take a++([(x.loc,Ns x (cut s (t * 9)))]++(QU s t).drop a)) k=_
 rw [Mk,Mk,XaD]
 conv=>rhs;rw [← List.take_append_drop a (QU s t),Mk]
 by_cases hk:x.loc=k
 · rw [if_pos hk]
   have hd:DL ((QU s t).drop a) k=[]:=BB fun i y hy=>by
     rw [List.getElem?_drop,Q7] at hy
     split at hy
     · rename_i hlt
       cases hy
       intro hk2
       have hk2:JU s t (a+i)=k:=hk2
       by_cases h3:m=3
       · have:=a1 h3 (a+i) (by omega) hlt
         rw [hk2,hk] at this
         omega
       · have:=a3 h3
         omega
     · cases hy
   rw [hd];simp
 · rw [if_neg hk];simp
theorem ExecOf.bufAdd (h:ExecOf p m s t l x) (hb:Qz m x) (hm:m ≠ 3):QU (Ql m x s t) t=QU s t++[(x.loc,Ns x (cut s (t * 9)))]:=by
 have hn:=h.room
 have ht:=h.t4
 have ha:=NP (m:=m) (s:=s) (t:=t) (loc:=x.loc) (JA s t)
 obtain ⟨a1,a2,a3⟩:=LS (m:=m) (s:=s) (t:=t) (loc:=x.loc) (JA s t)
 obtain ⟨h1,h2⟩:=h.adds hb t
 have hmany:JA (Ce m s t (stP x.loc (Ns x (cut s (t * 9))))) t=JA s t+1:=LR ha hn
 have e:QU (Ql m x s t) t=QU (Ce m s t (stP x.loc (Ns x (cut s (t * 9))))) t:=Xeb h1 (by omega) (fun i _=>h2 i)
 rw [e]
 show QU (Xbj s t (Mn m s t x.loc (JA s t)) (stP x.loc (Ns x (cut s (t * 9))))) t=_
 rw [a3 hm,XgV (Nat.le_refl _) hn ht,List.take_of_length_le (by rw [NC];exact Nat.le_refl _),List.drop_eq_nil_of_le (by rw [NC];exact Nat.le_refl _)]
 rfl
end
section
variable {p:Prg} {m:UInt8} {s:By} {t a:Nat}
theorem DrainOf.bufOwn (h:DrainOf p m s t a):QU (Qy s t a) t=(QU s t).take a++(QU s t).drop (a+1):=XgU h.lt h.loc6 h.n12 h.t4
theorem DrainOf.before (h:DrainOf p m s t a) {k:UInt8} (hk:JU s t a=k):DL ((QU s t).take a) k=[]:=BB fun i y hy=>by
 rcases Nat.lt_or_ge i a with hi | hi
 · rw [List.getElem?_take_of_lt hi,Q7] at hy
   split at hy
   · cases hy
     intro hk2
     have hk2:JU s t i=k:=hk2
     exact (h.fst i hi).2 (hk2.trans hk.symm)
   · cases hy
 · rw [List.getElem?_eq_none (by rw [List.length_take];omega)] at hy;cases hy
end
-- RnP
structure Fnd where
 list:List By
 links:List (Int × Pss)
 ends:List Nat
def Xbi (l:List By) (z:By):Bool:=l.any fun y=>same 142 z y
def Qd (p:Prg) (m:UInt8) (most k:Nat) (s:By):List Pss→List By→List (Int × Pss)→Option (List By × List (Int × Pss))
 | [],l,q=>some (l,q)
 | x :: r,l,q=>if Xbi l (J5 p m s x)=true then Qd p m most k s r l q
   else if most≤l.length then none else Qd p m most k s r (l++[J5 p m s x]) (q++[((k:Int),x)])
def Qa (p:Prg) (m:UInt8) (most:Nat):Nat→Nat→Fnd→Option Fnd
 | 0,_,a=>some a
 | f+1,k,a=>match a.list[k]? with
   | none=>some a
   | some s=>match Qd p m most k s (JG p m s) a.list a.links with
     | none=>none
     | some (l,q)=>Qa p m most f (k+1) ⟨l,q,if JG p m s=[] then a.ends++[k] else a.ends⟩
def EW (p:Prg):Fnd:=⟨[Qr p],[(-1,⟨0,false,0⟩)],[]⟩
def QX (p:Prg) (m:UInt8) (most:Nat):Option Fnd:=Qa p m most (most+1) 0 (EW p)
def Xin (s:By):Prop:=∀ i,142≤i→s i=0
theorem Xap {s z:By} (hs:Xin s) (hz:Xin z):same 142 s z=true ↔ s=z:=by
 rw [same_iff]
 constructor
 · intro h
   funext i
   rcases Nat.lt_or_ge i 142 with hi | hi
   · exact h i hi
   · rw [hs i hi,hz i hi]
 · rintro rfl
   exact fun _ _=>rfl
theorem XhS {l:List By} {z:By} (hl:∀ y ∈ l,Xin y) (hz:Xin z):Xbi l z=true ↔ z ∈ l:=by
 unfold Xbi
 rw [List.any_eq_true]
 constructor
 · rintro ⟨y,hy,h⟩
   rw [(Xap hz (hl y hy)).1 h];exact hy
 · exact fun h=>⟨z,h,(Xap hz hz).2 rfl⟩
theorem Xen {p:Prg} (h:JH p=0):Xin (Qr p):=fun i hi=>by rw [Xaq h,if_neg (by have:=(valid h).locs6;omega)]
theorem Went.tidy {p:Prg} {m:UInt8} {s z:By} {x:Pss} (h:Went p m s x z) (hs:Xin s):Xin z:=by
 cases h with
 | @exec t l i hE _=>
   intro k hk
   have ht:=hE.t4
   rw [hE.high (by omega)]
   split
   · show Xbj s t (Mn m s t i.loc (JA s t)) _ k=0
     have hn:=hE.room
     have ha:=NP (m:=m) (s:=s) (t:=t) (loc:=i.loc) (JA s t)
     rw [Lh s t _ _ ha,if_neg (by omega),if_neg (by omega),if_neg (by omega)]
     exact hs k hk
   · exact hs k hk
 | @drain t i hD hi he=>
   intro k hk
   generalize L1 m s t (JM m s t i).l=a at hD he
   have ht:=hD.t4
   have hl:=hD.loc6
   have hn:=hD.n12
   have hlt:=hD.lt
   rw [No s t a hlt,if_neg (by omega),if_neg (by omega),if_neg (by omega),if_neg (by omega)]
   exact hs k hk
structure Fine (p:Prg) (m:UInt8) (s:By):Prop where
 r:RightM p m s
 t:Xin s
theorem Fine.step {p:Prg} {m:UInt8} {s:By} {x:Pss} (h:Fine p m s) (hx:x ∈ JG p m s):Fine p m (J5 p m s x):=⟨(XiQ h.r hx).right,(XiQ h.r hx).tidy h.t⟩
theorem C5 {p:Prg} {m:UInt8} (h:JH p=0) (hm:QS m=true):Fine p m (Qr p):=⟨(Xbq h hm).1,Xen h⟩
structure FndI (p:Prg) (m:UInt8) (most k:Nat) (a:Fnd):Prop where
 fine:∀ s ∈ a.list,Fine p m s
 nodup:a.list.Nodup
 many:a.list.length≤most
 kle:k≤a.list.length
 len:a.links.length=a.list.length
 head:a.list[0]? = some (Qr p)
 head2:a.links[0]? = some (-1,⟨0,false,0⟩)
 link:∀ (j:Nat) (f:Int) (x:Pss),0 < j→a.links[j]? = some (f,x)→∃ i:Nat,f=(i:Int)∧i < j∧i < k∧∃ s,a.list[i]? = some s∧x ∈ JG p m s∧a.list[j]? = some (J5 p m s x)
 mono:∀ (i j:Nat) (f g:Int) (x y:Pss),i≤j→a.links[i]? = some (f,x)→a.links[j]? = some (g,y)→f≤g
 next:∀ (i:Nat) (s:By) (x:Pss),i < k→a.list[i]? = some s→x ∈ JG p m s→∃ j:Nat,a.list[j]? = some (J5 p m s x)∧(0 < j→∃ (f:Int) (y:Pss),a.links[j]? = some (f,y)∧f≤(i:Int))
 ends:a.ends=(List.range k).filter fun i=>match a.list[i]? with | some s=>(JG p m s).isEmpty | none=>false
theorem BM {p:Prg} {m:UInt8} {most:Nat} (h:JH p=0) (hm:QS m=true) (h1:1≤most):FndI p m most 0 (EW p) where
 fine:=fun s hs=>by
   simp only [EW,List.mem_singleton] at hs
   subst hs;exact C5 h hm
 nodup:=by simp [EW]
 many:=h1
 kle:=Nat.zero_le _
 len:=rfl
 head:=rfl
 head2:=rfl
 link:=fun j f x hj h=>by
   obtain ⟨j,rfl⟩:∃ i,j=i+1:=⟨j - 1,by omega⟩
   simp [EW] at h
 mono:=fun i j f g x y hij hi hj=>by
   have h1:=(List.getElem?_eq_some_iff.1 hj).1
   simp only [EW,List.length_singleton] at h1
   obtain rfl:j=0:=by omega
   obtain rfl:i=0:=by omega
   rw [hi] at hj;cases hj;exact Int.le_refl _
 next:=fun i s x hi=>absurd hi (by omega)
 ends:=rfl
structure VisI (p:Prg) (m:UInt8) (most k:Nat) (s:By) (l0:List By) (dn:List Pss) (l:List By) (q:List (Int × Pss)):Prop where
 fine:∀ s ∈ l,Fine p m s
 nodup:l.Nodup
 many:l.length≤most
 len:q.length=l.length
 old:∃ r,l=l0++r
 here:l[k]? = some s
 head:l[0]? = some (Qr p)
 head2:q[0]? = some (-1,⟨0,false,0⟩)
 link:∀ (j:Nat) (f:Int) (x:Pss),0 < j→q[j]? = some (f,x)→∃ i:Nat,f=(i:Int)∧i < j∧i < k+1∧∃ s,l[i]? = some s∧x ∈ JG p m s∧l[j]? = some (J5 p m s x)
 mono:∀ (i j:Nat) (f g:Int) (x y:Pss),i≤j→q[i]? = some (f,x)→q[j]? = some (g,y)→f≤g
 next:∀ (i:Nat) (s:By) (x:Pss),i < k→l[i]? = some s→x ∈ JG p m s→∃ j:Nat,l[j]? = some (J5 p m s x)∧(0 < j→∃ (f:Int) (y:Pss),q[j]? = some (f,y)∧f≤(i:Int))
 now:∀ x ∈ dn,∃ j:Nat,l[j]? = some (J5 p m s x)∧(0 < j→∃ (f:Int) (y:Pss),q[j]? = some (f,y)∧f≤(k:Int))
theorem VisI.low {p:Prg} {m:UInt8} {most k:Nat} {s:By} {l0:List By} {dn:List Pss} {l:List By} {q:List (Int × Pss)} (h:VisI p m most k s l0 dn l q) {j:Nat} {f:Int} {x:Pss} (hj:q[j]? = some (f,x)):f≤(k:Int):=by
 rcases Nat.eq_zero_or_pos j with e | e
 · subst e
   rw [h.head2] at hj;cases hj;omega
 · obtain ⟨i,rfl,_,hi,_⟩:=h.link j f x e hj
   omega
theorem VisI.old_at {p:Prg} {m:UInt8} {most k:Nat} {s:By} {l0:List By} {dn:List Pss} {l:List By} {q:List (Int × Pss)} (h:VisI p m most k s l0 dn l q) {i:Nat} (hi:i < l0.length):l[i]? = l0[i]?:=by
 obtain ⟨r,rfl⟩:=h.old
 exact List.getElem?_append_left hi
theorem EC {p:Prg} {m:UInt8} {most k:Nat} {s:By} {l0:List By}:∀ (r dn:List Pss) (l:List By) (q:List (Int × Pss)) (l':List By) (q':List (Int × Pss)),VisI p m most k s l0 dn l q→(∀ x ∈ r,x ∈ JG p m s)→Qd p m most k s r l q=some (l',q')→VisI p m most k s l0 (dn++r) l' q'
 | [],dn,l,q,l',q',h,_,e=>by
   simp only [Qd,Option.some.injEq,Prod.mk.injEq] at e
   obtain ⟨rfl,rfl⟩:=e
   rw [List.append_nil];exact h
 | x :: r,dn,l,q,l',q',h,hr,e=>by
   have hx:=hr x (by simp)
   have hs:Fine p m s:=h.fine s (List.mem_of_getElem? h.here)
   have hz:=hs.step hx
   have hin:=XhS (fun y hy=>(h.fine y hy).t) hz.t
   have key:VisI p m most k s l0 (dn++[x]) l' q'→VisI p m most k s l0 (dn++x :: r) l' q'→VisI p m most k s l0 (dn++x :: r) l' q':=fun _ h=>h
   rw [Qd] at e
   rw [show dn++x :: r=(dn++[x])++r by simp]
   by_cases hc:Xbi l (J5 p m s x)=true
   · rw [if_pos hc] at e
     refine EC r (dn++[x]) l q l' q' { h with now:=fun y hy=>?_ } (fun y hy=>hr y (by simp [hy])) e
     rcases List.mem_append.1 hy with h1 | h1
     · exact h.now y h1
     · obtain rfl:y=x:=by simpa using h1
       obtain ⟨j,hj⟩:=List.mem_iff_getElem?.1 (hin.1 hc)
       refine ⟨j,hj,fun hj0=>?_⟩
       obtain ⟨⟨f,z⟩,hf⟩:∃ f,q[j]? = some f:=⟨_,List.getElem?_eq_getElem (by rw [h.len];exact (List.getElem?_eq_some_iff.1 hj).1)⟩
       exact ⟨f,z,hf,h.low hf⟩
   · rw [if_neg hc] at e
     by_cases hm:most≤l.length
     · rw [if_pos hm] at e;cases e
     · rw [if_neg hm] at e
       have hkl:k < l.length:=(List.getElem?_eq_some_iff.1 h.here).1
       have hl:∀ i,i < l.length→(l++[J5 p m s x])[i]? = l[i]?:=fun i hi=>List.getElem?_append_left hi
       have hq:∀ i,i < l.length→(q++[((k:Int),x)])[i]? = q[i]?:=fun i hi=>List.getElem?_append_left (by rw [h.len];exact hi)
       have hqn:(q++[((k:Int),x)])[l.length]? = some ((k:Int),x):=by rw [← h.len,List.getElem?_append_right (Nat.le_refl _)];simp
       have hln:(l++[J5 p m s x])[l.length]? = some (J5 p m s x):=by rw [List.getElem?_append_right (Nat.le_refl _)];simp
       have up:∀ {z:By},(∃ j,l[j]? = some z∧(0 < j→∃ (f:Int) (y:Pss),q[j]? = some (f,y)∧f≤(k:Int)))→∃ j,(l++[J5 p m s x])[j]? = some z∧(0 < j→∃ (f:Int) (y:Pss),(q++[((k:Int),x)])[j]? = some (f,y)∧f≤(k:Int)):=by
         rintro z ⟨j,h1,h2⟩
         have hjl:=(List.getElem?_eq_some_iff.1 h1).1
         exact ⟨j,by rw [hl j hjl];exact h1,by rw [hq j hjl];exact h2⟩
       refine EC r (dn++[x]) _ _ l' q' ?_ (fun y hy=>hr y (by simp [hy])) e
       refine ⟨fun y hy=>?_,?_,by simp;omega,by simp [h.len],?_,by rw [hl k hkl];exact h.here,by rw [hl 0 (by omega)];exact h.head,by rw [hq 0 (by omega)];exact h.head2,fun j f y hj0 hj=>?_,fun i j f g y z hij hi hj=>?_,fun i y z hi hy hz=>?_,fun y hy=>?_⟩
       · rcases List.mem_append.1 hy with h1 | h1
         · exact h.fine y h1
         · obtain rfl:y=J5 p m s x:=by simpa using h1
           exact hz
       · rw [List.nodup_append]
         refine ⟨h.nodup,by simp,fun a ha b hb=>?_⟩
         obtain rfl:b=J5 p m s x:=by simpa using hb
         rintro rfl
         exact hc (hin.2 ha)
       · obtain ⟨r0,rfl⟩:=h.old
         exact ⟨r0++[J5 p m s x],by simp⟩
       · rcases Nat.lt_or_ge j l.length with h1 | h1
         · rw [hq j h1] at hj
           obtain ⟨i,e1,e2,e3,z,e4,e5,e6⟩:=h.link j f y hj0 hj
           exact ⟨i,e1,e2,e3,z,by rw [hl i (by omega)];exact e4,e5,by rw [hl j h1];exact e6⟩
         · have h2:=(List.getElem?_eq_some_iff.1 hj).1
           simp only [List.length_append,List.length_singleton,h.len] at h2
           obtain rfl:j=l.length:=by omega
           rw [hqn] at hj
           cases hj
           exact ⟨k,rfl,by omega,by omega,s,by rw [hl k hkl];exact h.here,hx,hln⟩
       · rcases Nat.lt_or_ge j l.length with h1 | h1
         · rw [hq j h1] at hj
           rw [hq i (by omega)] at hi
           exact h.mono i j f g y z hij hi hj
         · have h2:=(List.getElem?_eq_some_iff.1 hj).1
           simp only [List.length_append,List.length_singleton,h.len] at h2
           obtain rfl:j=l.length:=by omega
           rw [hqn] at hj
           cases hj
           rcases Nat.lt_or_ge i l.length with h3 | h3
           · rw [hq i h3] at hi
             exact h.low hi
           · obtain rfl:i=l.length:=by omega
             rw [hqn] at hi;cases hi;exact Int.le_refl _
       · rw [hl i (by omega)] at hy
         obtain ⟨j,e1,e2⟩:=h.next i y z hi hy hz
         have hjl:=(List.getElem?_eq_some_iff.1 e1).1
         exact ⟨j,by rw [hl j hjl];exact e1,by rw [hq j hjl];exact e2⟩
       · rcases List.mem_append.1 hy with h1 | h1
         · exact up (h.now y h1)
         · obtain rfl:y=x:=by simpa using h1
           exact ⟨l.length,hln,fun _=>⟨k,y,hqn,Int.le_refl _⟩⟩
theorem Bk {p:Prg} {m:UInt8} {most k:Nat} {a:Fnd} {s:By} (h:FndI p m most k a) (hs:a.list[k]? = some s):VisI p m most k s a.list [] a.list a.links:=
 ⟨h.fine,h.nodup,h.many,h.len,⟨[],by simp⟩,hs,h.head,h.head2,fun j f x h1 h2=>by
   obtain ⟨i,e1,e2,e3,e4⟩:=h.link j f x h1 h2
   exact ⟨i,e1,e2,by omega,e4⟩,h.mono,h.next,fun x hx=>by cases hx⟩
theorem Xir {p:Prg} {m:UInt8} {most k:Nat} {s:By} {l0:List By} {dn:List Pss} {l:List By} {q:List (Int × Pss)} {x:Pss} (h:VisI p m most k s l0 dn l q) (hx:x ∈ JG p m s) (hc:Xbi l (J5 p m s x)=true):VisI p m most k s l0 (dn++[x]) l q:=
 EC [x] dn l q l q h (fun y hy=>by simp at hy;subst hy;exact hx) (by rw [Qd,if_pos hc];rfl)
theorem Xfc {p:Prg} {m:UInt8} {most k:Nat} {s:By} {l0:List By} {dn:List Pss} {l:List By} {q:List (Int × Pss)} {x:Pss} (h:VisI p m most k s l0 dn l q) (hx:x ∈ JG p m s) (hc:Xbi l (J5 p m s x)=false) (hm:l.length < most):VisI p m most k s l0 (dn++[x]) (l++[J5 p m s x]) (q++[((k:Int),x)]):=
 EC [x] dn l q _ _ h (fun y hy=>by simp at hy;subst hy;exact hx) (by rw [Qd,if_neg (by rw [hc];simp),if_neg (by omega)];rfl)
theorem Ea {p:Prg} {m:UInt8} {most k:Nat} {a:Fnd} {s:By} {l:List By} {q:List (Int × Pss)} (h:FndI p m most k a) (hs:a.list[k]? = some s) (e:Qd p m most k s (JG p m s) a.list a.links=some (l,q)) :
   FndI p m most (k+1) ⟨l,q,if JG p m s=[] then a.ends++[k] else a.ends⟩:=by
 have hkl:=(List.getElem?_eq_some_iff.1 hs).1
 have h0:=Bk h hs
 have h1:=EC _ _ _ _ _ _ h0 (fun x hx=>hx) e
 rw [List.nil_append] at h1
 have hlen:k+1≤l.length:=(List.getElem?_eq_some_iff.1 h1.here).1
 refine ⟨h1.fine,h1.nodup,h1.many,hlen,h1.len,h1.head,h1.head2,h1.link,h1.mono,fun i y x hi hy hx=>?_,?_⟩
 · rcases Nat.lt_or_ge i k with h2 | h2
   · exact h1.next i y x h2 hy hx
   · obtain rfl:i=k:=by omega
     have hy:l[i]? = some y:=hy
     rw [h1.here] at hy;cases hy
     exact h1.now x hx
 · show (if JG p m s=[] then a.ends++[k] else a.ends)=(List.range (k+1)).filter fun i=>match l[i]? with | some s=>(JG p m s).isEmpty | none=>false
   rw [List.range_succ,List.filter_append]
   have h2:((List.range k).filter fun i=>match l[i]? with | some s=>(JG p m s).isEmpty | none=>false)=a.ends:=by
     rw [h.ends]
     apply List.filter_congr
     intro i hi
     rw [h1.old_at (by have:=List.mem_range.1 hi;omega)]
   rw [h2]
   have h3:(List.filter (fun i=>match l[i]? with | some s=>(JG p m s).isEmpty | none=>false) [k])=if (JG p m s).isEmpty=true then [k] else []:=by
     rw [List.filter_cons,h1.here]
     rfl
   rw [h3]
   by_cases hm:JG p m s=[]
   · rw [if_pos hm,hm];rfl
   · rw [if_neg hm,if_neg (by simpa using hm),List.append_nil]
theorem Xbu {p:Prg} {m:UInt8} {most:Nat}:∀ (f k:Nat) (a b:Fnd),FndI p m most k a→most≤k+f→Qa p m most f k a=some b→FndI p m most b.list.length b
 | 0,k,a,b,h,hf,e=>by
   simp only [Qa,Option.some.injEq] at e
   subst e
   have:=h.kle
   have:=h.many
   obtain e:k=a.list.length:=by omega
   rw [← e];exact h
 | f+1,k,a,b,h,hf,e=>by
   rw [Qa] at e
   cases hk:a.list[k]? with
   | none=>
     rw [hk] at e
     simp only [Option.some.injEq] at e
     subst e
     have:=h.kle
     have:¬ k < a.list.length:=fun hh=>by rw [List.getElem?_eq_getElem hh] at hk;cases hk
     obtain e:k=a.list.length:=by omega
     rw [← e];exact h
   | some s=>
     rw [hk] at e
     cases hv:Qd p m most k s (JG p m s) a.list a.links with
     | none=>simp only [hv] at e;cases e
     | some lq=>
       obtain ⟨l,q⟩:=lq
       simp only [hv] at e
       exact Xbu f (k+1) _ b (Ea h hk hv) (by omega) e
theorem D4 {p:Prg} {m:UInt8} {most:Nat} {b:Fnd} (h:JH p=0) (hm:QS m=true) (h1:1≤most) (e:QX p m most=some b):FndI p m most b.list.length b:=
 Xbu (most+1) 0 _ b (BM h hm h1) (by omega) e
theorem Xbw {p:Prg} {m:UInt8} {most f k:Nat} {a:Fnd} {s:By} {l:List By} {q:List (Int × Pss)} (hs:a.list[k]? = some s) (hv:Qd p m most k s (JG p m s) a.list a.links=some (l,q)):Qa p m most (f+1) k a=Qa p m most f (k+1) ⟨l,q,if JG p m s=[] then a.ends++[k] else a.ends⟩:=by
 rw [Qa,hs]
 simp only [hv]
theorem Xbv {p:Prg} {m:UInt8} {most f k:Nat} {a:Fnd} {s:By} (hs:a.list[k]? = some s) (hv:Qd p m most k s (JG p m s) a.list a.links=none):Qa p m most (f+1) k a=none:=by
 rw [Qa,hs]
 simp only [hv]
theorem CI {p:Prg} {m:UInt8} {most k:Nat} {a:Fnd} (hs:a.list.length≤k):∀ f,Qa p m most f k a=some a
 | 0=>rfl
 | f+1=>by rw [Qa,List.getElem?_eq_none hs]
theorem Xbm {p:Prg} {m:UInt8} {most k:Nat} {s:By} {x:Pss} {r:List Pss} {l:List By} {q:List (Int × Pss)} (hc:Xbi l (J5 p m s x)=true):Qd p m most k s (x :: r) l q=Qd p m most k s r l q:=by rw [Qd,if_pos hc]
theorem Cq {p:Prg} {m:UInt8} {most k:Nat} {s:By} {x:Pss} {r:List Pss} {l:List By} {q:List (Int × Pss)} (hc:Xbi l (J5 p m s x)=false) (hm:l.length < most):Qd p m most k s (x :: r) l q=Qd p m most k s r (l++[J5 p m s x]) (q++[((k:Int),x)]):=by rw [Qd,if_neg (by rw [hc];simp),if_neg (by omega)]
theorem Bi {p:Prg} {m:UInt8} {most k:Nat} {s:By} {x:Pss} {r:List Pss} {l:List By} {q:List (Int × Pss)} (hc:Xbi l (J5 p m s x)=false) (hm:most≤l.length):Qd p m most k s (x :: r) l q=none:=by rw [Qd,if_neg (by rw [hc];simp),if_pos hm]
-- RsA
def stL (l:List (UInt8 × UInt8)):By:=fun i=>match l[i / 2]? with
 | some x=>if i % 2=0 then x.1 else x.2
 | none=>0
def Xbl (s:By) (t:Nat) (l:List (UInt8 × UInt8)):By:=put (lay s (42+t * 24) 24 (stL l)) (138+t) (UInt8.ofNat l.length)
theorem XdE {s z:By} {t:Nat} (ht:t < 4) (h:∀ i,(i < 42+t * 24∨42+t * 24+24≤i)→i ≠ 138+t→z i=s i) (hm:JA z t≤12) (hz:∀ j,JA z t≤j→j < 12→JU z t j=0∧Nm z t j=0):Xbl s t (QU z t)=z:=by
 funext i
 unfold Xbl put
 by_cases h1:i=138+t
 · rw [if_pos h1,NC,h1]
   unfold JA
   exact UInt8.ofNat_toNat
 · rw [if_neg h1]
   unfold lay
   by_cases h2:42+t * 24≤i∧i < 42+t * 24+24
   · rw [if_pos h2]
     unfold stL
     rw [Q7]
     have e1:i=42+t * 24+(i - (42+t * 24)) / 2 * 2+(i - (42+t * 24)) % 2:=by omega
     generalize hj:(i - (42+t * 24)) / 2=j at e1
     generalize hr:(i - (42+t * 24)) % 2=r at e1
     have hj12:j < 12:=by omega
     have hr2:r=0∨r=1:=by omega
     by_cases h3:j < JA z t
     · rw [if_pos h3]
       rcases hr2 with e | e <;> subst e
       · show (if (0:Nat)=0 then JU z t j else Nm z t j)=z i
         rw [if_pos rfl,e1];rfl
       · show (if (1:Nat)=0 then JU z t j else Nm z t j)=z i
         rw [if_neg (by omega),e1];rfl
     · rw [if_neg h3]
       have h4:=hz j (by omega) hj12
       rcases hr2 with e | e <;> subst e
       · show (0:UInt8)=z i
         rw [e1];exact h4.1.symm
       · show (0:UInt8)=z i
         rw [e1];exact h4.2.symm
   · rw [if_neg h2]
     exact (h i (by omega) h1).symm
theorem RightM.zeros {p:Prg} {m:UInt8} {s:By} (h:RightM p m s) {t:Nat} (ht:t < 4):∀ j,JA s t≤j→j < 12→JU s t j=0∧Nm s t j=0:=fun j hj h12=>by
 have h1:=h.slot ht h12
 unfold Qo at h1
 rw [if_pos hj,Bool.and_eq_true] at h1
 exact ⟨eq_of_beq h1.1,eq_of_beq h1.2⟩
theorem RightM.rise {p:Prg} {s:By} (h:RightM p 3 s) {t:Nat} (ht:t < 4):∀ (i j:Nat),i≤j→j < JA s t→(JU s t i).toNat≤(JU s t j).toNat:=by
 intro i j hij
 induction hij with
 | refl=>exact fun _=>Nat.le_refl _
 | @step j hj ih=>
   intro hm
   refine Nat.le_trans (ih (by omega)) ?_
   have h12:=(h.many ht).1
   have h1:=h.slot ht (show j+1 < 12 by omega)
   unfold Qo at h1
   rw [if_neg (by omega),Bool.and_eq_true] at h1
   have h2:=h1.2
   simp only [beq_self_eq_true,Bool.true_and,Nat.succ_pos,decide_true,Bool.not_eq_true',decide_eq_false_iff_not,Nat.add_sub_cancel,Nat.succ_eq_add_one] at h2
   exact Nat.le_of_not_lt fun hh=>h2 (UInt8.lt_iff_toNat_lt.2 hh)
def N5 (l:List (UInt8 × UInt8)):Nat→List (UInt8 × UInt8)
 | 0=>[]
 | n+1=>N5 l n++DL l (UInt8.ofNat n)
theorem CG {l q:List (UInt8 × UInt8)} (h:∀ k,DL l k=DL q k):∀ n,N5 l n=N5 q n
 | 0=>rfl
 | n+1=>by rw [N5,N5,CG h n,h]
theorem EF {l:List (UInt8 × UInt8)}:∀ n,n≤256→(∀ x ∈ l,n≤x.1.toNat)→N5 l n=[]
 | 0,_,_=>rfl
 | n+1,hn,h=>by
   rw [N5,EF n (by omega) (fun x hx=>by have:=h x hx;omega),List.nil_append]
   refine BB fun i x hx e=>?_
   have h1:=h x (List.mem_of_getElem? hx)
   rw [e,UInt8.toNat_ofNat'] at h1
   omega
theorem CF {x:UInt8 × UInt8} {l:List (UInt8 × UInt8)} (h:∀ y ∈ l,x.1.toNat≤y.1.toNat):∀ n,n≤256→x.1.toNat < n→N5 (x :: l) n=x :: N5 l n
 | 0,_,h0=>absurd h0 (by omega)
 | n+1,hn,hx=>by
   rw [N5,N5]
   by_cases e:x.1.toNat=n
   · have e2:x.1=UInt8.ofNat n:=by rw [← e];exact UInt8.ofNat_toNat.symm
     rw [EF n (by omega) (fun y hy=>(List.mem_cons.1 hy).elim (fun e=>by rw [e];omega) fun hy=>by have:=h y hy;omega),EF n (by omega) (fun y hy=>by have:=h y hy;omega),List.nil_append,List.nil_append]
     unfold DL
     rw [List.filter_cons_of_pos (by simpa using e2)]
   · have e2:¬ x.1=UInt8.ofNat n:=fun hh=>e (by rw [hh,UInt8.toNat_ofNat'];omega)
     rw [CF h n (by omega) (by omega),List.cons_append]
     congr 2
     unfold DL
     rw [List.filter_cons_of_neg (by simpa using e2)]
theorem CE:∀ {l:List (UInt8 × UInt8)},l.Pairwise (fun x y=>x.1.toNat≤y.1.toNat)→N5 l 256=l
 | [],_=>EF 256 (by omega) (fun _ h=>by cases h)
 | x :: l,h=>by
   rw [CF (List.pairwise_cons.1 h).1 256 (by omega) x.1.toNat_lt,CE (List.pairwise_cons.1 h).2]
theorem Xii {p:Prg} {s:By} (h:RightM p 3 s) {t:Nat} (ht:t < 4):(QU s t).Pairwise (fun x y=>x.1.toNat≤y.1.toNat):=by
 rw [List.pairwise_iff_getElem]
 intro i j hi hj hij
 have hj2:=hj
 rw [NC] at hj2
 have e1:(QU s t)[i]=(JU s t i,Nm s t i):=Option.some.inj ((List.getElem?_eq_getElem hi).symm.trans (by rw [Q7,if_pos (by omega)]))
 have e2:(QU s t)[j]=(JU s t j,Nm s t j):=Option.some.inj ((List.getElem?_eq_getElem hj).symm.trans (by rw [Q7,if_pos hj2]))
 rw [e1,e2]
 exact h.rise ht i j (by omega) hj2
theorem Xg4 {p:Prg} {m:UInt8} {s:By} {t:Nat} {l:List Ins} {x:Ins} {n:Nat} (hn:n=256) (h:ExecOf p m s t l x) (hb:Qz m x) :
   (if m=3 then N5 (QU s t++[(x.loc,Ns x (cut s (t * 9)))]) n else QU s t++[(x.loc,Ns x (cut s (t * 9)))])=QU (Ql m x s t) t:=by
 by_cases h3:m=3
 · rw [if_pos h3]
   have h4:=h.right
   rw [h3] at h4;subst h3;rw [hn,← CE (Xii h4 h.t4)]
   exact CG (fun k=>by rw [h.perAdd hb,Mk,XaD]) 256
 · rw [if_neg h3,h.bufAdd hb h3]
theorem XjI {p:Prg} {m:UInt8} {s:By} {t:Nat} {l:List Ins} {x:Ins} {n:Nat} (hn:n=256) (h:ExecOf p m s t l x) (hb:Qz m x) :
   put (Xbl s t (if m=3 then N5 (QU s t++[(x.loc,Ns x (cut s (t * 9)))]) n else QU s t++[(x.loc,Ns x (cut s (t * 9)))])) (t * 9) (s (t * 9)+1)=Ql m x s t:=by
 have ht:=h.t4
 have hz:=h.right
 have ho:x.op=2:=hb.1
 have h1:¬ m=1:=hb.2
 have hq:=Xg4 hn h hb
 rw [hq]
 have e:Xbl (put s (t * 9) (s (t * 9)+1)) t (QU (Ql m x s t) t)=Ql m x s t:=by
   refine XdE ht (fun i hi hne=>?_) (hz.many ht).1 (hz.zeros ht)
   unfold Ql
   rw [if_neg (by rw [ho];decide),if_pos ho,if_neg h1]
   have ha:=NP (m:=m) (s:=s) (t:=t) (loc:=(stP x.loc (Ns x (cut s (t * 9)))) 0) (JA s t)
   have hn:=h.room
   unfold lay put
   by_cases hj:t * 9≤i∧i < t * 9+9
   · rw [if_pos hj]
     by_cases hj2:i=t * 9
     · rw [if_pos hj2,if_pos (by omega)]
     · rw [if_neg hj2,if_neg (by omega)]
       unfold cut
       congr 1
       omega
   · rw [if_neg hj,if_neg (by omega)]
     unfold Ce
     rw [Lh s t _ _ ha,if_neg hne,if_neg (by omega),if_neg (by omega)]
 refine Eq.trans ?_ e
 generalize QU (Ql m x s t) t=B
 funext i
 unfold Xbl put lay
 by_cases h2:i=t * 9
 · rw [if_pos h2,if_neg (by omega),if_neg (by omega)]
   exact (if_pos h2).symm
 · rw [if_neg h2]
   by_cases h4:i=138+t
   · rw [if_pos h4,if_pos h4]
   · rw [if_neg h4,if_neg h4]
     by_cases h5:42+t * 24≤i∧i < 42+t * 24+24
     · rw [if_pos h5,if_pos h5]
     · rw [if_neg h5,if_neg h5]
       exact (if_neg h2).symm
theorem XgG {p:Prg} {m:UInt8} {s:By} {t a:Nat} (h:DrainOf p m s t a) :
   Xbl (put s (36+(JU s t a).toNat) (Nm s t a)) t ((QU s t).take a++(QU s t).drop (a+1))=Qy s t a:=by
 have ht:=h.t4
 have hl:=h.loc6
 have hz:=h.right
 rw [← h.bufOwn]
 refine XdE ht (fun i hi hne=>?_) (hz.many ht).1 (hz.zeros ht)
 have hlt:=h.lt
 have hn:=h.n12
 rw [No s t a hlt]
 unfold put
 by_cases h1:i=36+(JU s t a).toNat
 · rw [if_pos h1,if_pos h1]
 · rw [if_neg h1,if_neg h1,if_neg hne,if_neg (by omega),if_neg (by omega)]
theorem Xbn:∀ {l q:List Nat},l.Pairwise (· < ·)→q.Pairwise (· < ·)→(∀ x,x ∈ l ↔ x ∈ q)→l=q
 | [],[],_,_,_=>rfl
 | [],b :: q,_,_,h=>by have:=(h b).2 (by simp);cases this
 | a :: l,[],_,_,h=>by have:=(h a).1 (by simp);cases this
 | a :: l,b :: q,hl,hq,h=>by
   have h1:=List.pairwise_cons.1 hl
   have h2:=List.pairwise_cons.1 hq
   have e:a=b:=by
     rcases List.mem_cons.1 ((h a).1 (by simp)) with e | e
     · exact e
     · rcases List.mem_cons.1 ((h b).2 (by simp)) with e2 | e2
       · exact e2.symm
       · have:=h1.1 b e2
         have:=h2.1 a e
         omega
   subst e;rw [Xbn h1.2 h2.2 fun x=>?_]
   have h3:=h x
   constructor
   · intro hx
     rcases List.mem_cons.1 (h3.1 (List.mem_cons_of_mem _ hx)) with e | e
     · subst e
       have:=h1.1 x hx
       omega
     · exact e
   · intro hx
     rcases List.mem_cons.1 (h3.2 (List.mem_cons_of_mem _ hx)) with e | e
     · subst e
       have:=h2.1 x hx
       omega
     · exact e
def XiG (s:By) (t v:Nat):Bool:=(QU s t).any fun x=>x.1.toNat == v
def Xe3 (s:By) (t v:Nat):List Pss:=((List.range v).filter (XiG s t)).map fun u=>⟨UInt8.ofNat t,true,UInt8.ofNat u⟩
theorem Xf6 (s:By) (t v:Nat):Xe3 s t (v+1)=Xe3 s t v++if XiG s t v=true then [⟨UInt8.ofNat t,true,UInt8.ofNat v⟩] else []:=by
 unfold Xe3
 rw [List.range_succ,List.filter_append,List.map_append]
 congr 1
 by_cases h:XiG s t v=true
 · rw [if_pos h,List.filter_cons_of_pos h];rfl
 · rw [if_neg h,List.filter_cons_of_neg h];rfl
def upQ (s:By) (t:Nat):Nat→List Nat
 | 0=>[]
 | n+1=>if n=0∨JU s t n ≠ JU s t (n - 1) then upQ s t n++[(JU s t n).toNat] else upQ s t n
theorem Xal {s:By} {t:Nat} {v:Nat}:∀ n,v ∈ upQ s t n ↔ ∃ i,i < n∧(JU s t i).toNat=v
 | 0=>by simp [upQ]
 | n+1=>by
   rw [upQ]
   split
   · rw [List.mem_append,Xal n,List.mem_singleton]
     constructor
     · rintro (⟨i,h1,h2⟩ | h)
       · exact ⟨i,by omega,h2⟩
       · exact ⟨n,by omega,h.symm⟩
     · rintro ⟨i,h1,h2⟩
       rcases Nat.lt_or_ge i n with h | h
       · exact .inl ⟨i,h,h2⟩
       · obtain rfl:i=n:=by omega
         exact .inr h2.symm
   · rename_i hc
     rw [Xal n]
     constructor
     · rintro ⟨i,h1,h2⟩
       exact ⟨i,by omega,h2⟩
     · rintro ⟨i,h1,h2⟩
       rcases Nat.lt_or_ge i n with h | h
       · exact ⟨i,h,h2⟩
       · obtain rfl:i=n:=by omega
         have hc0:i ≠ 0:=fun e=>hc (.inl e)
         have hc1:JU s t i=JU s t (i - 1):=Decidable.byContradiction fun e=>hc (.inr e)
         exact ⟨i - 1,by omega,by rw [← hc1];exact h2⟩
theorem Xis {s:By} {t:Nat}:∀ n,(∀ (i j:Nat),i≤j→j < n→(JU s t i).toNat≤(JU s t j).toNat)→(upQ s t n).Pairwise (· < ·)
 | 0,_=>List.Pairwise.nil
 | n+1,h=>by
   have ih:=Xis n (fun i j hij hj=>h i j hij (by omega))
   rw [upQ]
   split
   · rename_i hc
     refine List.pairwise_append.2 ⟨ih,List.pairwise_singleton _ _,fun x hx y hy=>?_⟩
     rw [List.mem_singleton] at hy;subst hy
     obtain ⟨i,hi,rfl⟩:=(Xal n).1 hx
     have hn:n ≠ 0:=by omega
     have hne:JU s t n ≠ JU s t (n - 1):=hc.resolve_left hn
     have h1:=h i (n - 1) (by omega) (by omega)
     have h2:=h (n - 1) n (by omega) (by omega)
     have h3:(JU s t n).toNat ≠ (JU s t (n - 1)).toNat:=fun e=>hne (UInt8.toNat_inj.1 e)
     omega
   · exact ih
theorem Xac {s:By} {t:Nat}:∀ n,J0 3 s t n=(upQ s t n).map fun u=>⟨UInt8.ofNat t,true,UInt8.ofNat u⟩
 | 0=>rfl
 | n+1=>by
   rw [J0,upQ,Xac n]
   by_cases h:n=0∨JU s t n ≠ JU s t (n - 1)
   · rw [if_pos (h.imp id fun h=>⟨rfl,h⟩),if_pos h,List.map_append]
     unfold JM
     rw [if_pos rfl]
     simp
   · rw [if_neg (fun hh=>h (hh.imp id fun hh=>hh.2)),if_neg h]
theorem XhX {s:By} {t v:Nat}:XiG s t v=true ↔ ∃ i,i < JA s t∧(JU s t i).toNat=v:=by
 unfold XiG
 rw [List.any_eq_true]
 constructor
 · rintro ⟨x,hx,h⟩
   obtain ⟨i,hi⟩:=List.getElem?_of_mem hx
   rw [Q7] at hi
   split at hi
   · rename_i hlt
     cases hi
     exact ⟨i,hlt,eq_of_beq h⟩
   · cases hi
 · rintro ⟨i,hi,h⟩
   exact ⟨(JU s t i,Nm s t i),List.mem_of_getElem? (i:=i) (by rw [Q7,if_pos hi]),beq_iff_eq.2 h⟩
theorem Xcc {p:Prg} {s:By} (h:RightM p 3 s) {t:Nat} (ht:t < 4):J0 3 s t (JA s t)=Xe3 s t 6:=by
 rw [Xac,Xe3]
 congr 1
 refine Xbn (Xis _ (fun i j hij hj=>h.rise ht i j hij hj)) (List.Pairwise.filter _ List.pairwise_lt_range) fun v=>?_
 rw [Xal,List.mem_filter,List.mem_range,XhX]
 have h6:=(valid h.prog).locs6
 constructor
 · rintro ⟨i,hi,e⟩
   have:=h.loc ht hi
   exact ⟨by omega,i,hi,e⟩
 · exact fun hh=>hh.2
theorem Xad {s:By} {t:Nat}:∀ n,J0 2 s t n=if n=0 then [] else [⟨UInt8.ofNat t,true,0⟩]
 | 0=>rfl
 | n+1=>by
   rw [J0,Xad n,if_neg (by omega:¬ n+1=0)]
   by_cases h:n=0
   · rw [if_pos (.inl h),if_pos h];rfl
   · rw [if_neg (fun hh=>hh.elim h fun hh=>absurd hh.1 (by decide)),if_neg h]
def XdX (p:Prg) (m:UInt8) (s:By) (t:Nat):List Pss:=
 (if JP p m s t=true then [⟨UInt8.ofNat t,false,0⟩] else [])++((if m=2∧JA s t ≠ 0 then [⟨UInt8.ofNat t,true,0⟩] else [])++if m=3 then Xe3 s t 6 else [])
theorem XbN {p:Prg} {m:UInt8} {s:By} (h:RightM p m s) {t:Nat} (ht:t < 4):XdX p m s t=BG p m s t:=by
 unfold XdX BG
 congr 1
 have hk:=h.known
 unfold QS at hk
 simp only [Bool.and_eq_true,decide_eq_true_eq,UInt8.le_iff_toNat_le] at hk
 have hk2:m=1∨m=2∨m=3:=by
   have e1:(1:UInt8).toNat=1:=rfl
   have e3:(3:UInt8).toNat=3:=rfl
   rcases (by omega:m.toNat=1∨m.toNat=2∨m.toNat=3) with e | e | e
   · exact .inl (UInt8.toNat_inj.1 e)
   · exact .inr (.inl (UInt8.toNat_inj.1 e))
   · exact .inr (.inr (UInt8.toNat_inj.1 e))
 rcases hk2 with e | e | e
 · subst e
   have h0:JA s t=0:=Decidable.byContradiction fun hh=>((h.many ht).2 hh).1 rfl
   rw [h0,if_neg (fun hh=>absurd hh.1 (by decide)),if_neg (by decide)]
   rfl
 · subst e
   rw [Xad,if_neg (by decide:¬ (2:UInt8)=3),List.append_nil]
   by_cases h0:JA s t=0
   · rw [if_pos h0,if_neg (fun hh=>hh.2 h0)]
   · rw [if_neg h0,if_pos ⟨rfl,h0⟩]
 · subst e
   rw [if_neg (fun hh=>absurd hh.1 (by decide)),if_pos rfl,List.nil_append,Xcc h ht]
theorem XdY {p:Prg} {m:UInt8} {s:By} {t:Nat} {l:List Ins} {x:Ins} (h:ExecOf p m s t l x) (h1:¬ x.op=1) (hb:¬ Qz m x) (i:Nat) (hi:i < 142) :
   lay (lay (M3 p (Qf s) (t:Int)) 42 96 (cut s 42)) 138 4 (cut s 138) i=Ql m x s t i:=by
 have ht:=h.t4
 have hw6:QV m x→x.loc.toNat < 6:=fun hw=>h.loc6 (h.notLocal (.inl hw))
 rw [h.val i,XbO h.r ht h.hl h.hx,if_neg hb]
 by_cases h2:42≤i
 · rw [if_neg (by omega),if_neg (fun hh=>by have:=hw6 hh.1;omega)]
   unfold lay
   by_cases h3:138≤i
   · rw [if_pos (by omega)]
     show s (138+(i - 138))=_
     rw [show 138+(i - 138)=i by omega]
   · rw [if_neg (by omega),if_pos (by omega)]
     show s (42+(i - 42))=_
     rw [show 42+(i - 42)=i by omega]
 · have hc:∀ k,k < 9→cut (Qf s) (t * 9) k=cut s (t * 9) k:=fun k hk=>if_pos (by omega)
   have e:lay (lay (Lp x (Qf s) t) 42 96 (cut s 42)) 138 4 (cut s 138) i=Lp x (Qf s) t i:=by
     unfold lay
     rw [if_neg (by omega),if_neg (by omega)]
   rw [e,M4]
   by_cases h3:t * 9≤i∧i < t * 9+9
   · rw [if_pos h3,if_pos h3,Dc hc _ (by omega)]
     unfold XdK BS
     rcases h.op with o | o | o | o | o | o | o | o
     · exact absurd o h1
     · have hL:JB x=false:=by simp [JB,o]
       rw [if_neg (by rw [hL];decide),if_neg h1,if_pos o]
       unfold Xdd
       rw [if_pos o]
       rfl
     · have hL:JB x=true:=by simp [JB,o]
       rw [if_pos hL,if_neg h1,if_neg (by rw [o];decide),if_neg (by rw [o];decide)]
     · have hL:JB x=false:=by simp [JB,o]
       rw [if_neg (by rw [hL];decide),if_neg h1,if_neg (by rw [o];decide),if_pos (by rw [o];decide),show Qf s (36+x.loc.toNat)=s (36+x.loc.toNat) from if_pos (by have:=h.loc6 hL;omega)]
     · have hL:JB x=false:=by simp [JB,o]
       rw [if_neg (by rw [hL];decide),if_neg h1,if_neg (by rw [o];decide),if_pos (by rw [o];decide),show Qf s (36+x.loc.toNat)=s (36+x.loc.toNat) from if_pos (by have:=h.loc6 hL;omega)]
     · have hL:JB x=false:=by simp [JB,o]
       rw [if_neg (by rw [hL];decide),if_neg h1,if_neg (by rw [o];decide),if_pos (by rw [o];decide),show Qf s (36+x.loc.toNat)=s (36+x.loc.toNat) from if_pos (by have:=h.loc6 hL;omega)]
     · have hL:JB x=true:=by simp [JB,o]
       rw [if_pos hL,if_neg h1,if_neg (by rw [o];decide),if_neg (by rw [o];decide)]
     · have hL:JB x=true:=by simp [JB,o]
       rw [if_pos hL,if_neg h1,if_neg (by rw [o];decide),if_neg (by rw [o];decide)]
   · rw [if_neg h3,if_neg h3]
     have hiff:JB x=false ↔ QV m x:=by
       constructor
       · intro hL
         rcases h.op with o | o | o | o | o | o | o | o
         · exact absurd o h1
         · refine .inl ⟨o,Decidable.byContradiction fun hm=>hb ⟨o,hm⟩⟩
         · simp [JB,o] at hL
         · exact .inr (.inl o)
         · exact .inr (.inr (.inl o))
         · exact .inr (.inr (.inr o))
         · simp [JB,o] at hL
         · simp [JB,o] at hL
       · exact fun hw=>h.notLocal (.inl hw)
     by_cases h4:QV m x∧i=36+x.loc.toNat
     · rw [if_pos h4,if_pos ⟨hiff.2 h4.1,h4.2⟩,show Qf s (36+x.loc.toNat)=s (36+x.loc.toNat) from if_pos (by have:=hw6 h4.1;omega)]
       exact LP hc
     · rw [if_neg h4,if_neg (fun hh=>h4 ⟨hiff.1 hh.1,hh.2⟩)]
       exact if_pos (by omega)
theorem XgB {p:Prg} {m:UInt8} {s z:By} {x:Pss} (hW:Went p m s x z) (h:x.d=false):∃ (u:UInt8) (l:List Ins) (ix:Ins),ExecOf p m s u.toNat l ix∧x.t=u∧z=Ql m ix s u.toNat:=by
 cases hW with
 | @exec t l ix hE _=>
   have e:(UInt8.ofNat t).toNat=t:=by rw [UInt8.toNat_ofNat'];have:=hE.t4;omega
   exact ⟨UInt8.ofNat t,l,ix,by rw [e];exact hE,rfl,by rw [e]⟩
 | drain _ _ _=>cases h
theorem XeQ {p:Prg} {m:UInt8} {s z:By} {x:Pss} (hr:RightM p m s) (hW:Went p m s x z) (h:x.d=true):∃ t a,DrainOf p m s t a∧x.t.toNat=t∧(m=2∨JU s t a=x.l)∧(∀ i,i < a→¬ m=2∧¬ JU s t i=x.l)∧z=Qy s t a:=by
 cases hW with
 | exec _ _=>cases h
 | @drain t i hD hi he=>
   have e:(UInt8.ofNat t).toNat=t:=by rw [UInt8.toNat_ofNat'];have:=hD.t4;omega
   have h1:m ≠ 1:=((hr.many hD.t4).2 (by omega)).1
   have hk:=hr.known
   unfold QS at hk
   simp only [Bool.and_eq_true,decide_eq_true_eq,UInt8.le_iff_toNat_le] at hk
   have hk2:m=2∨m=3:=by
     have e1:(1:UInt8).toNat=1:=rfl
     have e3:(3:UInt8).toNat=3:=rfl
     have h4:m.toNat ≠ 1:=fun e=>h1 (UInt8.toNat_inj.1 e)
     rcases (by omega:m.toNat=2∨m.toNat=3) with e | e
     · exact .inl (UInt8.toNat_inj.1 e)
     · exact .inr (UInt8.toNat_inj.1 e)
   refine ⟨t,_,hD,e,?_,fun k hk=>?_,rfl⟩
   · rcases hk2 with e | e
     · exact .inl e
     · refine .inr ((he e).trans ?_)
       unfold JM
       rw [if_pos e]
   · have h3:=hD.fst k hk
     refine ⟨fun h2=>by rw [h2] at h3;exact absurd h3.1 (by decide),fun h4=>h3.2 ?_⟩
     rw [h4,he h3.1]
     unfold JM
     rw [if_pos h3.1]
-- DpC
mutual
def Nw:Cnd→Nat
 | .mk _ _ _ _ l=>El l+1
def El:List Cnd→Nat
 | []=>0
 | c :: r=>max (Nw c) (El r)
end
end Go.Proofs.YtcpehikcegoojaaGreatDoor
