/-
  Plain Lean: bytes by place, sorted in a range by exchanges. Conditions: none.
-/
import Derived.Test.YtagnefpgidbhnaaGreatDoorVcL
import Derived.Deep.OwnRows
import Derived.Laws.OwnMore
import Derived.Laws.IdiomCopy
import Derived.Lib.BufferMore
set_option linter.unusedSimpArgs false
set_option linter.unusedVariables false
namespace Go.Proofs.YtagnefpgidbhnaaGreatDoor
-- SoP
set_option maxRecDepth 100000
def swp (d:By) (i j:Nat):By:=fun k=>if k=i then d j else if k=j then d i else d k
theorem Dj (d:By) (i j:Nat):put (put d i (d j)) j (d i)=swp d i j:=by
 funext k
 unfold put swp
 by_cases h1:k=j
 · rw [if_pos h1]
   by_cases h2:k=i
   · rw [if_pos h2,← h1,h2]
   · rw [if_neg h2,if_pos h1]
 · rw [if_neg h1,if_neg h1]
structure Sm (a b:Nat) (d d':By):Prop where
 out:∀ i,¬ (a≤i∧i < b)→d' i=d i
 to:∀ i,a≤i→i < b→∃ j,a≤j∧j < b∧d' i=d j
 fro:∀ j,a≤j→j < b→∃ i,a≤i∧i < b∧d' i=d j
theorem Sm.refl (a b:Nat) (d:By):Sm a b d d:=⟨fun _ _=>rfl,fun i h1 h2=>⟨i,h1,h2,rfl⟩,fun i h1 h2=>⟨i,h1,h2,rfl⟩⟩
theorem Sm.trans {a b:Nat} {d e f:By} (h:Sm a b d e) (g:Sm a b e f):Sm a b d f where
 out:=fun i hi=>(g.out i hi).trans (h.out i hi)
 to:=fun i h1 h2=>by
   obtain ⟨j,h3,h4,h5⟩:=g.to i h1 h2
   obtain ⟨k,h6,h7,h8⟩:=h.to j h3 h4
   exact ⟨k,h6,h7,h5.trans h8⟩
 fro:=fun j h1 h2=>by
   obtain ⟨i,h3,h4,h5⟩:=h.fro j h1 h2
   obtain ⟨k,h6,h7,h8⟩:=g.fro i h3 h4
   exact ⟨k,h6,h7,h8.trans h5⟩
theorem Sm.mono {a b a' b':Nat} {d e:By} (h:Sm a b d e) (ha:a'≤a) (hb:b≤b'):Sm a' b' d e where
 out:=fun i hi=>h.out i (fun ⟨h1,h2⟩=>hi ⟨by omega,by omega⟩)
 to:=fun i h1 h2=>by
   by_cases hi:a≤i∧i < b
   · obtain ⟨j,h3,h4,h5⟩:=h.to i hi.1 hi.2
     exact ⟨j,by omega,by omega,h5⟩
   · exact ⟨i,h1,h2,h.out i hi⟩
 fro:=fun i h1 h2=>by
   by_cases hi:a≤i∧i < b
   · obtain ⟨j,h3,h4,h5⟩:=h.fro i hi.1 hi.2
     exact ⟨j,by omega,by omega,h5⟩
   · exact ⟨i,h1,h2,h.out i hi⟩
theorem Sm.swap {a b i j:Nat} (d:By) (h1:a≤i) (h2:i < b) (h3:a≤j) (h4:j < b):Sm a b d (swp d i j) where
 out:=fun k hk=>by
   unfold swp
   rw [if_neg (fun e=>hk (by rw [e];exact ⟨h1,h2⟩)),if_neg (fun e=>hk (by rw [e];exact ⟨h3,h4⟩))]
 to:=fun k h5 h6=>by
   unfold swp
   by_cases e:k=i
   · exact ⟨j,h3,h4,by rw [if_pos e]⟩
   · rw [if_neg e]
     by_cases e2:k=j
     · exact ⟨i,h1,h2,by rw [if_pos e2]⟩
     · exact ⟨k,h5,h6,by rw [if_neg e2]⟩
 fro:=fun k h5 h6=>by
   by_cases e:k=i
   · refine ⟨j,h3,h4,?_⟩
     unfold swp
     by_cases e2:j=i
     · rw [if_pos e2,e2,e]
     · rw [if_neg e2,if_pos rfl,e]
   · by_cases e2:k=j
     · exact ⟨i,h1,h2,by unfold swp;rw [if_pos rfl,e2]⟩
     · exact ⟨k,h5,h6,by unfold swp;rw [if_neg e,if_neg e2]⟩
theorem Sm.all {a b:Nat} {d e:By} (h:Sm a b d e) {p:UInt8→Prop} (hp:∀ k,a≤k→k < b→p (d k)):∀ k,a≤k→k < b→p (e k):=fun k h1 h2=>by
 obtain ⟨j,h3,h4,h5⟩:=h.to k h1 h2
 rw [h5]
 exact hp j h3 h4
def Srt (a b:Nat) (d:By):Prop:=∀ i,a≤i→i+1 < b→(d i).toNat≤(d (i+1)).toNat
theorem Srt.le {a b:Nat} {d:By} (h:Srt a b d):∀ {j i:Nat},a≤i→i≤j→j < b→(d i).toNat≤(d j).toNat
 | 0,i,h1,h2,h3=>by rw [show i=0 by omega];exact Nat.le_refl _
 | j+1,i,h1,h2,h3=>by
   rcases Nat.lt_or_ge i (j+1) with h4 | h4
   · exact Nat.le_trans (h.le h1 (by omega) (by omega)) (h j (by omega) h3)
   · rw [show i=j+1 by omega];exact Nat.le_refl _
theorem Srt.out {a b c e:Nat} {d d':By} (h:Srt a b d) (hs:Sm c e d d') (hd:b≤c∨e≤a):Srt a b d':=fun i h1 h2=>by
 rw [hs.out i (by omega),hs.out (i+1) (by omega)]
 exact h i h1 h2
theorem Srt.small {a b:Nat} (d:By) (h:b≤a+1):Srt a b d:=fun i h1 h2=>by omega
structure Insd (a i j:Nat) (d:By):Prop where
 lo:a≤j
 hi:j≤i
 one:∀ k,a≤k→k+1≤i→k+1 ≠ j→(d k).toNat≤(d (k+1)).toNat
 two:a < j→j < i→(d (j - 1)).toNat≤(d (j+1)).toNat
theorem Insd.start {a i:Nat} {d:By} (h:Srt a i d) (hai:a≤i):Insd a i i d:=⟨hai,Nat.le_refl _,fun k h1 h2 h3=>h k h1 (by omega),fun _ h=>by omega⟩
theorem Insd.step {a i j:Nat} {d:By} (h:Insd a i j d) (hj:a < j) (hlt:(d j).toNat < (d (j - 1)).toNat):Insd a i (j - 1) (swp d j (j - 1)) where
 lo:=by omega
 hi:=by have:=h.hi;omega
 one:=fun k h1 h2 h3=>by
   have hji:=h.hi
   unfold swp
   by_cases e1:k+1=j
   · rw [if_neg (by omega),if_pos (by omega),if_pos e1];omega
   · by_cases e2:k=j
     · rw [if_pos e2,if_neg (by omega),if_neg (by omega)]
       have:=h.two hj (by omega)
       rw [e2];exact this
     · rw [if_neg e2,if_neg (by omega),if_neg e1,if_neg (by omega)]
       exact h.one k h1 h2 e1
 two:=fun h1 h2=>by
   have hji:=h.hi
   unfold swp
   rw [if_neg (by omega),if_neg (by omega),if_pos (by omega)]
   have:=h.one (j - 1 - 1) (by omega) (by omega) (by omega)
   rwa [show j - 1 - 1+1=j - 1 by omega] at this
theorem Insd.done {a i j:Nat} {d:By} (h:Insd a i j d) (he:j=a∨¬ (d j).toNat < (d (j - 1)).toNat):Srt a (i+1) d:=fun k h1 h2=>by
 have hl:=h.lo
 by_cases e:k+1=j
 · have:¬ (d j).toNat < (d (j - 1)).toNat:=by
     rcases he with h' | h'
     · omega
     · exact h'
   rw [← e,Nat.add_sub_cancel] at this
   omega
 · exact h.one k h1 (by omega) e
def Hp (f lo hi:Nat) (d:By):Prop:=∀ k c,lo≤k→(c=2 * k+1∨c=2 * k+2)→c < hi→(d (f+c)).toNat≤(d (f+k)).toNat
structure Hq (f lo hi r:Nat) (d:By):Prop where
 one:∀ k c,lo≤k→k ≠ r→(c=2 * k+1∨c=2 * k+2)→c < hi→(d (f+c)).toNat≤(d (f+k)).toNat
 two:∀ k c,lo≤k→(r=2 * k+1∨r=2 * k+2)→(c=2 * r+1∨c=2 * r+2)→c < hi→(d (f+c)).toNat≤(d (f+k)).toNat
theorem Hq.start {f lo hi:Nat} {d:By} (h:Hp f (lo+1) hi d):Hq f lo hi lo d:=⟨fun k c h1 h2 h3 h4=>h k c (by omega) h3 h4,fun k c h1 h2 h3 h4=>by omega⟩
theorem Hq.step {f lo hi r ch:Nat} {d:By} (h:Hq f lo hi r d) (hr:lo≤r) (hc:ch=2 * r+1∨ch=2 * r+2) (hch:ch < hi) (hlt:(d (f+r)).toNat < (d (f+ch)).toNat) (hmx:∀ c,(c=2 * r+1∨c=2 * r+2)→c < hi→(d (f+c)).toNat≤(d (f+ch)).toNat):Hq f lo hi ch (swp d (f+r) (f+ch)) where
 one:=fun k c h1 h2 h3 h4=>by
   unfold swp
   by_cases e1:k=r
   · rw [if_neg (by omega),if_pos (show f+k=f+r by omega)]
     by_cases e2:c=ch
     · rw [if_pos (by omega)];omega
     · rw [if_neg (by omega)];exact hmx c (by omega) h4
   · rw [if_neg (show ¬ f+k=f+r by omega),if_neg (show ¬ f+k=f+ch by omega)]
     by_cases e2:c=r
     · rw [if_pos (by omega)]
       exact h.two k ch h1 (by omega) hc hch
     · rw [if_neg (by omega),if_neg (by omega)]
       exact h.one k c h1 e1 h3 h4
 two:=fun k c h1 h2 h3 h4=>by
   have e:k=r:=by omega
   unfold swp
   rw [if_neg (by omega),if_neg (by omega),if_pos (by omega)]
   exact h.one ch c (by omega) (by omega) h3 h4
theorem Hq.done {f lo hi r:Nat} {d:By} (h:Hq f lo hi r d) (he:∀ c,(c=2 * r+1∨c=2 * r+2)→c < hi→(d (f+c)).toNat≤(d (f+r)).toNat):Hp f lo hi d:=fun k c h1 h2 h3=>by
 by_cases e:k=r
 · rw [e];exact he c (by omega) h3
 · exact h.one k c h1 e h2 h3
theorem Hp.top {f hi:Nat} {d:By} (h:Hp f 0 hi d):∀ k,k < hi→(d (f+k)).toNat≤(d f).toNat:=fun k=>by
 induction k using Nat.strongRecOn with
 | ind k ih=>
   intro hk
   rcases Nat.eq_zero_or_pos k with e | e
   · rw [e];exact Nat.le_refl _
   · exact Nat.le_trans (h ((k - 1) / 2) k (Nat.zero_le _) (by omega) hk) (ih ((k - 1) / 2) (by omega) (by omega))
theorem Hp.none {f lo hi:Nat} (d:By) (h:hi≤2 * lo+1):Hp f lo hi d:=fun k c h1 h2 h3=>by omega
structure Hs (f hi i:Nat) (d:By):Prop where
 le:i≤hi
 heap:Hp f 0 i d
 srt:Srt (f+i) (f+hi) d
 big:∀ k c,k < i→i≤c→c < hi→(d (f+k)).toNat≤(d (f+c)).toNat
theorem Hs.start {f hi:Nat} {d:By} (h:Hp f 0 hi d):Hs f hi hi d:=⟨Nat.le_refl _,h,Srt.small _ (by omega),fun k c h1 h2 h3=>by omega⟩
theorem Hs.step {f hi i:Nat} {d e:By} (h:Hs f hi (i+1) d) (hs:Sm f (f+i) (swp d f (f+i)) e) (hh:Hp f 0 i e):Hs f hi i e:=by
 have hle:=h.le
 have htop:=h.heap.top
 have hlast:e (f+i)=d f:=by
   rw [hs.out (f+i) (by omega)]
   unfold swp
   by_cases e0:f+i=f
   · rw [if_pos e0,e0]
   · rw [if_neg e0,if_pos rfl]
 have hout:∀ c,i < c→e (f+c)=d (f+c):=fun c hc=>by
   rw [hs.out (f+c) (by omega)]
   unfold swp
   rw [if_neg (by omega),if_neg (by omega)]
 have hin:∀ k,k < i→∃ j,j < i+1∧e (f+k)=d (f+j):=fun k hk=>by
   obtain ⟨j,h1,h2,h3⟩:=hs.to (f+k) (by omega) (by omega)
   rw [h3]
   unfold swp
   by_cases e1:j=f
   · rw [if_pos e1];exact ⟨i,by omega,rfl⟩
   · rw [if_neg e1,if_neg (by omega)]
     exact ⟨j - f,by omega,by rw [show f+(j - f)=j by omega]⟩
 refine ⟨by omega,hh,fun k h1 h2=>?_,fun k c h1 h2 h3=>?_⟩
 · by_cases e1:k=f+i
   · rw [e1,hlast,show f+i+1=f+(i+1) by omega,hout _ (by omega)]
     have:=h.big 0 (i+1) (by omega) (Nat.le_refl _) (by omega)
     exact this
   · have:=h.srt k (by omega) h2
     rw [show k=f+(k - f) by omega,hout _ (by omega),show f+(k - f)+1=f+(k - f+1) by omega,hout _ (by omega)]
     rwa [show f+(k - f)=k by omega,show f+(k - f+1)=k+1 by omega]
 · obtain ⟨j,h4,h5⟩:=hin k h1
   rw [h5]
   by_cases e1:c=i
   · rw [e1,hlast];exact htop j (by omega)
   · rw [hout c (by omega)]
     exact h.big j c (by omega) (by omega) h3
theorem Hs.done {f hi:Nat} {d:By} (h:Hs f hi 0 d):Srt f (f+hi) d:=h.srt
structure Pt (a b i j:Nat) (d:By):Prop where
 lo:a+1≤i
 ij:i≤j+1
 jb:j < b
 aj:a≤j
 small:∀ k,a < k→k < i→(d k).toNat < (d a).toNat
 big:∀ k,j < k→k < b→(d a).toNat≤(d k).toNat
structure Parted (a b m:Nat) (d:By):Prop where
 am:a≤m
 mb:m < b
 small:∀ k,a≤k→k < m→(d k).toNat≤(d m).toNat
 big:∀ k,m≤k→k < b→(d m).toNat≤(d k).toNat
theorem Pt.up {a b i j:Nat} {d:By} (h:Pt a b i j d) (hij:i≤j) (hlt:(d i).toNat < (d a).toNat):Pt a b (i+1) j d:=
 ⟨by have:=h.lo;omega,by omega,h.jb,h.aj,fun k h1 h2=>by
   by_cases e:k=i
   · rw [e];exact hlt
   · exact h.small k h1 (by omega),h.big⟩
theorem Pt.down {a b i j:Nat} {d:By} (h:Pt a b i j d) (hij:i≤j) (hge:¬ (d j).toNat < (d a).toNat):Pt a b i (j - 1) d:=by
 have hl:=h.lo
 refine ⟨hl,by omega,by have:=h.jb;omega,by omega,h.small,fun k h1 h2=>?_⟩
 by_cases e:k=j
 · rw [e];omega
 · exact h.big k (by omega) h2
theorem Pt.swap {a b i j:Nat} {d:By} (h:Pt a b i j d) (hij:i≤j) (hne:i ≠ j) (hi:¬ (d i).toNat < (d a).toNat) (hj:(d j).toNat < (d a).toNat):Pt a b (i+1) (j - 1) (swp d i j):=by
 have hl:=h.lo
 have hjb:=h.jb
 refine ⟨by omega,by omega,by omega,by omega,fun k h1 h2=>?_,fun k h1 h2=>?_⟩
 · unfold swp
   rw [if_neg (show ¬ a=i by omega),if_neg (show ¬ a=j by omega)]
   by_cases e:k=i
   · rw [if_pos e];exact hj
   · rw [if_neg e,if_neg (by omega)];exact h.small k h1 (by omega)
 · unfold swp
   rw [if_neg (show ¬ a=i by omega),if_neg (show ¬ a=j by omega),if_neg (by omega)]
   by_cases e:k=j
   · rw [if_pos e];omega
   · rw [if_neg e];exact h.big k (by omega) h2
theorem Pt.done {a b i j:Nat} {d:By} (h:Pt a b i j d) (hij:j < i):Parted a b j (swp d j a):=by
 have hl:=h.lo
 have h2:=h.ij
 have e:i=j+1:=by omega
 refine ⟨h.aj,h.jb,fun k h3 h4=>?_,fun k h3 h4=>?_⟩
 · unfold swp
   rw [if_pos rfl,if_neg (by omega)]
   by_cases e1:k=a
   · rw [if_pos e1]
     rcases Nat.lt_or_ge a j with h5 | h5
     · exact Nat.le_of_lt (h.small j h5 (by omega))
     · omega
   · rw [if_neg e1];exact Nat.le_of_lt (h.small k (by omega) (by omega))
 · unfold swp
   rw [if_pos rfl]
   by_cases e1:k=j
   · rw [if_pos e1];exact Nat.le_refl _
   · rw [if_neg e1,if_neg (by have:=h.aj;omega)];exact h.big k (by omega) h4
structure Pe (a b i j:Nat) (d:By):Prop where
 lo:a+1≤i
 ij:i≤j+1
 jb:j < b
 small:∀ k,a < k→k < i→(d k).toNat≤(d a).toNat
 big:∀ k,j < k→k < b→(d a).toNat < (d k).toNat
theorem Pe.up {a b i j:Nat} {d:By} (h:Pe a b i j d) (hij:i≤j) (hlt:¬ (d a).toNat < (d i).toNat):Pe a b (i+1) j d:=
 ⟨by have:=h.lo;omega,by omega,h.jb,fun k h1 h2=>by
   by_cases e:k=i
   · rw [e];omega
   · exact h.small k h1 (by omega),h.big⟩
theorem Pe.down {a b i j:Nat} {d:By} (h:Pe a b i j d) (hij:i≤j) (hge:(d a).toNat < (d j).toNat):Pe a b i (j - 1) d:=by
 have hl:=h.lo
 refine ⟨hl,by omega,by have:=h.jb;omega,h.small,fun k h1 h2=>?_⟩
 by_cases e:k=j
 · rw [e];omega
 · exact h.big k (by omega) h2
theorem Pe.swap {a b i j:Nat} {d:By} (h:Pe a b i j d) (hij:i≤j) (hi:(d a).toNat < (d i).toNat) (hj:¬ (d a).toNat < (d j).toNat):Pe a b (i+1) (j - 1) (swp d i j):=by
 have hl:=h.lo
 have hjb:=h.jb
 have hne:i ≠ j:=fun e=>by rw [e] at hi;exact hj hi
 refine ⟨by omega,by omega,by omega,fun k h1 h2=>?_,fun k h1 h2=>?_⟩
 · unfold swp
   rw [if_neg (show ¬ a=i by omega),if_neg (show ¬ a=j by omega)]
   by_cases e:k=i
   · rw [if_pos e];omega
   · rw [if_neg e,if_neg (by omega)];exact h.small k h1 (by omega)
 · unfold swp
   rw [if_neg (show ¬ a=i by omega),if_neg (show ¬ a=j by omega),if_neg (by omega)]
   by_cases e:k=j
   · rw [if_pos e];exact hi
   · rw [if_neg e];exact h.big k (by omega) h2
structure Pq (a0 b0 a b:Nat) (d:By):Prop where
 a0a:a0≤a
 ab:a≤b
 bb0:b≤b0
 left:Srt a0 a d
 right:Srt b b0 d
 small:∀ i k,a0≤i→i < a→a≤k→k < b0→(d i).toNat≤(d k).toNat
 big:∀ i k,a0≤i→i < b→b≤k→k < b0→(d i).toNat≤(d k).toNat
 pre:a=0∨∀ k,a≤k→k < b→(d (a - 1)).toNat≤(d k).toNat
theorem Pq.start {a b:Nat} {d:By} (h:a≤b) (hp:a=0∨∀ k,a≤k→k < b→(d (a - 1)).toNat≤(d k).toNat):Pq a b a b d:=
 ⟨Nat.le_refl _,h,Nat.le_refl _,Srt.small _ (by omega),Srt.small _ (by omega),fun i k h1 h2=>by omega,fun i k h1 h2 h3 h4=>by omega,hp⟩
theorem Pq.same {a0 b0 a b:Nat} {d e:By} (h:Pq a0 b0 a b d) (hs:Sm a b d e):Pq a0 b0 a b e:=by
 have h1:=h.a0a
 have h2:=h.ab
 have h3:=h.bb0
 refine ⟨h1,h2,h3,h.left.out hs (by omega),h.right.out hs (by omega),fun i k h4 h5 h6 h7=>?_,fun i k h4 h5 h6 h7=>?_,?_⟩
 · rw [hs.out i (by omega)]
   by_cases hk:k < b
   · exact hs.all (p:=fun x=>(d i).toNat≤x.toNat) (fun k h8 h9=>h.small i k h4 h5 h8 (by omega)) k h6 hk
   · rw [hs.out k (by omega)];exact h.small i k h4 h5 h6 h7
 · rw [hs.out k (by omega)]
   by_cases hi:a≤i
   · exact hs.all (p:=fun x=>x.toNat≤(d k).toNat) (fun i h8 h9=>h.big i k (by omega) h9 h6 h7) i hi h5
   · rw [hs.out i (by omega)];exact h.big i k h4 h5 h6 h7
 · rcases h.pre with hp | hp
   · exact .inl hp
   · by_cases ha:a=0
     · exact .inl ha
     · refine .inr fun k h8 h9=>?_
       rw [hs.out (a - 1) (by omega)]
       exact hs.all (p:=fun x=>(d (a - 1)).toNat≤x.toNat) hp k h8 h9
theorem Pq.done {a0 b0 a b:Nat} {d:By} (h:Pq a0 b0 a b d) (hs:Srt a b d):Srt a0 b0 d:=fun i h1 h2=>by
 have h3:=h.a0a
 have h4:=h.ab
 have h5:=h.bb0
 by_cases e1:i+1 < a
 · exact h.left i h1 e1
 · by_cases e2:i < a
   · exact h.small i (i+1) h1 e2 (by omega) h2
   · by_cases e3:i+1 < b
     · exact hs i (by omega) e3
     · by_cases e4:i < b
       · exact h.big i (i+1) h1 e4 (by omega) h2
       · exact h.right i (by omega) h2
theorem Pq.goRight {a0 b0 a b m:Nat} {d e:By} (h:Pq a0 b0 a b d) (hp:Parted a b m d) (hs:Sm a m d e) (hr:Srt a m e):Pq a0 b0 (m+1) b e:=by
 have h1:=h.a0a
 have h3:=h.bb0
 have h4:=hp.am
 have h5:=hp.mb
 have hm:e m=d m:=hs.out m (by omega)
 have hq:=h.same (hs.mono (Nat.le_refl _) (by omega))
 have hsm:∀ k,a≤k→k < m→(e k).toNat≤(e m).toNat:=by
   rw [hm]
   exact hs.all (p:=fun x=>x.toNat≤(d m).toNat) hp.small
 have hbg:∀ k,m≤k→k < b→(e m).toNat≤(e k).toNat:=fun k h6 h7=>by
   rw [hm,hs.out k (by omega)];exact hp.big k h6 h7
 refine ⟨by omega,by omega,h3,fun i h6 h7=>?_,hq.right,fun i k h6 h7 h8 h9=>?_,fun i k h6 h7 h8 h9=>?_,.inr fun k h6 h7=>?_⟩
 · by_cases e1:i+1 < a
   · exact hq.left i h6 e1
   · by_cases e2:i < a
     · exact hq.small i (i+1) h6 e2 (by omega) (by omega)
     · by_cases e3:i+1 < m
       · exact hr i (by omega) e3
       · rw [show i+1=m by omega];exact hsm i (by omega) (by omega)
 · by_cases e1:i < a
   · exact hq.small i k h6 e1 (by omega) h9
   · by_cases e2:k < b
     · have hk:=hbg k (by omega) e2
       by_cases e3:i=m
       · rw [e3];exact hk
       · exact Nat.le_trans (hsm i (by omega) (by omega)) hk
     · exact hq.big i k (by omega) (by omega) (by omega) h9
 · exact hq.big i k h6 h7 h8 h9
 · rw [Nat.add_sub_cancel];exact hbg k (by omega) h7
theorem Pq.goLeft {a0 b0 a b m:Nat} {d e:By} (h:Pq a0 b0 a b d) (hp:Parted a b m d) (hs:Sm (m+1) b d e) (hr:Srt (m+1) b e):Pq a0 b0 a m e:=by
 have h1:=h.a0a
 have h3:=h.bb0
 have h4:=hp.am
 have h5:=hp.mb
 have hm:e m=d m:=hs.out m (by omega)
 have hq:=h.same (hs.mono (by omega) (Nat.le_refl _))
 have hbg:∀ k,m+1≤k→k < b→(e m).toNat≤(e k).toNat:=by
   rw [hm]
   exact hs.all (p:=fun x=>(d m).toNat≤x.toNat) (fun k h6 h7=>hp.big k (by omega) h7)
 have hsm:∀ k,a≤k→k < m→(e k).toNat≤(e m).toNat:=fun k h6 h7=>by
   rw [hm,hs.out k (by omega)];exact hp.small k h6 h7
 refine ⟨h1,h4,by omega,hq.left,fun i h6 h7=>?_,hq.small,fun i k h6 h7 h8 h9=>?_,?_⟩
 · by_cases e1:i=m
   · rw [e1]
     by_cases e2:m+1 < b
     · exact hbg (m+1) (by omega) e2
     · exact hq.big m (m+1) (by omega) h5 (by omega) (by omega)
   · by_cases e2:i+1 < b
     · exact hr i (by omega) e2
     · by_cases e3:i < b
       · exact hq.big i (i+1) (by omega) e3 (by omega) h7
       · exact hq.right i (by omega) h7
 · by_cases e1:b≤k
   · exact hq.big i k h6 (by omega) e1 h9
   · have hk:(e m).toNat≤(e k).toNat:=by
       by_cases e2:k=m
       · rw [e2];exact Nat.le_refl _
       · exact hbg k (by omega) (by omega)
     by_cases e3:a≤i
     · exact Nat.le_trans (hsm i e3 h7) hk
     · exact hq.small i k h6 (by omega) (by omega) (by omega)
 · rcases hq.pre with hp' | hp'
   · exact .inl hp'
   · exact .inr fun k h6 h7=>hp' k h6 (by omega)
theorem Pq.goEq {a0 b0 a b m:Nat} {d e:By} (h:Pq a0 b0 a b d) (hs:Sm a b d e) (ham:a < m) (hmb:m≤b) (he:∀ i k,a≤i→i < m→a≤k→k < b→(e i).toNat≤(e k).toNat):Pq a0 b0 m b e:=by
 have h1:=h.a0a
 have h3:=h.bb0
 have hq:=h.same hs
 refine ⟨by omega,hmb,h3,fun i h6 h7=>?_,hq.right,fun i k h6 h7 h8 h9=>?_,hq.big,.inr fun k h6 h7=>he (m - 1) k (by omega) (by omega) (by omega) h7⟩
 · by_cases e1:i+1 < a
   · exact hq.left i h6 e1
   · by_cases e2:i < a
     · exact hq.small i (i+1) h6 e2 (by omega) (by omega)
     · exact he i (i+1) (by omega) (by omega) (by omega) (by omega)
 · by_cases e1:i < a
   · exact hq.small i k h6 e1 (by omega) h9
   · by_cases e2:k < b
     · exact he i k (by omega) h7 (by omega) e2
     · exact hq.big i k h6 (by omega) (by omega) h9
-- VcX
open Go.RowKit
section
variable {P:Program} {l:List Oper} {Q:Exit→Act→World→Prop} {N:Nat} {a:Act} {env:List (Nat × Value)} {rest:List Oper} {d:Tmp} {ty:TypeId} {pos:String} {af:Array Edge} {g:Option (Nat × Bool)} {w:World}
theorem rBa {t e:TypeId} {n size:Nat} {parts:List (Nat × Operand)} {ps:List (Nat × Value)} {zs:Array Value} {cs:List Value} (hz:∀ w,(zeroValue t).run P w = .ok (.agg zs) w) (hu:P.underlying t=some (.array n e)) (hs:∀ w,(sizeOf e).run P w = .ok size w)
   (F:Has N a env) (he:evP env parts=some ps) (hf:Z6 (fun i=>some (i * size,size)) zs.toList ps=some cs) :
   (execOp a.eval ⟨some d,.build t parts.toArray,ty,pos,af,g⟩).run P w = .ok (.value (.agg cs.toArray)) w:=by
 have h1:=ZI _ _ _ _ hf
 have h2:(Instr.build t (parts.toArray.map fun (i,x)=>(i,a.eval x))).run P w = .ok (.agg cs.toArray) w:=by
   rw [List.map_toArray,F.parts he]
   have h1':Instr.fill (fun i=>some (i * size,size)) zs ps=some cs.toArray:=by simpa using h1
   simp [Instr.build,run_underlying hu,hz,hs,h1',Value.cells,go_sem]
 simp only [execOp,Sem.run_bind,h2]
 rfl
theorem XbZ {t e:TypeId} {n m size:Nat} {parts:List (Nat × Operand)} {ps:List (Nat × Value)} {s:By} (hz:∀ w,(zeroValue t).run P w = .ok (.agg (bs n zb).toArray) w) (hu:P.underlying t=some (.array m e)) (hs:∀ w,(sizeOf e).run P w = .ok size w)
   (F:Has N a env) (he:evP env parts=some ps) (hf:FillB (fun i=>some (i * size,size)) n zb ps s) :
   (execOp a.eval ⟨some d,.build t parts.toArray,ty,pos,af,g⟩).run P w = .ok (.value (.agg (bs n s).toArray)) w:=
 rBa hz hu hs F he hf.to
theorem sBaB {t e:TypeId} {n m size:Nat} {parts:List (Nat × Operand)} {ps:List (Nat × Value)} {s:By} (hz:∀ w,(zeroValue t).run P w = .ok (.agg (bs n zb).toArray) w) (hu:P.underlying t=some (.array m e)) (hs:∀ w,(sizeOf e).run P w = .ok size w)
   (F:Has N a env) (hg:wants l env g=true) (hN:Nat.blt d N=true) (he:evP env parts=some ps) (hf:FillB (fun i=>some (i * size,size)) n zb ps s)
   (K:∀ a,Has N a ((d,.agg (bs n s).toArray) :: env)→wpList P l.toArray Q rest a w):wpList P l.toArray Q (⟨some d,.build t parts.toArray,ty,pos,af,g⟩ :: rest) a w:=
 YM F hg rfl hN (XbZ hz hu hs F he hf) K
theorem qBaB {t e:TypeId} {n m size:Nat} {parts:List (Nat × Operand)} {ps:List (Nat × Value)} {s:By} (hz:∀ w,(zeroValue t).run P w = .ok (.agg (bs n zb).toArray) w) (hu:P.underlying t=some (.array m e)) (hs:∀ w,(sizeOf e).run P w = .ok size w) (hg:wants l env g=true) (hN:Nat.blt d N=true) (he:evP env parts=some ps) (hf:FillB (fun i=>some (i * size,size)) n zb ps s) (K:∀ a,Has N a ((d,.agg (bs n s).toArray) :: env)→wpList P l.toArray Q rest a w):∀ a,Has N a env→wpList P l.toArray Q (⟨some d,.build t parts.toArray,ty,pos,af,g⟩ :: rest) a w:=fun a F=>sBaB hz hu hs F hg hN he hf K
theorem rMaxN {x y:Operand} {ts:Array TypeId} {i j:Nat} {k k':IntKind} (F:Has N a env) (hx:ev env x=some (.int k (i:Int))) (hy:ev env y=some (.int k' (j:Int))) :
   (execOp a.eval ⟨some d,.call ⟨.builtin .max,#[x,y],ts⟩,ty,pos,af,g⟩).run P w = .ok (.value (.int k ((max i j:Nat):Int))) w:=by
 simp only [execOp,resolve,invoke,builtin,Sem.run_bind,Sem.run_pure,Result.andThen_ok,List.map_toArray,List.map_cons,List.map_nil,F.eval hx,F.eval hy,Builtin.max_,List.foldlM,Builtin.max2]
 congr 4
 split <;> omega
theorem sMaxN {x y:Operand} {ts:Array TypeId} {i j:Nat} {k k':IntKind} (F:Has N a env) (hg:wants l env g=true) (hN:Nat.blt d N=true) (hx:ev env x=some (.int k (i:Int))) (hy:ev env y=some (.int k' (j:Int)))
   (K:∀ a,Has N a ((d,.int k ((max i j:Nat):Int)) :: env)→wpList P l.toArray Q rest a w):wpList P l.toArray Q (⟨some d,.call ⟨.builtin .max,#[x,y],ts⟩,ty,pos,af,g⟩ :: rest) a w:=
 YM F hg rfl hN (rMaxN F hx hy) K
end
theorem Jq (s:List Value):∀ (r z p:List Value),z.length=r.length→Ya (p++(z++s)) p.length r=p++(r++s)
 | [],[],p,_=>by simp [Ya]
 | v :: r,y :: z,p,h=>by
   have e1:(p++(y :: z++s)).set p.length v=(p++[v])++(z++s):=by simp
   have e2:p.length+1=(p++[v]).length:=by simp
   rw [Ya,e1,e2,Jq s r z (p++[v]) (by simpa using h)]
   simp
def Xcu:List (List Value)→Nat→List (Nat × Value)
 | [],_=>[]
 | r :: rs,k=>(k,.agg r.toArray) :: Xcu rs (k+1)
theorem Q2 {size:Nat} {zs:List Value} (hz:zs.length=size):∀ (rows:List (List Value)) (k:Nat) (p:List Value),p.length=k * size→(∀ r ∈ rows,r.length=size) →
   Z6 (fun i=>some (i * size,size)) (p++rep rows.length zs) (Xcu rows k)=some (p++rows.flatten)
 | [],k,p,_,_=>by simp [Xcu,Z6,rep]
 | r :: rs,k,p,hp,hr=>by
   have h1:=hr r (by simp)
   unfold Xcu Z6
   have e1:(Value.cells (.agg r.toArray)).toList=r:=rfl
   simp only [e1]
   have e2:(Nat.beq r.length size && Nat.ble (k * size+r.length) (p++rep (r :: rs).length zs).length)=true:=by
     rw [h1,Bool.and_eq_true]
     refine ⟨Nat.beq_refl _,Nat.ble_eq_true_of_le ?_⟩
     rw [List.length_append,hp,W6,hz,List.length_cons,Nat.add_mul,Nat.one_mul];omega
   rw [e2]
   simp only [cond_true]
   have e3:Ya (p++rep (r :: rs).length zs) (k * size) r=(p++r)++rep rs.length zs:=by
     rw [List.length_cons,rep,← hp,Jq _ r zs p (by rw [hz,h1]),List.append_assoc]
   rw [e3,Q2 hz rs (k+1) (p++r) (by rw [List.length_append,hp,h1,Nat.add_mul,Nat.one_mul]) (fun q hq=>hr q (by simp [hq]))]
   simp
section
variable {P:Program} {l:List Oper} {Q:Exit→Act→World→Prop} {N:Nat} {a:Act} {env:List (Nat × Value)} {rest:List Oper} {d:Tmp} {ty:TypeId} {pos:String} {af:Array Edge} {g:Option (Nat × Bool)} {w0 w:World} {row:Option Nat} {rs:List Res}
theorem sBsR {t e:TypeId} {size:Nat} {parts:List (Nat × Operand)} {rows:List (List Value)} {z:Value} (H:Own w0 row w rs) (ht:P.underlying t=some (.slice e)) (hs:∀ w,(sizeOf e).run P w = .ok size w) (hz:∀ w,(zeroValue e).run P w = .ok z w) (hzs:z.cells.size=size)
   (F:Has N a env) (hg:wants l env g=true) (hN:Nat.blt d N=true) (he:evP env parts=some (Xcu rows 0)) (hn:Nat.ble (rows.length * size) 16777216=true) (hr:(rows.all fun r=>Nat.beq r.length size)=true)
   (K:∀ b a w,Has N a ((d,.slice (some ⟨b,0,none⟩) rows.length rows.length) :: env)→Own w0 row w (.blk b rows.flatten e :: rs)→wpList P l.toArray Q rest a w):wpList P l.toArray Q (⟨some d,.buildSlice t rows.length parts.toArray,ty,pos,af,g⟩ :: rest) a w:=
 sBs H ht hs hz hzs F hg hN he hn (Q2 (size:=size) (by rw [Array.length_toList];exact hzs) rows 0 [] (by simp) (fun r hm=>Nat.eq_of_beq_eq_true (List.all_eq_true.1 hr r hm))) K
end
-- VcY
open Go.RowKit
section
variable {P:Program} {l:List Oper} {Q:Exit→Act→World→Prop} {N:Nat} {a:Act} {env:List (Nat × Value)} {rest:List Oper} {d:Tmp} {ty:TypeId} {pos:String} {af:Array Edge} {g:Option (Nat × Bool)}
 {w0 w:World} {row:Option Nat} {rs:List Res} {Kt:Act→World→Prop}
theorem rSlL {t e:TypeId} {x lo:Operand} {b o n c i sz:Nat} {k':IntKind} (ht:P.underlying t=some (.slice e)) (hz:∀ w,(sizeOf e).run P w = .ok sz w) (F:Has N a env) (hx:ev env x=some (.slice (some ⟨b,o,none⟩) n c)) (hl:ev env lo=some (.int k' (i:Int))) (hi:i≤n) (hc:i < c) :
   (execOp a.eval ⟨some d,.slice t x (some lo) none none,ty,pos,af,g⟩).run P w = .ok (.value (.slice (some ⟨b,o+i * sz,none⟩) (n - i) (c - i))) w:=by
 have he:P.elem t=e:=by simp [Program.elem,ht]
 have h1:=run_slice_l (P:=P) w t (some ⟨b,o,none⟩) n c (UH ht) k' (i:Int) (by omega) (by omega)
 rw [he,hz] at h1
 have h3:(Instr.slice t (.slice (some ⟨b,o,none⟩) n c) (some (.int k' (i:Int))) none none).run P w = .ok (.slice (some ⟨b,o+i * sz,none⟩) (n - i) (c - i)) w:=by
   rw [h1]
   simp only [Result.andThen_ok,sliced,Int.toNat_natCast]
   rw [if_neg (by omega)]
   simp [Addr.add_mid]
 simp only [execOp,Option.map_some,Option.map_none,F.eval hx,F.eval hl,Sem.run_bind,run_sliceAt_slice w t _ _ _ none (UH ht),h3]
 rfl
theorem sSlL {t e:TypeId} {x lo:Operand} {b o n c i sz:Nat} {k':IntKind} (ht:P.underlying t=some (.slice e)) (hz:∀ w,(sizeOf e).run P w = .ok sz w) (F:Has N a env) (hg:wants l env g=true) (hN:Nat.blt d N=true) (hx:ev env x=some (.slice (some ⟨b,o,none⟩) n c)) (hl:ev env lo=some (.int k' (i:Int))) (hi:i≤n) (hc:i < c)
   (K:∀ a,Has N a ((d,.slice (some ⟨b,o+i * sz,none⟩) (n - i) (c - i)) :: env)→wpList P l.toArray Q rest a w):wpList P l.toArray Q (⟨some d,.slice t x (some lo) none none,ty,pos,af,g⟩ :: rest) a w:=
 YM F hg rfl hN (rSlL ht hz F hx hl hi hc) K
end
section
variable {P:Program} {t:TypeId} {x y:Operand} {n m:Nat}
theorem EE (n:Int):IntKind.u64.wrap n=n % 18446744073709551616:=by simp [IntKind.wrap,IntKind.signed,IntKind.bits]
theorem ND (h:n < 18446744073709551616):IntKind.u64.wrap (n:Int)=(n:Int):=by rw [EE];omega
end
theorem Own.turned {w0 w w':World} {row:Option Nat} {rs:List Res} {b:Nat} {cs cs':List Value} {t:TypeId} (H:Own w0 row w rs) (i:Nat) (hi:rs[i]? = some (.blk b cs t)) (H2:Own w (some b) w' [.blk b cs' t]):Own w0 row w' (rs.set i (.blk b cs' t)) where
 grown:=by
   have hb:=H.foot i _ hi b rfl
   refine ⟨?_,?_,?_,Nat.le_trans H.grown.size H2.grown.size,fun j hj hne=>?_⟩
   · rw [H2.grown.os,H.grown.os]
   · rw [H2.grown.tape,H.grown.tape]
   · rw [H2.grown.output,H.grown.output]
   · rw [H2.grown.block j (Nat.lt_of_lt_of_le hj H.grown.size) (fun e=>by
       cases e
       rcases hb.1 with h | h
       · omega
       · exact hne h),H.grown.block j hj hne]
 pred:=fun j r hj=>by
   rw [List.getElem?_set] at hj
   split at hj
   · split at hj
     · cases hj;exact H2.pred 0 _ rfl
     · cases hj
   · rename_i hne
     refine r.loc w w' (fun c hc=>?_) (H.pred j r hj)
     have hcb:=H.foot j r hj c hc
     refine H2.grown.block c hcb.2 (fun e=>?_)
     have e:c=b:=Option.some.inj e
     exact H.apart j i r _ hj hi (fun e=>hne e.symm) c hc e
 foot:=fun j r hj c hc=>by
   rw [List.getElem?_set] at hj
   split at hj
   · split at hj
     · cases hj
       exact ⟨(H.foot i _ hi c hc).1,Nat.lt_of_lt_of_le (H.foot i _ hi c hc).2 H2.grown.size⟩
     · cases hj
   · exact ⟨(H.foot j r hj c hc).1,Nat.lt_of_lt_of_le (H.foot j r hj c hc).2 H2.grown.size⟩
 apart:=fun j k r s hj hk hjk c hc hs=>by
   have key:∀ (j:Nat) (r:Res),(rs.set i (.blk b cs' t))[j]? = some r→∃ r',rs[j]? = some r'∧∀ c,r.foot c ↔ r'.foot c:=fun j r hj=>by
     rw [List.getElem?_set] at hj
     split at hj
     · rename_i e
       split at hj
       · cases hj;subst e;exact ⟨_,hi,fun c=>Iff.rfl⟩
       · cases hj
     · exact ⟨r,hj,fun c=>Iff.rfl⟩
   obtain ⟨r',h1,h2⟩:=key j r hj
   obtain ⟨s',h3,h4⟩:=key k s hk
   exact H.apart j k r' s' h1 h3 hjk c ((h2 c).1 hc) ((h4 c).1 hs)
-- VcZ
open Go.RowKit
section
variable {P:Program} {l:List Oper} {Q:Exit→Act→World→Prop} {N:Nat} {a:Act} {env:List (Nat × Value)} {rest:List Oper} {d:Tmp} {ty:TypeId} {pos:String} {af:Array Edge} {g:Option (Nat × Bool)}
 {w0 w:World} {row:Option Nat} {rs:List Res} {Kt:Act→World→Prop}
theorem Own.fuse {r s:Res} (H:Own w0 row w (r :: s :: rs)) (r':Res) (hp:r'.pred w) (hf:∀ b,r'.foot b→r.foot b∨s.foot b):Own w0 row w (r' :: rs) where
 grown:=H.grown
 pred:=fun i q hi=>by
   cases i with
   | zero=>cases hi;exact hp
   | succ i=>exact H.pred (i+2) q hi
 foot:=fun i q hi b hb=>by
   cases i with
   | zero=>
     cases hi
     rcases hf b hb with h | h
     · exact H.foot 0 r rfl b h
     · exact H.foot 1 s rfl b h
   | succ i=>exact H.foot (i+2) q hi b hb
 apart:=fun i j q u hi hj hij b h1 h2=>by
   cases i with
   | zero=>
     cases hi
     cases j with
     | zero=>exact hij rfl
     | succ j=>
       rcases hf b h1 with h | h
       · exact H.apart 0 (j+2) r u rfl hj (by omega) b h h2
       · exact H.apart 1 (j+2) s u rfl hj (by omega) b h h2
   | succ i=>
     cases j with
     | zero=>
       cases hj
       rcases hf b h2 with h | h
       · exact H.apart 0 (i+2) r q rfl hi (by omega) b h h1
       · exact H.apart 1 (i+2) s q rfl hi (by omega) b h h1
     | succ j=>exact H.apart (i+2) (j+2) q u hi hj (by omega) b h1 h2
theorem Own.void (H:Own w0 row w rs) (r:Res) (hp:r.pred w) (hf:∀ b,¬ r.foot b):Own w0 row w (r :: rs):=
 H.add r (Below.refl _ _) hp (fun b hb=>absurd hb (hf b))
theorem Own.seen {r:Res} (H:Own w0 row w (r :: rs)) (r':Res) (hp:r'.pred w) (hf:∀ b,r'.foot b→r.foot b):Own w0 row w (r' :: rs):=
 (H.void ⟨fun _=>False,fun _=>True,fun _ _ _ _=>trivial⟩ trivial (fun _ h=>h)).fuse r' hp (fun b hb=>.inr (hf b hb))
theorem Own.emptyRws {b:Nat} {e:TypeId} (H:Own w0 row w (.blk b [] e :: rs)) (sz:Nat):Own w0 row w (.rws e sz (.slice (some ⟨b,0,.none⟩) 0 0) [] :: rs):=
 H.seen _ (show w.ownsRow 0 e sz (.slice (some ⟨b,0,.none⟩) 0 0) 0 [] from ⟨by simp,.inr ⟨b,0,#[],rfl,Nat.zero_le _,H.blk 0 rfl,Nat.le_refl _,Nat.zero_le _,by simp,by simp⟩⟩)
   (fun c hc=>by
     have:b=c:=by simpa [Res.rws,Res.arr,Value.ownBlock] using hc
     exact this.symm)
theorem Lr {t e:TypeId} {v:Value} {rows news:List (List Value)} {ad:Addr} {m c:Nat} {ti:TypeInfo} {z:Value} {sz bytes:Nat} (H:Own w0 row w rs) (i:Nat) (ht:P.underlying t=some (.slice e))
   (hi:∀ w,(typeInfo e).run P w = .ok ti w) (hz:ti.zero=some z) (hsize:ti.size=sz) (hby:ti.bytes=bytes) (hzs:z.cells.size=sz) (hsz:Nat.blt 0 sz=true) (hb1:Nat.blt 0 bytes=true)
   (hr:rs[i]? = some (.rws e sz v rows)) (hm:news.length=m) (hnews:∀ j u,news.flatten[j]? = some u→w.cell? (ad.add j)=some u) (hl:∀ r ∈ news,r.length=sz) (h1:∀ r ∈ news,r.all (·.oneCell')=true) (hb:(rows.length+m) * bytes≤140737488355328) (ty:TypeId) :
   ∃ A c' w',(Builtin.append_ #[t,t] ty #[v,.slice (some ad) m c]).run P w = .ok (.slice A (rows++news).length c') w'∧Own w0 row w' (rs.set i (.rws e sz (.slice A (rows++news).length c') (rows++news))):=by
 have hsz':=Nat.blt_eq.mp hsz
 have hb1':=Nat.blt_eq.mp hb1
 have hfl:∀ (q:List (List Value)),(∀ r ∈ q,r.length=sz)→q.flatten.length=q.length * sz:=by
   intro q hq
   induction q with
   | nil=>simp
   | cons r0 rest ih=>rw [List.flatten_cons,List.length_append,ih (fun r hm=>hq r (by simp [hm])),hq r0 (by simp),List.length_cons,Nat.add_mul];omega
 have hlen:rows.length+m≤140737488355328:=Nat.le_trans (Nat.le_mul_of_pos_right _ hb1') hb
 obtain ⟨v',w',hrun,hown,hgr,_,hat⟩:=run_append_own_at (P:=P) w 0 t ty e ti z sz bytes ht (GD hi) hz hsize hby hzs hsz' v rows.length rows.flatten (H.arr i hr) ad m c news.flatten (by rw [hfl news hl,hm])
   hnews (fun u hu=>by
     obtain ⟨r,hr1,hr2⟩:=List.mem_flatten.1 hu
     exact (List.all_eq_true.1 (h1 r hr1)) u hr2) (by simp only [maxLen];omega) hb (Nat.zero_le _)
 have e1:(rows++news).length=rows.length+m:=by rw [List.length_append,hm]
 obtain ⟨A,c',rfl⟩:∃ A c',v' = .slice A (rows++news).length c':=by
   rcases hown.2 with ⟨h2,h3⟩ | ⟨g,cap,cur,h2,_⟩
   · exact ⟨none,0,by rw [e1,h3];exact h2⟩
   · exact ⟨_,cap,by rw [e1];exact h2⟩
 refine ⟨A,c',w',hrun,?_⟩
 have hlt:∀ k,(Value.slice A (rows++news).length c').ownBlock=some k→k < w'.heap.size:=fun k hk=>(hown.lt k hk).2
 refine H.turn i hr _ ?_ hgr.size (fun b hb hnb=>hgr.block b hb (fun e=>hnb (show v.ownBlock=some b from e.symm))) ?_ ?_
 · refine ⟨hgr.os.trans H.grown.os,hgr.tape.trans H.grown.tape,hgr.output.trans H.grown.output,Nat.le_trans H.grown.size hgr.size,fun k hk hne=>?_⟩
   refine (hgr.block k (Nat.lt_of_lt_of_le hk H.grown.size) (fun e=>?_)).trans (H.grown.block k hk hne)
   rcases (H.foot i _ hr k (show v.ownBlock=some k from e.symm)).1 with h | h
   · exact absurd hk (by omega)
   · exact hne h
 · show w'.ownsRow 0 e sz _ (rows++news).length (rows++news).flatten
   rw [List.flatten_append];rw [e1] at hown ⊢
   exact hown
 · intro b hb
   have hb:(Value.slice A (rows++news).length c').ownBlock=some b:=hb
   refine ⟨?_,hlt b hb⟩
   rcases hat with h | h
   · exact .inl (show v.ownBlock=some b from h ▸ hb)
   · rw [hb] at h
     cases h
     exact .inr (Nat.le_refl _)
theorem Xce {t e:TypeId} {s x:Operand} {v:Value} {rows news:List (List Value)} {ad:Addr} {m c:Nat} {ti:TypeInfo} {z:Value} {sz bytes:Nat} (H:Own w0 row w rs) (i:Nat) (ht:P.underlying t=some (.slice e))
   (hi:∀ w,(typeInfo e).run P w = .ok ti w) (hz:ti.zero=some z) (hsize:ti.size=sz) (hby:ti.bytes=bytes) (hzs:z.cells.size=sz) (hsz:Nat.blt 0 sz=true) (hb1:Nat.blt 0 bytes=true)
   (F:Has N a env) (hg:wants l env g=true) (hN:Nat.blt d N=true) (hs:ev env s=some v) (hx:ev env x=some (.slice (some ad) m c))
   (hr:rs[i]? = some (.rws e sz v rows)) (hm:news.length=m) (hnews:∀ j u,news.flatten[j]? = some u→w.cell? (ad.add j)=some u) (hl:∀ r ∈ news,r.length=sz) (h1:∀ r ∈ news,r.all (·.oneCell')=true) (hb:(rows.length+m) * bytes≤140737488355328)
   (K:∀ A c a w,Has N a ((d,.slice A (rows++news).length c) :: env)→Own w0 row w (rs.set i (.rws e sz (.slice A (rows++news).length c) (rows++news)))→wpList P l.toArray Q rest a w) :
   wpList P l.toArray Q (⟨some d,.call ⟨.builtin .append,#[s,x],#[t,t]⟩,ty,pos,af,g⟩ :: rest) a w:=by
 obtain ⟨A,c',w',h2,h3⟩:=Lr (P:=P) (c:=c) H i ht hi hz hsize hby hzs hsz hb1 hr hm hnews hl h1 hb ty
 exact YM F hg rfl hN (Ui (ty':=ty) F hs hx h2) (fun a F'=>K A c' a w' F' h3)
theorem bNil {t e:TypeId} {x y:Operand} {A:Option Addr} {n c:Nat} (ht:P.underlying t=some (.slice e)):ZF P .eql t x y (.slice A n c) (.slice none 0 0) (.bool A.isNone):=fun w=>by
 have h0:(eqGuard .eql t x y (.slice A n c) (.slice none 0 0)).run P w = .ok () w:=by
   simp [eqGuard,run_underlying ht,go_sem]
 cases A with
 | none=>simp only [Sem.run_bind,h0,Result.andThen_ok];exact Lib.run_eql_slice_nil_nil w _ _ ht
 | some a=>simp only [Sem.run_bind,h0,Result.andThen_ok];exact Lib.run_eql_slice_some_nil w a _ _ ht
theorem ZG {fn:Func} {R:Ending→World→Prop} {t u:Tmp} {st:TypeId} {b n:Nat} {cs:List Value} {bt:TypeId} {dd:TypeDesc} {y:Value} (hres:fn.results = #[.cell t st,.tmp u]) (F:Has N a env) (hv:lk env t=some (.pointer (some ⟨b,0,.none⟩))) (hy:lk env u=some y)
   (hu:P.underlying st=some dd) (hdd:dd.isRow=true) (H:Own w0 row w rs) (i:Nat) (hi:rs[i]? = some (.blk b cs bt)) (hz:∀ w,(sizeOf st).run P w = .ok n w) (hn:Nat.beq cs.length n=true) (h:R (.returned (.tuple #[.agg cs.toArray,y])) w):bodyPost P fn R .ret a w:=
 bodyPost_ret (Gk hres F hv hy hu hdd (by rw [Nat.eq_of_beq_eq_true hn];exact XC hz) (H.blk i hi)) F.nod h
theorem RowsAt.flat {w:World} {A:Addr} {sz:Nat} {rows:List (List Value)} (h:RowsAt w (some A) sz rows) (hl:∀ r ∈ rows,r.length=sz):∀ j u,rows.flatten[j]? = some u→w.cell? (A.add j)=some u:=by
 have key:∀ (rows:List (List Value)) (o:Nat),(∀ r ∈ rows,r.length=sz)→(∀ (j:Nat) (cs:List Value),rows[j]? = some cs→∃ b off,A=⟨b,off,none⟩∧w.rangeAt b (off+(o+j) * sz) cs)→∀ j u,rows.flatten[j]? = some u→w.cell? (A.add (o * sz+j))=some u:=by
   intro rows
   induction rows with
   | nil=>intro o _ _ j u hu;simp at hu
   | cons r rest ih=>
     intro o hl h j u hu
     have hr:r.length=sz:=hl r (by simp)
     rw [List.flatten_cons] at hu
     rcases Nat.lt_or_ge j r.length with hj | hj
     · rw [List.getElem?_append_left hj] at hu
       obtain ⟨b,off,rfl,h2⟩:=h 0 r rfl
       have:=h2 j u hu
       rw [Addr.add_mid,← Nat.add_assoc]
       simpa using this
     · rw [List.getElem?_append_right hj] at hu
       have:=ih (o+1) (fun r hm=>hl r (by simp [hm])) (fun k cs hk=>by
         obtain ⟨b,off,h1,h2⟩:=h (k+1) cs hk
         exact ⟨b,off,h1,by rw [show o+1+k=o+(k+1) by omega];exact h2⟩) (j - r.length) u hu
       rw [Nat.add_mul,Nat.one_mul,← hr,Nat.add_assoc,show r.length+(j - r.length)=j by omega] at this;rw [← hr]
       exact this
 intro j u hu
 have:=key rows 0 hl (fun k cs hk=>by
   obtain ⟨b,off,h1,h2⟩:=h k cs hk
   exact ⟨b,off,Option.some.inj h1,by rw [Nat.zero_add];exact h2⟩) j u hu
 simpa using this
end
-- VcN
open Go.RowKit
section
variable {P:Program} {l:List Oper} {Q:Exit→Act→World→Prop} {N:Nat} {a:Act} {env:List (Nat × Value)} {rest:List Oper} {d:Tmp} {ty:TypeId} {pos:String} {af:Array Edge} {g:Option (Nat × Bool)}
 {w0 w:World} {row:Option Nat} {rs:List Res} {Kt:Act→World→Prop}
def winP (e:TypeId) (sz:Nat) (v:Value) (rows:List (List Value)) (w:World):Prop:=
 (∀ r ∈ rows,r.length=sz)∧((v = .slice none 0 0∧rows=[])∨∃ g off cap cur,v = .slice (some ⟨g,off,none⟩) rows.length cap∧w.heap[g]? = some (.cells cur e (0,0))∧rows.length≤cap∧cap≤maxLen∧off+cap * sz≤cur.size∧∀ (j:Nat) (u:Value),rows.flatten[j]? = some u→cur[off+j]? = some u)
theorem Wk {sz:Nat}:∀ (q:List (List Value)),(∀ r ∈ q,r.length=sz)→q.flatten.length=q.length * sz
 | [],_=>by simp
 | r0 :: rest,hq=>by rw [List.flatten_cons,List.length_append,Wk rest (fun r hm=>hq r (by simp [hm])),hq r0 (by simp),List.length_cons,Nat.add_mul];omega
theorem Ua {sz:Nat}:∀ (rows:List (List Value)),(∀ r ∈ rows,r.length=sz)→∀ (j:Nat) (cs:List Value),rows[j]? = some cs→∀ (k:Nat) (v:Value),cs[k]? = some v→rows.flatten[j * sz+k]? = some v
 | [],_,j,cs,hj,_,_,_=>by simp at hj
 | r0 :: rest,hr,j,cs,hj,k,v,hk=>by
   have h0:r0.length=sz:=hr r0 (by simp)
   cases j with
   | zero=>
     simp at hj;subst hj
     have:k < r0.length:=(List.getElem?_eq_some_iff.1 hk).1
     rw [List.flatten_cons,List.getElem?_append_left (by omega)];simpa using hk
   | succ j=>
     rw [List.flatten_cons,List.getElem?_append_right (by rw [h0,Nat.add_mul];omega),h0]
     have e1:(j+1) * sz+k - sz=j * sz+k:=by rw [Nat.add_mul];omega
     rw [e1]
     exact Ua rest (fun r hm=>hr r (by simp [hm])) j cs (by simpa using hj) k v hk
theorem D1 {sz:Nat} (rows:List (List Value)) (hr:∀ r ∈ rows,r.length=sz) (i:Nat) (hi:i≤rows.length):(rows.drop i).flatten=rows.flatten.drop (i * sz):=by
 have h1:rows.flatten=(rows.take i).flatten++(rows.drop i).flatten:=by rw [← List.flatten_append,List.take_append_drop]
 have h2:(rows.take i).flatten.length=i * sz:=by rw [Wk _ (fun r hm=>hr r (List.mem_of_mem_take hm)),List.length_take];congr 1;omega
 rw [h1,← h2,List.drop_left]
theorem D0 {sz:Nat} (rows:List (List Value)) (hr:∀ r ∈ rows,r.length=sz) (i:Nat) (hi:i≤rows.length):(rows.take i).flatten=rows.flatten.take (i * sz):=by
 have h1:rows.flatten=(rows.take i).flatten++(rows.drop i).flatten:=by rw [← List.flatten_append,List.take_append_drop]
 have h2:(rows.take i).flatten.length=i * sz:=by rw [Wk _ (fun r hm=>hr r (List.mem_of_mem_take hm)),List.length_take];congr 1;omega
 rw [h1,← h2,List.take_left]
theorem winP.nil (e:TypeId) (sz:Nat) (w:World):winP e sz (.slice none 0 0) [] w:=⟨by simp,.inl ⟨rfl,rfl⟩⟩
theorem winP.len {e:TypeId} {sz n c:Nat} {A:Option Addr} {rows:List (List Value)} (h:winP e sz (.slice A n c) rows w):n=rows.length∧n≤c∧c≤maxLen:=by
 rcases h.2 with ⟨h1,h2⟩ | ⟨g,off,cap,cur,h1,_,h3,h4,_⟩
 · cases h1;subst h2;exact ⟨rfl,Nat.le_refl _,Nat.zero_le _⟩
 · cases h1;exact ⟨rfl,h3,h4⟩
theorem winP.at {e:TypeId} {sz n c:Nat} {A:Option Addr} {rows:List (List Value)} (h:winP e sz (.slice A n c) rows w):RowsAt w A sz rows:=fun j cs hj=>by
 rcases h.2 with ⟨h1,h2⟩ | ⟨g,off,cap,cur,h1,h2,_,_,_,h6⟩
 · subst h2;simp at hj
 · cases h1
   refine ⟨g,off,rfl,fun k v hk=>?_⟩
   have h7:=h6 _ v (Ua rows h.1 j cs hj k v hk)
   simp [World.cell?,h2,Nat.add_assoc,h7]
theorem winP.cells {e:TypeId} {sz n c:Nat} {A:Addr} {rows:List (List Value)} (h:winP e sz (.slice (some A) n c) rows w):∀ j u,rows.flatten[j]? = some u→w.cell? (A.add j)=some u:=fun j u hj=>by
 rcases h.2 with ⟨h1,_⟩ | ⟨g,off,cap,cur,h1,h2,_,_,_,h6⟩
 · cases h1
 · cases h1
   have h7:=h6 _ u hj
   rw [Addr.add_mid]
   simp [World.cell?,h2,h7]
theorem winP.from {e:TypeId} {sz n c i:Nat} {A:Option Addr} {rows:List (List Value)} (h:winP e sz (.slice A n c) rows w) (hi:i≤n):winP e sz (.slice (if c=i then A else A.map (·.add (i * sz))) (n - i) (c - i)) (rows.drop i) w:=by
 obtain ⟨hn,hc,hm⟩:=h.len
 refine ⟨fun r hr=>h.1 r (List.mem_of_mem_drop hr),?_⟩
 rcases h.2 with ⟨h1,h2⟩ | ⟨g,off,cap,cur,h1,h2,h3,h4,h5,h6⟩
 · cases h1;subst h2
   obtain rfl:i=0:=by omega
   exact .inl ⟨by simp,by simp⟩
 · cases h1
   by_cases hci:c=i
   · have:rows.drop i=[]:=List.drop_eq_nil_of_le (by omega)
     refine .inr ⟨g,off,0,cur,?_,h2,by rw [this];simp,Nat.zero_le _,by omega,fun j u hj=>by rw [this] at hj;simp at hj⟩
     rw [if_pos hci,this]
     simp only [List.length_nil]
     congr 1 <;> omega
   · refine .inr ⟨g,off+i * sz,c - i,cur,?_,h2,by rw [List.length_drop];omega,by omega,?_,fun j u hj=>?_⟩
     · rw [if_neg hci,List.length_drop]
       simp [Addr.add_mid]
     · have:i * sz+(c - i) * sz=c * sz:=by rw [← Nat.add_mul];congr 1;omega
       omega
     · rw [D1 rows h.1 i (by omega),List.getElem?_drop] at hj
       rw [Nat.add_assoc];exact h6 _ u hj
theorem winP.upto {e:TypeId} {sz n c i j:Nat} {A:Option Addr} {rows:List (List Value)} (h:winP e sz (.slice A n c) rows w) (hi:i≤n) (hij:i≤j) (hj:j≤c):winP e sz (.slice A i j) (rows.take i) w:=by
 obtain ⟨hn,hc,hm⟩:=h.len
 refine ⟨fun r hr=>h.1 r (List.mem_of_mem_take hr),?_⟩
 rcases h.2 with ⟨h1,h2⟩ | ⟨g,off,cap,cur,h1,h2,h3,h4,h5,h6⟩
 · cases h1;subst h2
   obtain rfl:i=0:=by omega
   obtain rfl:j=0:=by omega
   exact .inl ⟨rfl,by simp⟩
 · cases h1
   refine .inr ⟨g,off,j,cur,by rw [List.length_take,Nat.min_eq_left (by omega)],h2,by rw [List.length_take];omega,by omega,?_,fun k u hk=>?_⟩
   · have:=Nat.mul_le_mul_right sz hj
     omega
   · rw [D0 rows h.1 i (by omega),List.getElem?_take] at hk
     split at hk
     · exact h6 _ u hk
     · cases hk
theorem rSlF {t e:TypeId} {x lo:Operand} {A:Option Addr} {n c i sz:Nat} {k':IntKind} (ht:P.underlying t=some (.slice e)) (hz:∀ w,(sizeOf e).run P w = .ok sz w) (F:Has N a env) (hx:ev env x=some (.slice A n c)) (hl:ev env lo=some (.int k' (i:Int))) (hi:i≤n) :
   (execOp a.eval ⟨some d,.slice t x (some lo) none none,ty,pos,af,g⟩).run P w = .ok (.value (.slice (if c=i then A else A.map (·.add (i * sz))) (n - i) (c - i))) w:=by
 have he:P.elem t=e:=by simp [Program.elem,ht]
 have h1:=run_slice_l (P:=P) w t A n c (UH ht) k' (i:Int) (by omega) (by omega)
 rw [he,hz] at h1
 have h3:(Instr.slice t (.slice A n c) (some (.int k' (i:Int))) none none).run P w = .ok (.slice (if c=i then A else A.map (·.add (i * sz))) (n - i) (c - i)) w:=by
   rw [h1]
   simp only [Result.andThen_ok,sliced,Int.toNat_natCast]
 simp only [execOp,Option.map_some,Option.map_none,F.eval hx,F.eval hl,Sem.run_bind,run_sliceAt_slice w t _ _ _ none (UH ht),h3]
 rfl
theorem sSlF {t e:TypeId} {x lo:Operand} {A:Option Addr} {n c i sz:Nat} {k':IntKind} (ht:P.underlying t=some (.slice e)) (hz:∀ w,(sizeOf e).run P w = .ok sz w) (F:Has N a env) (hg:wants l env g=true) (hN:Nat.blt d N=true) (hx:ev env x=some (.slice A n c)) (hl:ev env lo=some (.int k' (i:Int))) (hi:i≤n)
   (K:∀ a,Has N a ((d,.slice (if c=i then A else A.map (·.add (i * sz))) (n - i) (c - i)) :: env)→wpList P l.toArray Q rest a w):wpList P l.toArray Q (⟨some d,.slice t x (some lo) none none,ty,pos,af,g⟩ :: rest) a w:=
 YM F hg rfl hN (rSlF ht hz F hx hl hi) K
end
-- VcO
open Go.RowKit
section
variable {P:Program} {l:List Oper} {Q:Exit→Act→World→Prop} {N:Nat} {a:Act} {env:List (Nat × Value)} {rest:List Oper} {d:Tmp} {ty:TypeId} {pos:String} {af:Array Edge} {g:Option (Nat × Bool)}
 {w0 w:World} {row:Option Nat} {rs:List Res} {Kt:Act→World→Prop}
theorem Own.setRws (H:Own w0 row w rs) (i:Nat) {e:TypeId} {sz n c g k:Nat} {rows:List (List Value)} {r:List Value} {j:Nat} {u:Value} (hi:rs[i]? = some (.rws e sz (.slice (some ⟨g,0,.none⟩) n c) rows)) (hl:∀ r ∈ rows,r.length=sz) (hj:rows[j]? = some r) (hk:k < sz) :
   w.there g (j * sz+k) 1∧Own w0 row (w.setCell ⟨g,j * sz+k,.none⟩ u) (rs.set i (.rws e sz (.slice (some ⟨g,0,.none⟩) n c) (rows.set j (r.set k u)))):=by
 have h:=H.arr i hi
 have hjl:=(List.getElem?_eq_some_iff.1 hj).1
 have hflat:=Wk rows hl
 have hrl:=hl r (List.mem_of_getElem? hj)
 have hjk:j * sz+k < rows.length * sz:=by
   have:=Nat.mul_le_mul_right sz (show j+1≤rows.length from hjl)
   rw [Nat.add_mul] at this
   omega
 have hset:∀ (rows:List (List Value)) (j:Nat),(∀ r ∈ rows,r.length=sz)→rows[j]? = some r→(rows.set j (r.set k u)).flatten=rows.flatten.set (j * sz+k) u:=by
   intro rows
   induction rows with
   | nil=>intro j _ h;simp at h
   | cons r0 rest ih=>
     intro j hl h
     have h0:r0.length=sz:=hl r0 (by simp)
     cases j with
     | zero=>
       simp at h;subst h
       simp only [List.set_cons_zero,List.flatten_cons,Nat.zero_mul,Nat.zero_add]
       rw [List.set_append_left _ _ (by omega)]
     | succ j=>
       simp only [List.set_cons_succ,List.flatten_cons]
       rw [ih j (fun r hm=>hl r (by simp [hm])) (by simpa using h),List.set_append_right _ _ (by rw [h0,Nat.add_mul];omega),h0]
       congr 2
       rw [Nat.add_mul];omega
 rcases h.2 with ⟨h1,_⟩ | ⟨g',cap,cur,h1,_,h2,h3,h4,h5,h6⟩
 · cases h1
 · have hg:g'=g:=by cases h1;rfl
   subst hg
   obtain ⟨rfl,rfl⟩:n=rows.length∧c=cap:=by cases h1;exact ⟨rfl,rfl⟩
   have hcs:rows.length * sz≤cur.size:=by rw [h5];exact Nat.mul_le_mul_right _ h3
   have hB:Blk w g' cur.toList e:=by unfold Blk;simpa using h2
   refine ⟨fun q hq=>?_,H.turn i hi _ (V8 H.grown (H.foot i _ hi g' rfl).1 _ _) (by simp [World.setCell]) (fun b _ hb=>Below.heap_setCell w _ u b (fun e=>hb (by rw [e];rfl))) ?_ (fun b hb=>⟨.inl hb,by
     have:g'=b:=by simpa [Res.rws,Res.arr,Value.ownBlock] using hb
     subst this
     simpa [World.setCell] using (H.foot i _ hi g' rfl).2⟩)⟩
   · obtain rfl:q=0:=by omega
     have hc:=hB.cell (j * sz+k) (v:=cur.toList[j * sz+k]'(by simpa using (by omega:j * sz+k < cur.size))) (List.getElem?_eq_getElem _)
     exact ⟨by rw [Nat.add_zero,hc];rfl,by rw [Nat.add_zero];exact hB.frozen _⟩
   · have h7:=hB.set (j * sz+k) u
     show World.ownsRow _ 0 e sz _ (rows.set j (r.set k u)).length (rows.set j (r.set k u)).flatten
     rw [hset rows j hl hj,List.length_set]
     refine ⟨by rw [List.length_set,hflat],.inr ⟨g',c,(cur.toList.set (j * sz+k) u).toArray,rfl,Nat.zero_le _,h7,h3,h4,by simpa using h5,?_⟩⟩
     simp only
     rw [List.take_set,h6]
theorem Gd {t:TypeId} {x y:Operand} {b o:Nat} {v:Value} (hz:∀ w,(sizeOf t).run P w = .ok 1 w) (F:Has N a env)
   (hx:ev env x=some (.pointer (some ⟨b,o,none⟩))) (hy:ev env y=some v) (h1:v.oneCell'=true) (ht:w.there b o 1):(execOp a.eval ⟨none,.store t x y,ty,pos,af,g⟩).run P w = .ok .skip (w.setCell ⟨b,o,none⟩ v):=by
 simp only [execOp,F.eval hx,F.eval hy]
 obtain ⟨hc,hf⟩:=ht 0 (by omega)
 rw [Nat.add_zero] at hc hf
 have h2:v.cells = #[v]:=by cases v <;> simp_all [Value.oneCell',Value.cells]
 have h3:=run_storeCells_cells (P:=P) b o [v] 0 w (fun q hq=>by simp at hq;subst hq;simpa using hc) (fun q hq=>by simp at hq;subst hq;simpa using hf) (fun q hq=>by simp at hq;subst hq;exact h1)
 simp only [Nat.add_zero] at h3
 have h4:(storeCells ⟨b,o,none⟩ [v]).run P w = .ok () (w.setCell ⟨b,o,none⟩ v):=h3
 simp only [Instr.storeAt,Instr.sureAddr,storeVar,h2,Sem.run_bind,Sem.run_pure,Result.andThen_ok,hz,List.size_toArray,List.length_cons,List.length_nil,ne_eq,not_true_eq_false,↓reduceIte,Nat.zero_add,h4]
theorem sStW {t:TypeId} {x y:Operand} {e:TypeId} {sz n c gb k o:Nat} {rows:List (List Value)} {r:List Value} {j:Nat} {v:Value} (H:Own w0 row w rs) (i:Nat) (hz:∀ w,(sizeOf t).run P w = .ok 1 w) (F:Has N a env) (hg:wants l env g=true)
   (hx:ev env x=some (.pointer (some ⟨gb,o,none⟩))) (hy:ev env y=some v) (h1:v.oneCell'=true) (hi:rs[i]? = some (.rws e sz (.slice (some ⟨gb,0,none⟩) n c) rows)) (hl:∀ r ∈ rows,r.length=sz) (hj:rows[j]? = some r) (hk:k < sz) (ho:o=j * sz+k)
   (K:∀ w,Own w0 row w (rs.set i (.rws e sz (.slice (some ⟨gb,0,none⟩) n c) (rows.set j (r.set k v))))→wpList P l.toArray Q rest a w):wpList P l.toArray Q (⟨none,.store t x y,ty,pos,af,g⟩ :: rest) a w:=by
 subst ho
 obtain ⟨h2,h3⟩:=H.setRws i (u:=v) hi hl hj hk
 exact BZ F hg rfl (w':=w.setCell ⟨gb,j * sz+k,none⟩ v) (Gd hz F hx hy h1 h2) (K _ h3)
theorem oStW {t:TypeId} {x y:Operand} {e:TypeId} {sz n c gb k o:Nat} {rows:List (List Value)} {r:List Value} {j:Nat} {v:Value} (H:Own w0 row w rs) (i:Nat) (hz:∀ w,(sizeOf t).run P w = .ok 1 w) (F:Has N a env)
   (hx:ev env x=some (.pointer (some ⟨gb,o,none⟩))) (hy:ev env y=some v) (h1:v.oneCell'=true) (hi:rs[i]? = some (.rws e sz (.slice (some ⟨gb,0,none⟩) n c) rows)) (hl:∀ r ∈ rows,r.length=sz) (hj:rows[j]? = some r) (hk:k < sz) (ho:o=j * sz+k)
   (K:∀ w,Own w0 row w (rs.set i (.rws e sz (.slice (some ⟨gb,0,none⟩) n c) (rows.set j (r.set k v))))→Kt a w):(Oper.mk none (.store t x y) ty pos af g).wp P a w Kt Q:=by
 subst ho
 obtain ⟨h2,h3⟩:=H.setRws i (u:=v) hi hl hj hk
 exact oU rfl (w':=w.setCell ⟨gb,j * sz+k,none⟩ v) (Gd hz F hx hy h1 h2) (K _ h3)
end
-- SoW
open Go.RowKit
set_option maxRecDepth 100000
def VX (m:Nat) (d:By):List (List Value):=(List.range m).map fun i=>[b8 (d i)]
theorem WQ (m:Nat) (d:By):(VX m d).length=m:=by unfold VX;rw [List.length_map,List.length_range]
theorem VW (m:Nat) (d:By):∀ r ∈ VX m d,r.length=1:=fun r hr=>by
 unfold VX at hr
 obtain ⟨i,_,rfl⟩:=List.mem_map.1 hr
 rfl
theorem Z1 {m:Nat} (d:By) {i:Nat} (h:i < m):(VX m d)[i]? = some [b8 (d i)]:=by
 unfold VX
 rw [List.getElem?_map,List.getElem?_range h];rfl
theorem QI {m:Nat} (d:By) (j:Nat) (v:UInt8):(VX m d).set j [b8 v]=VX m (put d j v):=by
 refine List.ext_getElem? fun i=>?_
 rw [List.getElem?_set,WQ]
 rcases Nat.lt_or_ge i m with h | h
 · rw [Z1 _ h,Z1 _ h]
   unfold put
   by_cases e:j=i
   · rw [if_pos e,if_pos (by omega),if_pos e.symm]
   · rw [if_neg e,if_neg (fun x=>e x.symm)]
 · rw [List.getElem?_eq_none (by rw [WQ];exact h),List.getElem?_eq_none (by rw [WQ];exact h)]
   by_cases e:j=i
   · rw [if_pos e,if_neg (by omega)]
   · rw [if_neg e]
theorem B5 (l:List UInt8):l.map (fun x=>[b8 x])=VX l.length (ofL l):=by
 refine List.ext_getElem? fun i=>?_
 rcases Nat.lt_or_ge i l.length with h | h
 · rw [Z1 _ h,List.getElem?_map,List.getElem?_eq_getElem h]
   unfold ofL
   rw [List.getD_eq_getElem?_getD,List.getElem?_eq_getElem h];rfl
 · rw [List.getElem?_eq_none (by rw [List.length_map];exact h),List.getElem?_eq_none (by rw [WQ];exact h)]
abbrev Res.byt (g m c:Nat) (d:By):Res:=.rws 5 1 (.slice (some ⟨g,0,none⟩) m c) (VX m d)
theorem Own.bytCell {w0 w:World} {row:Option Nat} {rs:List Res} (H:Own w0 row w rs) (i:Nat) {g m c j:Nat} {d:By} (hi:rs[i]? = some (.byt g m c d)) (hj:j < m):w.cell? ⟨g,0+j * 1,.none⟩=some (b8 (d j)):=by
 obtain ⟨b,off,h1,h2⟩:=H.rowsAt i hi (VW m d) (by decide) j _ (Z1 d hj)
 cases h1
 exact h2 0 _ rfl
theorem Own.by' {w0 w:World} {row:Option Nat} {rs:List Res} (H : Own w0 row w rs) (i : Nat) {g m c j:Nat} {d:By} (hi : rs[i]? = some (.byt g m c d)) (hj : j < m := by omega) : w.cell? ⟨g,0+j * 1,.none⟩=some (b8 (d j)) := Own.bytCell H i hi hj
section
variable {P:Program} {l:List Oper} {Q:Exit→Act→World→Prop} {N:Nat} {a:Act} {env:List (Nat × Value)} {rest:List Oper} {d:Tmp} {ty:TypeId} {pos:String} {af:Array Edge} {g:Option (Nat × Bool)} {w w0:World} {row:Option Nat} {rs:List Res} {Kt:Act→World→Prop}
theorem sStY {t:TypeId} {x y:Operand} {m c gb j:Nat} {s:By} {v:UInt8} (H:Own w0 row w rs) (i:Nat) (hz:∀ w,(sizeOf t).run P w = .ok 1 w) (F:Has N a env) (hg:wants l env g=true)
   (hx:ev env x=some (.pointer (some ⟨gb,0+j * 1,none⟩))) (hy:ev env y=some (b8 v)) (hi:rs[i]? = some (.byt gb m c s)) (hj:j < m)
   (K:∀ w,Own w0 row w (rs.set i (.byt gb m c (put s j v)))→wpList P l.toArray Q rest a w):wpList P l.toArray Q (⟨none,.store t x y,ty,pos,af,g⟩ :: rest) a w:=by
 refine sStW (k:=0) (j:=j) H i hz F hg hx hy rfl hi (VW m s) (Z1 s hj) (by decide) (by omega) fun w h=>K w ?_
 rw [show [b8 (s j)].set 0 (b8 v)=[b8 v] from rfl,QI] at h
 exact h
theorem Wa {t:TypeId} {x y:Operand} {m c gb j:Nat} {s:By} {v:UInt8} (H:Own w0 row w rs) (i:Nat) (hz:∀ w,(sizeOf t).run P w = .ok 1 w) (F:Has N a env)
   (hx:ev env x=some (.pointer (some ⟨gb,0+j * 1,none⟩))) (hy:ev env y=some (b8 v)) (hi:rs[i]? = some (.byt gb m c s)) (hj:j < m)
   (K:∀ w,Own w0 row w (rs.set i (.byt gb m c (put s j v)))→Kt a w):(Oper.mk none (.store t x y) ty pos af g).wp P a w Kt Q:=by
 refine oStW (k:=0) (j:=j) H i hz F hx hy rfl hi (VW m s) (Z1 s hj) (by decide) (by omega) fun w h=>K w ?_
 rw [show [b8 (s j)].set 0 (b8 v)=[b8 v] from rfl,QI] at h
 exact h
end
-- SoA
open Go.RowKit
set_option maxRecDepth 100000
theorem L8 (x:UInt8) (w0:World):Calls Tryz.prog 120 #[Go.Proofs.YtagnefpgidbhnaaGreatDoor.b8 x] w0 fun e w'=>e = .returned (.bool false)∧Below w0.heap.size w0 w':=by
 have H:=Own.start w0 none
 refine XE Tryz.func120 rfl Tryz.ntmps120 rfl (fun a F=>?_);refine cSR fun K1 hK1=>Xa F rfl (qNK hK1 (qSR fun K2 hK2=>Xd rfl (Xd rfl (Xj rfl rfl En (Xh rfl (qNK hK2 ?_))))));clear hK1 hK2;clear F a;intro a F;refine wp_ret ?_;refine bRet Tryz.results120 F rfl ?_
 exact ⟨by simp,H.below⟩
theorem YE (x y:UInt8) (w0:World):Calls Tryz.prog 106 #[Go.Proofs.YtagnefpgidbhnaaGreatDoor.b8 x,Go.Proofs.YtagnefpgidbhnaaGreatDoor.b8 y] w0 fun e w'=>e = .returned (.bool (decide (x.toNat < y.toNat)))∧Below w0.heap.size w0 w':=by
 have H:=Own.start w0 none
 refine XE Tryz.func106 rfl Tryz.ntmps106 rfl (fun a F=>?_);refine cSR fun K1 hK1=>Xa F rfl (qNK hK1 (qSR fun K2 hK2=>Xd rfl ?_));clear hK1;clear F a;intro a F;refine Xn Tryz.call120 F rfl (L8 x _) (gG H ?_);clear F a H;intro a w F H;refine Xl F rfl ?_;clear F a;intro a F
 refine F.split 7 rfl ?_ ?_ <;> (clear F;intro h7 F)
 ·
  cases h7
 refine Xe F (Xf (Xf (Xg rfl rfl (Xd rfl (Xd rfl (Xd rfl (Xj rfl rfl GY (Xg rfl rfl (Xh rfl (qNK hK2 ?_))))))))));clear hK2;clear F a;intro a F;refine wp_ret ?_;refine bRet Tryz.results106 F rfl ?_
 exact ⟨by simp [UInt8.lt_iff_toNat_lt],H.below⟩
theorem YU {w0 w:World} {row:Option Nat} {rs:List Res} {g n c i j:Nat} {d:By} (H:Own w0 row w (.byt g n c (put (put d i (d j)) j (d i)) :: rs)):Own w0 row w (.byt g n c (swp d i j) :: rs):=by
 rw [Dj] at H;exact H
set_option maxHeartbeats 1000000 in
theorem Mb (g n c:Nat) (d:By) (lo hi:Nat) (W:World) (row:Option Nat) (rs:List Res) (w0:World) (H:Own W row w0 (.byt g n c d :: rs)) (hb:hi≤n) (hn:n≤1000000) (hab:lo≤hi) :
   Calls Tryz.prog 100 #[.slice (some ⟨g,0,none⟩) n c,.int .i64 (lo:Int),.int .i64 (hi:Int)] w0 fun e w'=>e = .returned (.tuple #[])∧∃ d',Sm lo hi d d'∧Srt lo hi d'∧Own W row w' (.byt g n c d' :: rs):=by
 refine XE Tryz.func100 rfl Tryz.ntmps100 rfl (fun a F=>?_);refine cSR fun K1 hK1=>Xl F rfl ?_;clear F a;intro a F
 refine Xm F rfl rfl (XJ (j:=1) ?_) ?_
 focus omega
 clear F a;intro a F;refine Xa F rfl (qNK hK1 ?_);clear hK1;clear F a;intro a F;refine wp_block ?_
 refine cLoopS [0,1,2] (fun m ups w=>∃ (i:Nat) (e:By),m=hi - i∧ups=[(6,.int .i64 ((i:Nat):Int))]∧lo+1≤i∧(i≤hi∨i=lo+1)∧Sm lo hi d e∧Srt lo i e∧Own W row w (.byt g n c e :: rs)) F (hi - (lo+1)) [(6,.int .i64 ((lo+1:Nat):Int))] ?_ ?_
 · exact ⟨lo+1,d,rfl,rfl,Nat.le_refl _,.inr rfl,Sm.refl _ _ _,Srt.small _ (Nat.le_refl _),H⟩
 clear F
 clear H
 intro m ups a w hI F
 obtain ⟨i,e,rfl,rfl,hai,hib,hsm,hsr,H⟩:=hI
 refine cSeq (fun K2 hK2=>?_);refine cSR fun K3 hK3=>Xl F rfl (Xd rfl (Xj rfl rfl YW (qNK hK3 ?_)));clear hK3;clear F a;intro a F
 refine cIf F rfl (fun h12=>?_) (fun h12=>?_)
 ·
  replace h12:=of_decide_eq_true h12
  have hil:i < hi:=by omega
  refine wp_skip (hK2 _ _ ?_);clear hK2;refine cSeq (fun K4 hK4=>?_);refine wp_block ?_;refine cSR fun K5 hK5=>Xl F rfl (Xh rfl (qNK hK5 ?_));clear hK5;clear F a;intro a F;refine wp_block ?_
  refine cLoopS [0,1,2,6] (fun m ups w=>∃ (j:Nat) (f:By),m=j+1∧ups=[(7,.int .i64 ((j:Nat):Int))]∧Insd lo i j f∧Sm lo hi d f∧Own W row w (.byt g n c f :: rs)) F (i+1) [(7,.int .i64 ((i:Nat):Int))] ?_ ?_
  · exact ⟨i,e,rfl,rfl,Insd.start hsr (by omega),hsm,H⟩
  clear F
  clear H
  intro m ups a w hI F
  obtain ⟨j,f,rfl,rfl,hins,hsm2,H⟩:=hI;have hjl:=hins.lo;have hjh:=hins.hi
  refine cSeq (fun K6 hK6=>?_);refine cSeq (fun K7 hK7=>?_);refine cRegRO (by kernel_rfl) H ?_;replace H:=H.drew;refine Xt 0 rfl F rfl (fun w=>rMv F rfl) H qq0 (Xu 1 rfl rfl (fun a F w=>rMv F rfl) H qq0 (Xu 2 rfl rfl (fun a F w=>YA F rfl rfl UO) H qq0 (Xu 3 rfl rfl (fun a F w=>rMv F rfl) H qq0 ?_)));clear F a;intro a F
  refine F.split 19 rfl ?_ ?_ <;> (clear F;intro h19 F)
  ·
   replace h19:=of_decide_eq_true h19
   have hja:lo < j:=by omega
   refine Xt 4 rfl F rfl (fun w=>rMv F rfl) H qq0 (Xu 5 rfl rfl (fun a F w=>rMv F rfl) H qq0 ?_);clear F a;intro a F
   refine Xv (k:=6) (i:=6) rfl F rfl (fun w=>rIx Tryz.underlying23 Tryz.sizeOf5 F rfl rfl ?_) H (fun _ _ _ h=>h) ?_
   focus (omega)
   clear F a;intro a F;refine Xw 7 rfl F rfl rfl (fun w H=>rLd Tryz.isAgg5 F rfl (H.by' 0 rfl)) H qq0 (Xu 8 rfl rfl (fun a F w=>rMv F rfl) H qq0 (Xu 9 rfl rfl (fun a F w=>rMv F rfl) H qq0 ?_));clear F a;intro a F
   refine Xv (k:=10) (i:=10) rfl F rfl (fun w=>YA F rfl rfl (Yp (j:=1) ?_ ?_)) H (fun _ _ _ h=>h) ?_
   focus omega
   focus omega
   clear F a;intro a F
   refine Xv (k:=11) (i:=11) rfl F rfl (fun w=>rIx Tryz.underlying23 Tryz.sizeOf5 F rfl rfl ?_) H (fun _ _ _ h=>h) ?_
   focus (omega)
   clear F a;intro a F;refine Xw 12 rfl F rfl rfl (fun w H=>rLd Tryz.isAgg5 F rfl (H.by' 0 rfl)) H qq0 ?_;clear F a;intro a F;refine Xx (k:=13) (i:=13) rfl (by kernel_rfl) F (XS Tryz.call106 F rfl rfl (YE (f j) (f (j - 1)) _) ?_);rintro e w ⟨rfl,hb⟩;replace H:=H.grow hb;clear hb;refine ⟨_,rfl,?_⟩;clear F a;intro a F;refine XF (by kernel_rfl) H ?_;refine Xt 14 rfl F rfl (fun w=>rPk F rfl rfl) H qq0 ?_;clear F a;intro a F;refine eNil (k:=15) (by kernel_rfl) ?_;refine hK7 _ _ ?_;clear hK7
   refine cIf F rfl (fun h30=>?_) (fun h30=>?_)
   ·
    refine wp_skip (hK6 _ _ ?_);clear hK6;refine cSeq (fun K8 hK8=>?_);refine wp_block ?_;refine cRegRO (by kernel_rfl) H ?_;replace H:=H.drew;refine Xt 0 rfl F rfl (fun w=>rMv F rfl) H qq0 (Xu 1 rfl rfl (fun a F w=>rMv F rfl) H qq0 (Xu 2 rfl rfl (fun a F w=>rMv F rfl) H qq0 (Xu 3 rfl rfl (fun a F w=>rMv F rfl) H qq0 ?_)));clear F a;intro a F
    refine Xv (k:=4) (i:=4) rfl F rfl (fun w=>YA F rfl rfl (Yp (j:=1) ?_ ?_)) H (fun _ _ _ h=>h) ?_
    focus omega
    focus omega
    clear F a;intro a F;refine Xt 5 rfl F rfl (fun w=>rMv F rfl) H qq0 (Xu 6 rfl rfl (fun a F w=>rMv F rfl) H qq0 ?_);clear F a;intro a F
    refine Xv (k:=7) (i:=7) rfl F rfl (fun w=>YA F rfl rfl (Yp (j:=1) ?_ ?_)) H (fun _ _ _ h=>h) ?_
    focus omega
    focus omega
    clear F a;intro a F
    refine Xv (k:=8) (i:=8) rfl F rfl (fun w=>rIx Tryz.underlying23 Tryz.sizeOf5 F rfl rfl ?_) H (fun _ _ _ h=>h) ?_
    focus (omega)
    clear F a;intro a F;refine Xw 9 rfl F rfl rfl (fun w H=>rLd Tryz.isAgg5 F rfl (H.by' 0 rfl)) H qq0 (Xu 10 rfl rfl (fun a F w=>rMv F rfl) H qq0 (Xu 11 rfl rfl (fun a F w=>rMv F rfl) H qq0 ?_));clear F a;intro a F
    refine Xv (k:=12) (i:=12) rfl F rfl (fun w=>rIx Tryz.underlying23 Tryz.sizeOf5 F rfl rfl ?_) H (fun _ _ _ h=>h) ?_
    focus (omega)
    clear F a;intro a F;refine Xw 13 rfl F rfl rfl (fun w H=>rLd Tryz.isAgg5 F rfl (H.by' 0 rfl)) H qq0 ?_;clear F a;intro a F
    refine Xv (k:=14) (i:=14) rfl F rfl (fun w=>rIx Tryz.underlying23 Tryz.sizeOf5 F rfl rfl ?_) H (fun _ _ _ h=>h) ?_
    focus (omega)
    clear F a;intro a F;refine Xx (k:=15) (i:=15) rfl (by kernel_rfl) F (Wa H 0 Tryz.sizeOf5 F rfl rfl rfl (by omega) ?_);clear H;intro w H;refine XF (by kernel_rfl) H ?_
    refine Xv (k:=16) (i:=16) rfl F rfl (fun w=>rIx Tryz.underlying23 Tryz.sizeOf5 F rfl rfl ?_) H (fun _ _ _ h=>h) ?_
    focus (omega)
    clear F a;intro a F;refine Xx (k:=17) (i:=17) rfl (by kernel_rfl) F (Wa H 0 Tryz.sizeOf5 F rfl rfl rfl (by omega) ?_);clear H;intro w H;refine XF (by kernel_rfl) H ?_;refine eNil (k:=18) (by kernel_rfl) ?_;refine hK8 _ _ (cReg (Xl F rfl ?_));clear hK8;clear F a;intro a F
    refine Xm F rfl rfl (Yp (j:=1) ?_ ?_) ?_
    focus omega
    focus omega
    clear F a;intro a F;refine Xa F rfl ?_;clear F a;intro a F;refine sNil ?_
    (exact ⟨_,by omega,_,⟨j - 1,_,rfl,rfl,hins.step hja (of_decide_eq_true h30),hsm2.trans (Sm.swap f (by omega) (by omega) (by omega) (by omega)),YU H⟩,F.tt⟩)
   refine wp_exit ?_;refine hK4 _ _ (cReg (Xl F rfl ?_));clear hK4;clear F a;intro a F
   refine Xm F rfl rfl (XJ (j:=1) ?_) ?_
   focus omega
   clear F a;intro a F;refine Xa F rfl ?_;clear F a;intro a F;refine sNil ?_
   (have hd:=hins.done (.inr (of_decide_eq_false h30))
    exact ⟨_,by omega,_,⟨i+1,_,rfl,rfl,by omega,.inl (by omega),hsm2,hd,H⟩,F.tt⟩)
  replace h19:=of_decide_eq_false h19;refine eSF 4 rfl (by kernel_rfl) F rfl rfl rfl H qq0 (Xy 5 rfl rfl H qq0 (Xy 6 rfl rfl H qq0 (Xy 7 rfl rfl H qq0 (Xy 8 rfl rfl H qq0 (Xy 9 rfl rfl H qq0 (Xy 10 rfl rfl H qq0 (Xy 11 rfl rfl H qq0 (Xy 12 rfl rfl H qq0 (Xy 13 rfl rfl H qq0 (Xu 14 rfl rfl (fun a F w=>rPk F rfl rfl) H qq0 ?_))))))))));clear F a;intro a F;refine eNil (k:=15) (by kernel_rfl) ?_;refine hK7 _ _ ?_;clear hK7;refine cIfF F rfl ?_;refine wp_exit ?_;refine hK4 _ _ (cReg (Xl F rfl ?_));clear hK4;clear F a;intro a F
  refine Xm F rfl rfl (XJ (j:=1) ?_) ?_
  focus omega
  clear F a;intro a F;refine Xa F rfl ?_;clear F a;intro a F;refine sNil ?_
  (have hd:=hins.done (.inl (by omega))
   exact ⟨_,by omega,_,⟨i+1,_,rfl,rfl,by omega,.inl (by omega),hsm2,hd,H⟩,F.tt⟩)
 replace h12:=of_decide_eq_false h12;refine wp_exit ?_
 (simp only [Exit.then,Exit.inBlock,if_true];(repeat (first | rw [if_pos rfl] | rw [if_neg (by decide)]));refine bEnd Tryz.results100 F ?_)
 exact ⟨rfl,e,hsm,fun k h1 h2=>hsr k h1 (by omega),H⟩
end Go.Proofs.YtagnefpgidbhnaaGreatDoor
