/-
  Plain Lean: what is printed is parsed back: conditions. Nothing of the program. Conditions: none.
-/
import Derived.Test.YtkchaoajegkadaaGreatDoorJn3
set_option linter.unusedSimpArgs false
set_option linter.unusedVariables false
namespace Go.Proofs.YtkchaoajegkadaaGreatDoor
-- PtS
def condTk (locs:List ByteArray):Cnd→List (Nat × List UInt8)
 | .mk k t n v kids=>
   if k=0 then [(1,[116,114,117,101])]
   else if k=1 then [(2,numT t),(3,[58]),(1,regT n),(3,[61]),(2,numT v)]
   else if k=2 then [(1,locT locs n),(3,[61]),(2,numT v)]
   else if k=5 then (3,[33]) :: kidsK true [] true kids
   else if k=3 then kidsK true [(3,[38])] true kids
   else kidsK false [(3,[124])] true kids
where
 kidsK (and:Bool) (mid:List (Nat × List UInt8)):Bool→List Cnd→List (Nat × List UInt8)
 | _,[]=>[]
 | first,.mk k t n v kids :: r=>(if first then [] else mid)++(if k=4∨and=true∧k=3 then (3,[40]) :: (condTk locs (.mk k t n v kids)++[(3,[41])]) else condTk locs (.mk k t n v kids))++kidsK and mid false r
def Cnd.kind:Cnd→UInt8 | .mk k _ _ _ _=>k
def tokG (locs:List ByteArray) (and:Bool) (x:Cnd):List (Nat × List UInt8):=if x.kind=4∨and=true∧x.kind=3 then (3,[40]) :: (condTk locs x++[(3,[41])]) else condTk locs x
theorem kidsK_cons (locs:List ByteArray) (and:Bool) (mid:List (Nat × List UInt8)) (first:Bool) (x:Cnd) (r:List Cnd):condTk.kidsK locs and mid first (x :: r)=(if first then [] else mid)++tokG locs and x++condTk.kidsK locs and mid false r:=by
 cases x;rfl
def PrC (nl:Nat):Nat→Cnd→Prop
 | 0,_=>False
 | h+1,.mk k t n v kids=>
   k=0∧t=0∧n=0∧v=0∧kids=[]∨k=1∧n.toNat < 8∧kids=[]∨k=2∧t=0∧n.toNat < nl∧kids=[] ∨
   (k=5∧t=0∧n=0∧v=0)∧(∃ y,kids=[y]∧PrC nl h y)∨((k=3∨k=4)∧t=0∧n=0∧v=0)∧2≤kids.length∧∀ y ∈ kids,PrC nl h y
section
variable {c:PX} {locs:List ByteArray}
def Back (c:PX) (locs:List ByteArray) (part:PS→Rs Cnd) (l:List (Nat × List UInt8)) (look:Nat→Prop) (x:Cnd):Prop:=
 ∀ s:PS,s.names=locs→At c s.pos l→look (s.pos+l.length)→part s = .ok x ⟨s.pos+l.length,locs⟩
theorem At.lt {i:Nat} {l:List (Nat × List UInt8)} (h:At c i l) (hk:∀ x ∈ l,x.1 ≠ 0):∀ a,a < l.length→i+a < c.ts.length:=fun a ha=>by
 refine kind_lt ?_
 rw [(h a l[a] (List.getElem?_eq_getElem ha)).1]
 exact hk _ (List.getElem_mem _)
def restK (str:List UInt8) (tok:Cnd→List (Nat × List UInt8)):List Cnd→List (Nat × List UInt8)
 | []=>[]
 | y :: r=>(3,str) :: (tok y++restK str tok r)
theorem restK_len (str:List UInt8) (tok:Cnd→List (Nat × List UInt8)):∀ r:List Cnd,r.length≤(restK str tok r).length
 | []=>Nat.le_refl _
 | y :: r=>by
   have:=restK_len str tok r
   unfold restK
   rw [List.length_cons,List.length_cons,List.length_append];omega
theorem sevL_back {part:PS→Rs Cnd} {str:List UInt8} {tok:Cnd→List (Nat × List UInt8)} {look:Nat→Prop} (hl:∀ i,c.is i str=true→look i) :
   ∀ (r:List Cnd) (f:Nat) (ks:List Cnd) (s:PS),(∀ y ∈ r,Back c locs part (tok y) look y)→r.length+1≤f→s.names=locs→At c s.pos (restK str tok r)→look (s.pos+(restK str tok r).length)→c.is (s.pos+(restK str tok r).length) str=false →
     sevL c part str f ks s = .ok (ks++r) ⟨s.pos+(restK str tok r).length,locs⟩
 | [],f,ks,s,_,hf,hn,_,_,he=>by
   obtain ⟨f,rfl⟩:∃ g,f=g+1:=⟨f - 1,by simp at hf;omega⟩
   unfold sevL
   have he:c.is s.pos str=false:=he
   rw [he,List.append_nil,← hn]
   rfl
 | y :: r,f,ks,s,hp,hf,hn,ha,hlk,he=>by
   obtain ⟨f,rfl⟩:∃ g,f=g+1:=⟨f - 1,by simp at hf;omega⟩
   have hf:r.length+1≤f:=by simp at hf;omega
   have ha:At c s.pos ((3,str) :: (tok y++restK str tok r)):=ha
   have e1:c.is s.pos str=true:=by rw [is_at ha.head];exact beq_self_eq_true _
   have el:(restK str tok (y :: r)).length=1+(tok y).length+(restK str tok r).length:=by
     show ((3,str) :: (tok y++restK str tok r)).length=_
     rw [List.length_cons,List.length_append];omega
   rw [el] at hlk he ⊢
   have hb:At c (s.pos+1+(tok y).length) (restK str tok r):=ha.tail.back
   have hlook:look (s.next.pos+(tok y).length):=by
     show look (s.pos+1+(tok y).length)
     cases hr:r with
     | nil=>
       rw [hr] at hlk
       have:s.pos+(1+(tok y).length+(restK str tok []).length)=s.pos+1+(tok y).length:=by show s.pos+(1+(tok y).length+0)=_;omega
       rwa [this] at hlk
     | cons z r'=>
       rw [hr] at hb
       have hb:At c (s.pos+1+(tok y).length) ((3,str) :: (tok z++restK str tok r')):=hb
       exact hl _ (by rw [is_at hb.head];exact beq_self_eq_true _)
   have e2:=hp y (by simp) s.next hn ha.tail.fore hlook
   have ih:=sevL_back hl r f (ks++[y]) ⟨s.pos+1+(tok y).length,locs⟩ (fun z hz=>hp z (by simp [hz])) hf rfl hb (by
     show look (s.pos+1+(tok y).length+(restK str tok r).length)
     rwa [show s.pos+1+(tok y).length+(restK str tok r).length=s.pos+(1+(tok y).length+(restK str tok r).length) by omega]) (by
     show c.is (s.pos+1+(tok y).length+(restK str tok r).length) str=false
     rwa [show s.pos+1+(tok y).length+(restK str tok r).length=s.pos+(1+(tok y).length+(restK str tok r).length) by omega])
   unfold sevL
   rw [e1,e2]
   show sevL c part str f (ks++[y]) ⟨s.pos+1+(tok y).length,locs⟩=_
   rw [ih,List.append_assoc]
   show Rs.ok (ks++(y :: r)) ⟨s.pos+1+(tok y).length+(restK str tok r).length,locs⟩=_
   rw [show s.pos+1+(tok y).length+(restK str tok r).length=s.pos+(1+(tok y).length+(restK str tok r).length) by omega]
theorem sev_one {part:PS→Rs Cnd} {kind:UInt8} {str:List UInt8} {l:List (Nat × List UInt8)} {look:Nat→Prop} {x:Cnd} (h:Back c locs part l look x):Back c locs (sevP c kind str part) l (fun i=>look i∧c.is i str=false) x:=fun s hn ha hlk=>by
 unfold sevP
 rw [h s hn ha hlk.1]
 show (if c.is (s.pos+l.length) str=true then _ else _)=_
 rw [hlk.2]
 rfl
theorem sev_back {part:PS→Rs Cnd} {kind:UInt8} {str:List UInt8} {tok:Cnd→List (Nat × List UInt8)} {look:Nat→Prop} (hl:∀ i,c.is i str=true→look i) {y z:Cnd} {r:List Cnd} (hp:∀ x ∈ y :: z :: r,Back c locs part (tok x) look x) (hk:∀ x ∈ tok y++restK str tok (z :: r),x.1 ≠ 0) (hne:tok y ≠ []) :
   Back c locs (sevP c kind str part) (tok y++restK str tok (z :: r)) (fun i=>look i∧c.is i str=false) (.mk kind 0 0 0 (y :: z :: r)):=fun s hn ha hlk=>by
 have hb:At c (s.pos+(tok y).length) (restK str tok (z :: r)):=ha.back
 have hb':At c (s.pos+(tok y).length) ((3,str) :: (tok z++restK str tok r)):=hb
 have e1:c.is (s.pos+(tok y).length) str=true:=by rw [is_at hb'.head];exact beq_self_eq_true _
 have e2:=hp y (by simp) s hn ha.fore (hl _ e1)
 have el:(tok y++restK str tok (z :: r)).length=(tok y).length+(restK str tok (z :: r)).length:=List.length_append
 rw [el] at hlk ⊢
 have hpos:0 < (tok y).length:=List.length_pos_iff.2 hne
 have hrl:=restK_len str tok (z :: r)
 have hroom:=ha.lt hk ((tok y).length+(restK str tok (z :: r)).length - 1) (by rw [el];omega)
 rw [← Nat.add_assoc] at hlk
 have e3:=sevL_back hl (z :: r) c.ts.length [y] ⟨s.pos+(tok y).length,locs⟩ (fun x hx=>hp x (List.mem_cons_of_mem _ hx)) (by omega) rfl hb hlk.1 hlk.2
 unfold sevP
 rw [e2]
 show (if c.is (s.pos+(tok y).length) str=true then _ else _)=_
 rw [e1]
 show ((sevL c part str c.ts.length [y] ⟨s.pos+(tok y).length,locs⟩).bind _)=_
 rw [e3]
 show Rs.ok (Cnd.mk kind 0 0 0 ([y]++(z :: r))) ⟨s.pos+(tok y).length+(restK str tok (z :: r)).length,locs⟩=_
 rw [Nat.add_assoc]
 rfl
theorem paren_back {n:Nat} {l:List (Nat × List UInt8)} {x:Cnd} (h:Back c locs (disjP c n) l (fun i=>(True∧c.is i [38]=false)∧c.is i [124]=false) x):Back c locs (factP c (n+1)) ((3,[40]) :: (l++[(3,[41])])) (fun _=>True) x:=fun s hn ha _=>by
 have h1:c.kind s.pos=3∧(c.text s.pos).toList=[40]:=ha.head
 have h3:At c (s.pos+1+l.length) [(3,[41])]:=ha.tail.back
 have h4:c.kind (s.pos+1+l.length)=3∧(c.text (s.pos+1+l.length)).toList=[41]:=h3.head
 have e1:=h s.next hn ha.tail.fore ⟨⟨trivial,by rw [is_at (i:=s.next.pos+l.length) h4];decide⟩,by rw [is_at (i:=s.next.pos+l.length) h4];decide⟩
 unfold factP
 rw [is_at h1,is_at h1]
 show ((sevP c 4 [124] (sevP c 3 [38] (factP c n)) s.next).bind _)=_
 have e2:sevP c 4 [124] (sevP c 3 [38] (factP c n)) s.next = .ok x ⟨s.pos+1+l.length,locs⟩:=e1
 rw [e2]
 show ((signP c [41] ⟨s.pos+1+l.length,locs⟩).bind _)=_
 rw [sign_back (s:=⟨s.pos+1+l.length,locs⟩) h4]
 show Rs.ok x ⟨s.pos+1+l.length+1,locs⟩=_
 rw [List.length_cons,List.length_append,List.length_singleton]
 congr 2
 omega
theorem kidsK_rest (and:Bool) (str:List UInt8):∀ r:List Cnd,condTk.kidsK locs and [(3,str)] false r=restK str (tokG locs and) r
 | []=>rfl
 | y :: r=>by
   rw [kidsK_cons,kidsK_rest and str r]
   rfl
theorem condK_kinds:∀ (h:Nat) (x:Cnd),PrC locs.length h x→(∀ y ∈ condTk locs x,y.1 ≠ 0)∧condTk locs x ≠ []
 | 0,_,hx=>hx.elim
 | h+1,.mk k t n v kids,hx=>by
   have hg:∀ (and:Bool) (y:Cnd),PrC locs.length h y→(∀ z ∈ tokG locs and y,z.1 ≠ 0)∧tokG locs and y ≠ []:=fun and y hy=>by
     obtain ⟨h1,h2⟩:=condK_kinds h y hy
     unfold tokG
     split
     · refine ⟨fun z hz=>?_,List.cons_ne_nil _ _⟩
       rcases List.mem_cons.1 hz with rfl | hz
       · decide
       · rcases List.mem_append.1 hz with hz | hz
         · exact h1 z hz
         · rw [List.mem_singleton.1 hz];decide
     · exact ⟨h1,h2⟩
   have hr:∀ (and:Bool) (str:List UInt8) (r:List Cnd),(∀ y ∈ r,PrC locs.length h y)→∀ z ∈ restK str (tokG locs and) r,z.1 ≠ 0:=by
     intro and str r
     induction r with
     | nil=>intro _ z hz;exact absurd hz List.not_mem_nil
     | cons y r ih=>
       intro hy z hz
       have hz:z ∈ (3,str) :: (tokG locs and y++restK str (tokG locs and) r):=hz
       rcases List.mem_cons.1 hz with rfl | hz
       · exact Nat.succ_ne_zero _
       · rcases List.mem_append.1 hz with hz | hz
         · exact (hg and y (hy y (by simp))).1 z hz
         · exact ih (fun w hw=>hy w (by simp [hw])) z hz
   rcases hx with ⟨rfl,rfl,rfl,rfl,rfl⟩ | ⟨rfl,_,rfl⟩ | ⟨rfl,rfl,_,rfl⟩ | ⟨⟨rfl,rfl,rfl,rfl⟩,y,rfl,hy⟩ | ⟨⟨hk,rfl,rfl,rfl⟩,hl,hy⟩
   · exact ⟨fun z hz=>by rw [List.mem_singleton.1 hz];decide,List.cons_ne_nil _ _⟩
   · refine ⟨fun z hz=>?_,List.cons_ne_nil _ _⟩
     have hz:z ∈ [((2:Nat),numT t),(3,[58]),(1,regT n),(3,[61]),(2,numT v)]:=hz
     simp only [List.mem_cons,List.not_mem_nil,or_false] at hz
     rcases hz with rfl | rfl | rfl | rfl | rfl <;> exact Nat.succ_ne_zero _
   · refine ⟨fun z hz=>?_,List.cons_ne_nil _ _⟩
     have hz:z ∈ [((1:Nat),locT locs n),(3,[61]),(2,numT v)]:=hz
     simp only [List.mem_cons,List.not_mem_nil,or_false] at hz
     rcases hz with rfl | rfl | rfl <;> exact Nat.succ_ne_zero _
   · have e:condTk locs (.mk 5 0 0 0 [y])=(3,[33]) :: tokG locs true y:=by
       show (3,[33]) :: condTk.kidsK locs true [] true [y]=_
       rw [kidsK_cons]
       show (3,[33]) :: ([]++tokG locs true y++[])=_
       rw [List.nil_append,List.append_nil]
     rw [e]
     refine ⟨fun z hz=>?_,List.cons_ne_nil _ _⟩
     rcases List.mem_cons.1 hz with rfl | hz
     · decide
     · exact (hg true y hy).1 z hz
   · obtain ⟨y,z,r,rfl⟩:∃ y z r,kids=y :: z :: r:=by
       match kids,hl with
       | y :: z :: r,_=>exact ⟨y,z,r,rfl⟩
     have e:∃ (and:Bool) (str:List UInt8),condTk locs (.mk k 0 0 0 (y :: z :: r))=tokG locs and y++restK str (tokG locs and) (z :: r):=by
       rcases hk with rfl | rfl
       · refine ⟨true,[38],?_⟩
         show condTk.kidsK locs true [(3,[38])] true (y :: z :: r)=_
         rw [kidsK_cons,kidsK_rest]
         rfl
       · refine ⟨false,[124],?_⟩
         show condTk.kidsK locs false [(3,[124])] true (y :: z :: r)=_
         rw [kidsK_cons,kidsK_rest]
         rfl
     obtain ⟨and,str,e⟩:=e
     rw [e]
     refine ⟨fun w hw=>?_,List.append_ne_nil_of_left_ne_nil (hg and y (hy y (by simp))).2 _⟩
     rcases List.mem_append.1 hw with hw | hw
     · exact (hg and y (hy y (by simp))).1 w hw
     · exact hr and str _ (fun u hu=>hy u (List.mem_cons_of_mem _ hu)) w hw
theorem cond_back (hn:NmOk locs):∀ (h:Nat) (x:Cnd),PrC locs.length h x →
   (∀ n,(tokG locs true x).length≤n→Back c locs (factP c n) (tokG locs true x) (fun _=>True) x) ∧
   (∀ n,(tokG locs false x).length≤n→Back c locs (conjP c n) (tokG locs false x) (fun i=>True∧c.is i [38]=false) x) ∧
   (∀ n,(condTk locs x).length≤n→Back c locs (disjP c n) (condTk locs x) (fun i=>(True∧c.is i [38]=false)∧c.is i [124]=false) x)
 | 0,_,hx=>hx.elim
 | h+1,.mk k t n v kids,hx=>by
   have hkinds:=condK_kinds (locs:=locs) (h+1) (.mk k t n v kids) hx
   have simple:(∀ and,tokG locs and (.mk k t n v kids)=condTk locs (.mk k t n v kids))→(∀ m,(condTk locs (.mk k t n v kids)).length≤m→Back c locs (factP c m) (condTk locs (.mk k t n v kids)) (fun _=>True) (.mk k t n v kids))→((∀ g,(tokG locs true (.mk k t n v kids)).length≤g→Back c locs (factP c g) (tokG locs true (.mk k t n v kids)) (fun _=>True) (.mk k t n v kids)) ∧
   (∀ g,(tokG locs false (.mk k t n v kids)).length≤g→Back c locs (conjP c g) (tokG locs false (.mk k t n v kids)) (fun i=>True∧c.is i [38]=false) (.mk k t n v kids)) ∧
   (∀ g,(condTk locs (.mk k t n v kids)).length≤g→Back c locs (disjP c g) (condTk locs (.mk k t n v kids)) (fun i=>(True∧c.is i [38]=false)∧c.is i [124]=false) (.mk k t n v kids))):=fun e hF=>by
     refine ⟨fun m hm=>?_,fun m hm=>?_,fun m hm=>?_⟩
     · rw [e] at hm ⊢;exact hF m hm
     · rw [e] at hm ⊢;exact sev_one (hF m hm)
     · exact sev_one (sev_one (hF m hm))
   rcases hx with ⟨rfl,rfl,rfl,rfl,rfl⟩ | ⟨rfl,h8,rfl⟩ | ⟨rfl,rfl,hl,rfl⟩ | ⟨⟨rfl,rfl,rfl,rfl⟩,y,rfl,hy⟩ | ⟨⟨hk,rfl,rfl,rfl⟩,hl,hy⟩
   · refine simple (fun and=>by cases and <;> rfl) (fun m hm s hs ha _=>?_)
     obtain ⟨m,rfl⟩:∃ g,m=g+1:=⟨m - 1,by have:1≤m:=hm;omega⟩
     subst hs
     have h1:c.kind s.pos=1∧(c.text s.pos).toList=[116,114,117,101]:=ha.head
     unfold factP
     rw [is_not h1 (by decide),is_not h1 (by decide),kw_eq h1]
     rfl
   · refine simple (fun and=>by cases and <;> rfl) (fun m hm s hs ha _=>?_)
     obtain ⟨m,rfl⟩:∃ g,m=g+1:=⟨m - 1,by have:5≤m:=hm;omega⟩
     subst hs
     have ha:At c s.pos [((2:Nat),numT t),(3,[58]),(1,regT n),(3,[61]),(2,numT v)]:=ha
     have h1:c.kind s.pos=2∧(c.text s.pos).toList=numT t:=ha.head
     unfold factP
     rw [is_not h1 (by decide),is_not h1 (by decide),kw_not h1 (by decide)]
     show (if c.kind s.pos=2 then _ else _)=_
     rw [if_pos h1.1,num_back h1]
     show ((signP c [58] s.next).bind _)=_
     rw [sign_back (s:=s.next) ha.tail.head]
     show ((regQ c s.next.next).bind _)=_
     rw [(reg_back (s:=s.next.next) ha.tail.tail.head h8).1]
     show ((signP c [61] s.next.next.next).bind _)=_
     rw [sign_back (s:=s.next.next.next) ha.tail.tail.tail.head]
     show ((numQ c s.next.next.next.next).bind _)=_
     rw [num_back (s:=s.next.next.next.next) ha.tail.tail.tail.tail.head]
     rfl
   · refine simple (fun and=>by cases and <;> rfl) (fun m hm s hs ha _=>?_)
     obtain ⟨m,rfl⟩:∃ g,m=g+1:=⟨m - 1,by have:3≤m:=hm;omega⟩
     subst hs
     have ha:At c s.pos [((1:Nat),locT s.names n),(3,[61]),(2,numT v)]:=ha
     have h1:c.kind s.pos=1∧(c.text s.pos).toList=locT s.names n:=ha.head
     unfold factP
     rw [is_not h1 (by decide),is_not h1 (by decide),(name_at hn hl h1).2.2 _ key_true]
     show (if c.kind s.pos=2 then _ else _)=_
     rw [if_neg (by rw [h1.1];decide),(loc_back hn rfl hl h1).1]
     show ((signP c [61] s.next).bind _)=_
     rw [sign_back (s:=s.next) ha.tail.head]
     show ((numQ c s.next.next).bind _)=_
     rw [num_back (s:=s.next.next) ha.tail.tail.head]
     rfl
   · have e:condTk locs (.mk 5 0 0 0 [y])=(3,[33]) :: tokG locs true y:=by
       show (3,[33]) :: condTk.kidsK locs true [] true [y]=_
       rw [kidsK_cons]
       show (3,[33]) :: ([]++tokG locs true y++[])=_
       rw [List.nil_append,List.append_nil]
     refine simple (fun and=>by cases and <;> rfl) (fun m hm s hs ha _=>?_);rw [e] at hm ha ⊢;rw [List.length_cons] at hm
     obtain ⟨m,rfl⟩:∃ g,m=g+1:=⟨m - 1,by omega⟩
     have h1:=ha.head
     have e1:=(cond_back hn h y hy).1 m (by omega) s.next hs ha.tail trivial
     unfold factP
     rw [is_at h1]
     show ((factP c m s.next).bind _)=_
     rw [e1]
     show Rs.ok (Cnd.mk 5 0 0 0 [y]) ⟨s.pos+1+(tokG locs true y).length,locs⟩=_
     rw [List.length_cons]
     congr 2
     omega
   · obtain ⟨y,z,r,rfl⟩:∃ y z r,kids=y :: z :: r:=by
       match kids,hl with
       | y :: z :: r,_=>exact ⟨y,z,r,rfl⟩
     have hlen:∀ (str:List UInt8) (tok:Cnd→List (Nat × List UInt8)) (l:List Cnd) (x:Cnd),x ∈ l→(tok x).length≤(restK str tok l).length:=by
       intro str tok l
       induction l with
       | nil=>intro x hx;exact absurd hx List.not_mem_nil
       | cons w l ih=>
         intro x hx
         show _≤((3,str) :: (tok w++restK str tok l)).length
         rw [List.length_cons,List.length_append]
         rcases List.mem_cons.1 hx with rfl | hx
         · omega
         · have:=ih x hx;omega
     have hmem:∀ (str:List UInt8) (tok:Cnd→List (Nat × List UInt8)) (x:Cnd),x ∈ y :: z :: r→(tok x).length≤(tok y++restK str tok (z :: r)).length:=fun str tok x hx=>by
       rw [List.length_append]
       rcases List.mem_cons.1 hx with rfl | hx
       · omega
       · have:=hlen str tok _ x hx;omega
     have hne:∀ and,tokG locs and y ≠ []:=fun and=>by
       unfold tokG
       split
       · exact List.cons_ne_nil _ _
       · exact (condK_kinds h y (hy y (by simp))).2
     rcases hk with rfl | rfl
     · have e:condTk locs (.mk 3 0 0 0 (y :: z :: r))=tokG locs true y++restK [38] (tokG locs true) (z :: r):=by
         show condTk.kidsK locs true [(3,[38])] true (y :: z :: r)=_
         rw [kidsK_cons,kidsK_rest]
         rfl
       have hC:∀ m,(condTk locs (.mk 3 0 0 0 (y :: z :: r))).length≤m→Back c locs (conjP c m) (condTk locs (.mk 3 0 0 0 (y :: z :: r))) (fun i=>True∧c.is i [38]=false) (.mk 3 0 0 0 (y :: z :: r)):=fun m hm=>by
         have hk2:=hkinds.1
         rw [e] at hm hk2 ⊢
         exact sev_back (kind:=3) (part:=factP c m) (fun _ _=>trivial) (fun x hx=>(cond_back hn h x (hy x hx)).1 m (Nat.le_trans (hmem [38] (tokG locs true) x hx) hm)) hk2 (hne true)
       have hD:∀ m,(condTk locs (.mk 3 0 0 0 (y :: z :: r))).length≤m→Back c locs (disjP c m) (condTk locs (.mk 3 0 0 0 (y :: z :: r))) (fun i=>(True∧c.is i [38]=false)∧c.is i [124]=false) (.mk 3 0 0 0 (y :: z :: r)):=fun m hm=>sev_one (hC m hm)
       refine ⟨fun m hm=>?_,fun m hm=>hC m hm,hD⟩
       have hm:((3,[40]) :: (condTk locs (.mk 3 0 0 0 (y :: z :: r))++[(3,[41])])).length≤m:=hm
       rw [List.length_cons,List.length_append] at hm
       obtain ⟨m,rfl⟩:∃ g,m=g+1:=⟨m - 1,by omega⟩
       exact paren_back (hD m (by omega))
     · have e:condTk locs (.mk 4 0 0 0 (y :: z :: r))=tokG locs false y++restK [124] (tokG locs false) (z :: r):=by
         show condTk.kidsK locs false [(3,[124])] true (y :: z :: r)=_
         rw [kidsK_cons,kidsK_rest]
         rfl
       have hD:∀ m,(condTk locs (.mk 4 0 0 0 (y :: z :: r))).length≤m→Back c locs (disjP c m) (condTk locs (.mk 4 0 0 0 (y :: z :: r))) (fun i=>(True∧c.is i [38]=false)∧c.is i [124]=false) (.mk 4 0 0 0 (y :: z :: r)):=fun m hm=>by
         have hk2:=hkinds.1
         rw [e] at hm hk2 ⊢
         exact sev_back (kind:=4) (part:=conjP c m) (fun i hi=>⟨trivial,is_else hi (by decide)⟩) (fun x hx=>(cond_back hn h x (hy x hx)).2.1 m (Nat.le_trans (hmem [124] (tokG locs false) x hx) hm)) hk2 (hne false)
       have hF:∀ m,((3,[40]) :: (condTk locs (.mk 4 0 0 0 (y :: z :: r))++[(3,[41])])).length≤m→Back c locs (factP c m) ((3,[40]) :: (condTk locs (.mk 4 0 0 0 (y :: z :: r))++[(3,[41])])) (fun _=>True) (.mk 4 0 0 0 (y :: z :: r)):=fun m hm=>by
         rw [List.length_cons,List.length_append] at hm
         obtain ⟨m,rfl⟩:∃ g,m=g+1:=⟨m - 1,by omega⟩
         exact paren_back (hD m (by omega))
       exact ⟨fun m hm=>hF m hm,fun m hm=>sev_one (hF m hm),hD⟩
end
-- PtU
def codeK (locs:List ByteArray):List Ins→List (Nat × List UInt8)
 | []=>[]
 | x :: r=>insK locs x++((4,[]) :: codeK locs r)
def threadsK (locs:List ByteArray):List (List Ins)→List (Nat × List UInt8)
 | []=>[]
 | t :: r=>(1,[116,104,114,101,97,100]) :: (4,[]) :: (codeK locs t++threadsK locs r)
def initK (init:List UInt8):Nat→List ByteArray→List (Nat × List UInt8)
 | _,[]=>[]
 | i,w :: r=>(1,w.toList) :: (3,[61]) :: (2,numT (init.getD i 0)) :: initK init (i+1) r
def lastK (p:Prg):List (Nat × List UInt8):=(1,askT p.ask) :: (condTk p.locs p.cond++[(4,[])])
def midK (p:Prg):List (Nat × List UInt8):=if p.locs.length=0 then [] else (1,[105,110,105,116]) :: (initK p.init 0 p.locs++[(4,[])])
def progK (p:Prg):List (Nat × List UInt8):=(1,[116,101,115,116]) :: (1,p.name.toList) :: (4,[]) :: (midK p++(threadsK p.locs p.threads++lastK p))
structure PrPg (p:Prg):Prop where
 name:p.name.toList ≠ []
 nm:NmOk p.locs
 init:p.init.length=p.locs.length
 thr:1≤p.threads.length∧p.threads.length≤4
 ins:∀ t ∈ p.threads,t.length≤12∧∀ x ∈ t,PrIns p.locs.length x
 ask:p.ask=1∨p.ask=2∨p.ask=3
 cond:∃ h,PrC p.locs.length h p.cond
 deep:depC p.cond≤20
section
variable {c:PX}
theorem lines_step {f:Nat} {q q':QL} {s t:PS} (hw:q.wh ≠ 4) (h1:lineL c q s = .ok q' t) (h2:c.kind t.pos=4):linesL c (f+1) q s=linesL c f q' t.next:=by
 show (if q.wh=4 then Rs.ok q s else (lineL c q s).bind fun q' t=>(endP c t).bind fun _ u=>linesL c f q' u)=_
 rw [if_neg hw,h1]
 show ((endP c t).bind _)=_
 unfold endP
 rw [if_pos h2]
 rfl
def lineKeys:List (List UInt8):=[[116,101,115,116],[105,110,105,116],[116,104,114,101,97,100],[115,111,109,101],[110,111,110,101],[97,108,108]]
theorem line_addK {q:QL} {s:PS} (h:∀ k ∈ lineKeys,c.kw s.pos k=false):lineL c q s=addL c q s:=by
 unfold lineL
 rw [h _ (by decide),h _ (by decide),h _ (by decide),h _ (by decide),h _ (by decide),h _ (by decide)]
 rfl
theorem key_first {k:List UInt8} (h:k ∈ lineKeys):∃ x r,k=x :: r∧x ≠ 114:=by
 simp only [lineKeys,List.mem_cons,List.not_mem_nil,or_false] at h
 rcases h with rfl | rfl | rfl | rfl | rfl | rfl <;> exact ⟨_,_,rfl,by decide⟩
theorem keys_kept:∀ k ∈ lineKeys,k ∈ keptL:=by decide
theorem ins_first {locs:List ByteArray} (hn:NmOk locs) {x:Ins} (hx:PrIns locs.length x) {i:Nat} {l:List (Nat × List UInt8)} (h:At c i (insK locs x++l)):∀ k ∈ lineKeys,c.kw i k=false:=by
 intro k hk
 obtain ⟨y,r,rfl,hy⟩:=key_first hk
 cases hx with
 | load d l m hd hl hm=>exact reg_kw (n:=d) (At.head h) hy
 | move d r v f q u hd hr hq hf=>exact reg_kw (n:=d) (At.head h) hy
 | swap d l r v hd hl hr=>exact reg_kw (n:=d) (At.head h) hy
 | fetch d l r v hd hl hr=>exact reg_kw (n:=d) (At.head h) hy
 | cas d l r v q u hd hl hr hq=>exact reg_kw (n:=d) (At.head h) hy
 | store l r v m hl hr hm=>exact (name_at hn hl (At.head h)).2.2 _ (keys_kept _ hk)
 | fence m hm=>
   refine kw_ne (t:=[102,101,110,99,101]) (At.head h) ?_
   simp only [lineKeys,List.mem_cons,List.not_mem_nil,or_false] at hk
   rcases hk with hk | hk | hk | hk | hk | hk <;> rw [hk] <;> decide
 | skip k r v f q u hr hq hf=>
   refine kw_ne (t:=[115,107,105,112]) (At.head h) ?_
   simp only [lineKeys,List.mem_cons,List.not_mem_nil,or_false] at hk
   rcases hk with hk | hk | hk | hk | hk | hk <;> rw [hk] <;> decide
theorem lastAdd_app (ts:List (List Ins)) (cur:List Ins) (x:Ins):lastAdd (ts++[cur]) x=ts++[cur++[x]]:=by
 unfold lastAdd
 rw [List.length_append,List.length_singleton,show ts.length+1 - 1=ts.length by omega,List.take_left,List.getD_eq_getElem?_getD,List.getElem?_append_right (Nat.le_refl _),Nat.sub_self]
 rfl
theorem last_app (ts:List (List Ins)) (cur:List Ins):(ts++[cur]).getD ((ts++[cur]).length - 1) []=cur:=by
 rw [List.length_append,List.length_singleton,show ts.length+1 - 1=ts.length by omega,List.getD_eq_getElem?_getD,List.getElem?_append_right (Nat.le_refl _),Nat.sub_self]
 rfl
theorem code_back {locs:List ByteArray} (hn:NmOk locs) {ts:List (List Ins)}:∀ (l:List Ins) {f:Nat} {q:QL} {s:PS} {cur:List Ins} {rest:List (Nat × List UInt8)},q.wh=3→q.threads=ts++[cur]→cur.length+l.length≤12→(∀ x ∈ l,PrIns locs.length x)→s.names=locs→At c s.pos (codeK locs l++rest) →
   linesL c (f+l.length) q s=linesL c f { q with threads:=ts++[cur++l] } ⟨s.pos+(codeK locs l).length,locs⟩
 | [],f,q,s,cur,rest,hw,ht,_,_,hs,_=>by
   have e:({ q with threads:=ts++[cur++[]] }:QL)=q:=by rw [List.append_nil,← ht]
   rw [e,← hs]
   rfl
 | x :: l,f,q,s,cur,rest,hw,ht,hl,hx,hs,ha=>by
   rw [List.length_cons] at hl
   have ha:At c s.pos ((insK locs x++((4,[]) :: codeK locs l))++rest):=ha
   rw [List.append_assoc] at ha
   have hx0:=hx x (by simp)
   have hab:At c (s.pos+(insK locs x).length) ((4,[]) :: (codeK locs l++rest)):=ha.back
   have ha1:At c s.pos (insK locs x++[(4,[])]):=by
     have:At c s.pos ((insK locs x++[(4,[])])++(codeK locs l++rest)):=by rw [List.append_assoc];exact ha
     exact this.fore
   obtain ⟨e1,e2⟩:=ins_back hn hs hx0 ha1
   have e3:lineL c q s = .ok { q with threads:=ts++[cur++[x]] } ⟨s.pos+(insK locs x).length,locs⟩:=by
     rw [line_addK (ins_first hn hx0 ha)]
     unfold addL
     rw [if_pos hw,if_pos e1,ht,last_app,if_neg (by omega),e2]
     show Rs.ok { q with threads:=lastAdd (ts++[cur]) x } _=_
     rw [lastAdd_app]
   have ih:=code_back hn (ts:=ts) l (f:=f) (q:={ q with threads:=ts++[cur++[x]] }) (s:=⟨s.pos+(insK locs x).length+1,locs⟩) (cur:=cur++[x]) (rest:=rest) hw rfl (by rw [List.length_append,List.length_singleton];omega) (fun y hy=>hx y (by simp [hy])) rfl hab.tail
   rw [show f+(x :: l).length=f+l.length+1 by rw [List.length_cons];omega,lines_step (by rw [hw];decide) e3 hab.head.1]
   show linesL c (f+l.length) _ ⟨s.pos+(insK locs x).length+1,locs⟩=_
   rw [ih]
   show linesL c f { q with threads:=ts++[cur++[x]++l] } ⟨s.pos+(insK locs x).length+1+(codeK locs l).length,locs⟩=linesL c f { q with threads:=ts++[cur++(x :: l)] } ⟨s.pos+(insK locs x++((4,[]) :: codeK locs l)).length,locs⟩
   rw [List.append_assoc,List.length_append,List.length_cons,show s.pos+(insK locs x).length+1+(codeK locs l).length=s.pos+((insK locs x).length+((codeK locs l).length+1)) by omega]
   rfl
def linesN:List (List Ins)→Nat
 | []=>0
 | t :: r=>linesN r+t.length+1
theorem threads_back {locs:List ByteArray} (hn:NmOk locs):∀ (l:List (List Ins)) {f:Nat} {q:QL} {s:PS} {rest:List (Nat × List UInt8)},q.wh=1∨q.wh=2∨q.wh=3→q.threads.length+l.length≤4→(∀ t ∈ l,t.length≤12∧∀ x ∈ t,PrIns locs.length x)→s.names=locs→At c s.pos (threadsK locs l++rest) →
   linesL c (f+linesN l) q s=linesL c f { q with threads:=q.threads++l,wh:=if l.length=0 then q.wh else 3 } ⟨s.pos+(threadsK locs l).length,locs⟩
 | [],f,q,s,rest,hw,_,_,hs,_=>by
   have e:({ q with threads:=q.threads++[],wh:=if ([]:List (List Ins)).length=0 then q.wh else 3 }:QL)=q:=by rw [List.append_nil];rfl
   rw [e,← hs]
   rfl
 | t :: l,f,q,s,rest,hw,hl,hx,hs,ha=>by
   rw [List.length_cons] at hl
   have ha:At c s.pos (((1,[116,104,114,101,97,100]) :: (4,[]) :: (codeK locs t++threadsK locs l))++rest):=ha
   have ha:At c s.pos ((1,[116,104,114,101,97,100]) :: (4,[]) :: (codeK locs t++(threadsK locs l++rest))):=by
     rw [← List.append_assoc];exact ha
   have h1:c.kind s.pos=1∧(c.text s.pos).toList=[116,104,114,101,97,100]:=ha.head
   have hx0:=hx t (by simp)
   have e3:lineL c q s = .ok { q with threads:=q.threads++[[]],wh:=3 } s.next:=by
     unfold lineL
     rw [kw_ne h1 (by decide),kw_ne h1 (by decide),kw_eq h1]
     show threadL c q s=_
     unfold threadL
     rw [if_pos hw,if_neg (by omega)]
   have e4:=code_back hn (ts:=q.threads) t (f:=f+linesN l) (q:={ q with threads:=q.threads++[[]],wh:=3 }) (s:=s.next.next) (cur:=[]) (rest:=threadsK locs l++rest) rfl rfl (by simp;exact hx0.1) hx0.2 hs ha.tail.tail
   have ih:=threads_back hn l (f:=f) (q:={ q with threads:=q.threads++[[]++t],wh:=3 }) (s:=⟨s.next.next.pos+(codeK locs t).length,locs⟩) (rest:=rest) (.inr (.inr rfl)) (by show (q.threads++[[]++t]).length+l.length≤4;rw [List.length_append,List.length_singleton];omega) (fun u hu=>hx u (by simp [hu])) rfl ha.tail.tail.back
   rw [show f+linesN (t :: l)=f+linesN l+t.length+1 by show f+(linesN l+t.length+1)=_;omega,lines_step (by rcases hw with h | h | h <;> rw [h] <;> decide) e3 ha.tail.head.1]
   show linesL c (f+linesN l+t.length) _ s.next.next=_
   rw [e4];refine ih.trans ?_
   show linesL c f { q with threads:=(q.threads++[[]++t])++l,wh:=if l.length=0 then 3 else 3 } ⟨s.pos+1+1+(codeK locs t).length+(threadsK locs l).length,locs⟩=linesL c f { q with threads:=q.threads++(t :: l),wh:=3 } ⟨s.pos+((1,([116,104,114,101,97,100]:List UInt8)) :: (4,[]) :: (codeK locs t++threadsK locs l)).length,locs⟩
   rw [ite_self,List.append_assoc,List.length_cons,List.length_cons,List.length_append,show s.pos+1+1+(codeK locs t).length+(threadsK locs l).length=s.pos+((codeK locs t).length+(threadsK locs l).length+1+1) by omega]
   rfl
theorem idx_new {w:ByteArray}:∀ {l:List ByteArray} {k:Nat},(∀ x ∈ l,x.toList ≠ w.toList)→idxOf w l k=none
 | [],_,_=>rfl
 | x :: r,k,h=>by
   unfold idxOf
   rw [if_neg (by intro e;exact h x (by simp) (eq_of_beq e).symm)]
   exact idx_new fun y hy=>h y (by simp [hy])
theorem init_back {init:List UInt8} {locs:List ByteArray} (hn:NmOk locs) (hf:c.fixed=false) (hi:init.length=locs.length):∀ (r:List ByteArray) {f:Nat} {q:QL} {s:PS} {dn:List ByteArray},locs=dn++r→r ≠ []→r.length≤f→s.names=dn→q.init=init.take dn.length→At c s.pos (initK init dn.length r++[(4,[])]) →
   initL c f q s = .ok { q with init:=init,wh:=2 } ⟨s.pos+(initK init dn.length r).length,locs⟩
 | [],_,_,_,_,_,hne,_,_,_,_=>absurd rfl hne
 | w :: r,f,q,s,dn,hl,_,hlf,hs,hq,ha=>by
   rw [List.length_cons] at hlf
   obtain ⟨f,rfl⟩:∃ g,f=g+1:=⟨f - 1,by omega⟩
   have ha:At c s.pos ((1,w.toList) :: (3,[61]) :: (2,numT (init.getD dn.length 0)) :: (initK init (dn.length+1) r++[(4,[])])):=ha
   have ew:c.word s.pos=w:=eq_of_toList (word_at ha.head)
   have hap:(dn++w :: r).Pairwise (fun a b=>a.toList ≠ b.toList):=hl ▸ hn.apart
   have hnone:idxOf (c.word s.pos) s.names 0=none:=by
     rw [ew,hs]
     exact idx_new fun x hx=>(List.pairwise_append.1 hap).2.2 x hx w (by simp)
   have hlen:locs.length=dn.length+(r.length+1):=by rw [hl,List.length_append,List.length_cons]
   have hfew:=hn.few
   have hok:nameOk (c.word s.pos)=true:=by rw [ew];exact hn.ok w (by rw [hl];simp)
   have e1:locP c s = .ok (UInt8.ofNat dn.length) ⟨s.pos+1,dn++[w]⟩:=by
     unfold locP
     rw [if_pos hok,hnone]
     show (if c.fixed=true then _ else if s.names.length=6 then _ else _)=_
     rw [if_neg (by rw [hf];decide),hs,if_neg (by omega),ew]
   have e2:signP c [61] ⟨s.pos+1,dn++[w]⟩ = .ok () ⟨s.pos+2,dn++[w]⟩:=sign_back (s:=⟨s.pos+1,dn++[w]⟩) ha.tail.head
   have e3:numQ c ⟨s.pos+2,dn++[w]⟩ = .ok (init.getD dn.length 0) ⟨s.pos+3,dn++[w]⟩:=num_back (s:=⟨s.pos+2,dn++[w]⟩) ha.tail.tail.head
   have hv:init.take dn.length++[init.getD dn.length 0]=init.take (dn.length+1):=by
     rw [List.take_add_one,List.getD_eq_getElem?_getD,List.getElem?_eq_getElem (show dn.length < init.length by omega)]
     rfl
   unfold initL
   rw [hnone]
   show ((locP c s).bind _)=_
   rw [e1]
   show ((signP c [61] ⟨s.pos+1,dn++[w]⟩).bind _)=_
   rw [e2]
   show ((numQ c ⟨s.pos+2,dn++[w]⟩).bind _)=_
   rw [e3]
   show (if c.kind (s.pos+3)=4 then Rs.ok { q with init:=q.init++[init.getD dn.length 0],wh:=2 } ⟨s.pos+3,dn++[w]⟩ else initL c f { q with init:=q.init++[init.getD dn.length 0] } ⟨s.pos+3,dn++[w]⟩)=_
   rw [hq,hv]
   have ha3:At c (s.pos+3) (initK init (dn.length+1) r++[(4,[])]):=ha.tail.tail.tail
   cases r with
   | nil=>
     rw [if_pos (At.head ha3).1,show dn.length+1=init.length by rw [hi,hlen];rfl,List.take_length,← hl]
     rfl
   | cons z r=>
     have h4:c.kind (s.pos+3)=1:=(At.head (x:=(1,z.toList)) ha3).1
     rw [if_neg (by rw [h4];decide)]
     have ih:=init_back hn hf hi (z :: r) (f:=f) (q:={ q with init:=init.take (dn.length+1) }) (s:=⟨s.pos+3,dn++[w]⟩) (dn:=dn++[w]) (by rw [hl,List.append_assoc];rfl) (List.cons_ne_nil _ _) (by omega) rfl (by rw [List.length_append,List.length_singleton]) (by rw [List.length_append,List.length_singleton];exact ha3)
     rw [ih];rw [List.length_append,List.length_singleton]
     show Rs.ok _ ⟨s.pos+3+(initK init (dn.length+1) (z :: r)).length,locs⟩=Rs.ok _ ⟨s.pos+((1,w.toList) :: (3,([61]:List UInt8)) :: (2,numT (init.getD dn.length 0)) :: initK init (dn.length+1) (z :: r)).length,locs⟩
     rw [List.length_cons,List.length_cons,List.length_cons,show s.pos+3+(initK init (dn.length+1) (z :: r)).length=s.pos+((initK init (dn.length+1) (z :: r)).length+1+1+1) by omega]
theorem initK_len (init:List UInt8):∀ (r:List ByteArray) (i:Nat),r.length≤(initK init i r).length
 | [],_=>Nat.le_refl _
 | w :: r,i=>by
   have:=initK_len init r (i+1)
   show r.length+1≤(initK init (i+1) r).length+1+1+1
   omega
theorem codeK_len (locs:List ByteArray):∀ l:List Ins,l.length≤(codeK locs l).length
 | []=>Nat.le_refl _
 | x :: r=>by
   have:=codeK_len locs r
   show r.length+1≤(insK locs x++((4,[]) :: codeK locs r)).length
   rw [List.length_append,List.length_cons];omega
theorem threadsK_len (locs:List ByteArray):∀ l:List (List Ins),linesN l≤(threadsK locs l).length
 | []=>Nat.le_refl _
 | t :: r=>by
   have:=threadsK_len locs r
   have:=codeK_len locs t
   show linesN r+t.length+1≤(codeK locs t++threadsK locs r).length+1+1
   rw [List.length_append];omega
theorem prog_back {p:Prg} (hp:PrPg p) (hf:c.fixed=false) (ha:At c 0 (progK p)) (hl:c.ts.length=(progK p).length):∃ s,progP c = .ok p s:=by
 have hkl:(progK p).length=(midK p).length+(threadsK p.locs p.threads).length+(condTk p.locs p.cond).length+5:=by
   show (midK p++(threadsK p.locs p.threads++lastK p)).length+1+1+1=_
   rw [List.length_append,List.length_append]
   show _+(_+((condTk p.locs p.cond++[(4,[])]).length+1))+1+1+1=_
   rw [List.length_append,List.length_singleton];omega
 have htl:=threadsK_len p.locs p.threads
 obtain ⟨g,hg⟩:∃ g,c.ts.length+2=g+1+linesN p.threads+2+1:=⟨c.ts.length - linesN p.threads - 2,by omega⟩
 have ha:At c 0 ((1,[116,101,115,116]) :: (1,p.name.toList) :: (4,[]) :: (midK p++(threadsK p.locs p.threads++lastK p))):=ha
 have h0:c.kind 0=1∧(c.text 0).toList=[116,101,115,116]:=ha.head
 have ew:c.word 1=p.name:=eq_of_toList (word_at ha.tail.head)
 have e1:lineL c zQL ⟨0,[]⟩ = .ok { zQL with name:=p.name,wh:=1 } ⟨2,[]⟩:=by
   unfold lineL
   show (if c.kw 0 [116,101,115,116]=true then _ else _)=_
   rw [kw_eq h0]
   show testL c zQL ⟨0,[]⟩=_
   unfold testL
   rw [if_pos (show zQL.wh=0 from rfl)]
   show (if (c.word 1).toList=[] then _ else Rs.ok { zQL with name:=c.word 1,wh:=1 } _)=_
   rw [ew,if_neg hp.name]
   rfl
 have hh:=hp.cond
 obtain ⟨h,hc⟩:=hh
 -- to where the threads begin
 have e2:∃ (g':Nat) (q:QL),linesL c (g+1+linesN p.threads+2) { zQL with name:=p.name,wh:=1 } ⟨3,[]⟩=linesL c (g'+1+linesN p.threads+1) q ⟨3+(midK p).length,p.locs⟩∧q.name=p.name∧q.init=p.init∧q.threads=[]∧(q.wh=1∨q.wh=2):=by
   by_cases hz:p.locs.length=0
   · have hm:midK p=[]:=by unfold midK;rw [if_pos hz]
     refine ⟨g+1,{ zQL with name:=p.name,wh:=1 },?_,rfl,?_,rfl,.inl rfl⟩
     · rw [hm,show p.locs=[] from List.eq_nil_of_length_eq_zero hz,show g+1+linesN p.threads+2=g+1+1+linesN p.threads+1 by omega]
       rfl
     · have:=hp.init
       exact (List.eq_nil_of_length_eq_zero (by omega)).symm
   · have hm:midK p=(1,[105,110,105,116]) :: (initK p.init 0 p.locs++[(4,[])]):=by unfold midK;rw [if_neg hz]
     have ha3:At c 3 (((1,[105,110,105,116]) :: (initK p.init 0 p.locs++[(4,[])]))++(threadsK p.locs p.threads++lastK p)):=by rw [← hm];exact ha.tail.tail.tail
     have h3:c.kind 3=1∧(c.text 3).toList=[105,110,105,116]:=At.head ha3
     have ha4:At c 4 (initK p.init 0 p.locs++[(4,[])]):=At.tail ha3.fore
     have hil:=initK_len p.init p.locs 0
     have hml:(midK p).length=(initK p.init 0 p.locs).length+2:=by rw [hm,List.length_cons,List.length_append,List.length_singleton]
     have e3:=init_back hp.nm hf hp.init p.locs (f:=c.ts.length+1) (q:={ zQL with name:=p.name,wh:=1 }) (s:=⟨4,[]⟩) (dn:=[]) rfl (fun e=>hz (by rw [e];rfl)) (by omega) rfl rfl ha4
     have e4:lineL c { zQL with name:=p.name,wh:=1 } ⟨3,[]⟩ = .ok { zQL with name:=p.name,init:=p.init,wh:=2 } ⟨4+(initK p.init 0 p.locs).length,p.locs⟩:=by
       unfold lineL
       show (if c.kw 3 [116,101,115,116]=true then _ else if c.kw 3 [105,110,105,116]=true then _ else _)=_
       rw [kw_ne h3 (by decide),kw_eq h3]
       exact e3
     have h5:c.kind (4+(initK p.init 0 p.locs).length)=4:=(At.head ha4.back).1
     refine ⟨g,{ zQL with name:=p.name,init:=p.init,wh:=2 },?_,rfl,rfl,rfl,.inr rfl⟩
     rw [show g+1+linesN p.threads+2=(g+1+linesN p.threads+1)+1 by omega,lines_step (show (1:Nat) ≠ 4 by decide) e4 h5,hml]
     show linesL c _ _ ⟨4+(initK p.init 0 p.locs).length+1,p.locs⟩=_
     rw [show 4+(initK p.init 0 p.locs).length+1=3+((initK p.init 0 p.locs).length+2) by omega]
 obtain ⟨g',q,e2,q1,q2,q3,q4⟩:=e2
 have ha5:At c (3+(midK p).length) (threadsK p.locs p.threads++lastK p):=At.back ha.tail.tail.tail
 have e6:=threads_back hp.nm p.threads (f:=g'+2) (q:=q) (s:=⟨3+(midK p).length,p.locs⟩) (rest:=lastK p) (by rcases q4 with h | h <;> simp [h]) (by rw [q3];simpa using hp.thr.2) hp.ins rfl ha5
 rw [show g'+2+linesN p.threads=g'+1+linesN p.threads+1 by omega,q3,List.nil_append,if_neg (by have:=hp.thr.1;omega)] at e6
 obtain ⟨a,hadef⟩:∃ a,a=3+(midK p).length+(threadsK p.locs p.threads).length:=⟨_,rfl⟩
 have ha7:At c a ((1,askT p.ask) :: (condTk p.locs p.cond++[(4,[])])):=by rw [hadef];exact ha5.back
 have h8:c.kind a=1∧(c.text a).toList=askT p.ask:=ha7.head
 have ha9:At c (a+1) (condTk p.locs p.cond):=ha7.tail.fore
 have h10:c.kind (a+1+(condTk p.locs p.cond).length)=4∧(c.text (a+1+(condTk p.locs p.cond).length)).toList=[]:=At.head ha7.tail.back
 have e7:=(cond_back (c:=c) hp.nm h p.cond hc).2.2 (c.ts.length+1) (by omega) ⟨a+1,p.locs⟩ rfl ha9 ⟨⟨trivial,is_not h10 (by decide)⟩,is_not h10 (by decide)⟩
 have e8:lineL c { q with threads:=p.threads,wh:=3 } ⟨a,p.locs⟩ = .ok { q with threads:=p.threads,ask:=p.ask,cond:=p.cond,wh:=4,query:=c.place a } ⟨a+1+(condTk p.locs p.cond).length,p.locs⟩:=by
   have e9:∀ k,askL c k { q with threads:=p.threads,wh:=3 } ⟨a,p.locs⟩ = .ok { q with threads:=p.threads,ask:=k,cond:=p.cond,wh:=4,query:=c.place a } ⟨a+1+(condTk p.locs p.cond).length,p.locs⟩:=fun k=>by
     unfold askL
     rw [if_pos rfl]
     show ((disjP c (c.ts.length+1) ⟨a+1,p.locs⟩).bind _)=_
     rw [e7]
     rfl
   unfold lineL
   show (if c.kw a [116,101,115,116]=true then _ else if c.kw a [105,110,105,116]=true then _ else if c.kw a [116,104,114,101,97,100]=true then _ else if c.kw a [115,111,109,101]=true then _ else if c.kw a [110,111,110,101]=true then _ else if c.kw a [97,108,108]=true then _ else _)=_
   rcases hp.ask with hk | hk | hk
   · rw [hk] at h8
     have h8:c.kind a=1∧(c.text a).toList=[115,111,109,101]:=h8
     rw [kw_ne h8 (by decide),kw_ne h8 (by decide),kw_ne h8 (by decide),kw_eq h8,hk]
     exact e9 1
   · rw [hk] at h8
     have h8:c.kind a=1∧(c.text a).toList=[110,111,110,101]:=h8
     rw [kw_ne h8 (by decide),kw_ne h8 (by decide),kw_ne h8 (by decide),kw_ne h8 (by decide),kw_eq h8,hk]
     exact e9 2
   · rw [hk] at h8
     have h8:c.kind a=1∧(c.text a).toList=[97,108,108]:=h8
     rw [kw_ne h8 (by decide),kw_ne h8 (by decide),kw_ne h8 (by decide),kw_ne h8 (by decide),kw_ne h8 (by decide),kw_eq h8,hk]
     exact e9 3
 have e10:linesL c (c.ts.length+2) zQL ⟨0,[]⟩ = .ok { q with threads:=p.threads,ask:=p.ask,cond:=p.cond,wh:=4,query:=c.place a } ⟨c.ts.length,p.locs⟩:=by
   rw [hg,lines_step (by decide) e1 ha.tail.tail.head.1]
   show linesL c _ _ ⟨3,[]⟩=_
   rw [e2,e6,← hadef,show g'+2=(g'+1)+1 from rfl,lines_step (q:={ q with threads:=p.threads,wh:=3 }) (show (3:Nat) ≠ 4 by decide) e8 h10.1]
   show (if (4:Nat)=4 then Rs.ok _ _ else _)=_
   rw [if_pos rfl]
   show Rs.ok _ ⟨a+1+(condTk p.locs p.cond).length+1,p.locs⟩=_
   rw [hl,hkl,hadef,show 3+(midK p).length+(threadsK p.locs p.threads).length+1+(condTk p.locs p.cond).length+1=(midK p).length+(threadsK p.locs p.threads).length+(condTk p.locs p.cond).length+5 by omega]
 refine ⟨⟨c.ts.length,p.locs⟩,?_⟩
 unfold progP
 rw [e10]
 show (if c.ts.length < c.ts.length then _ else if 20 < depC p.cond then _ else Rs.ok (Prg.mk q.name p.locs (padI q.init p.locs.length) p.threads p.ask p.cond) _)=_
 rw [if_neg (by omega),if_neg (by have:=hp.deep;omega),q1,q2]
 unfold padI
 rw [hp.init,Nat.sub_self]
 show Rs.ok (Prg.mk p.name p.locs (p.init++[]) p.threads p.ask p.cond) _=_
 rw [List.append_nil]
end
-- PtV
theorem PrIns.more {n m:Nat} {x:Ins} (h:PrIns n x) (hm:n≤m):PrIns m x:=by
 cases h with
 | load d l m hd hl hm'=>exact .load d l m hd (Nat.lt_of_lt_of_le hl hm) hm'
 | store l r v m hl hr hm'=>exact .store l r v m (Nat.lt_of_lt_of_le hl hm) hr hm'
 | move d r v f q u hd hr hq hf=>exact .move d r v f q u hd hr hq hf
 | swap d l r v hd hl hr=>exact .swap d l r v hd (Nat.lt_of_lt_of_le hl hm) hr
 | fetch d l r v hd hl hr=>exact .fetch d l r v hd (Nat.lt_of_lt_of_le hl hm) hr
 | cas d l r v q u hd hl hr hq=>exact .cas d l r v q u hd (Nat.lt_of_lt_of_le hl hm) hr hq
 | fence m hm'=>exact .fence m hm'
 | skip k r v f q u hr hq hf=>exact .skip k r v f q u hr hq hf
theorem PrC.more {n m:Nat} (hm:n≤m):∀ {h k:Nat} {x:Cnd},h≤k→PrC n h x→PrC m k x
 | 0,_,_,_,hx=>hx.elim
 | h+1,0,_,hk,_=>absurd hk (Nat.not_succ_le_zero _)
 | h+1,k+1,.mk kd t nn v kids,hk,hx=>by
   have hk:h≤k:=Nat.le_of_succ_le_succ hk
   rcases hx with ⟨h1,h2,h3,h4,h5⟩ | ⟨h1,h2,h3⟩ | ⟨h1,h2,h3,h4⟩ | ⟨h1,y,h2,h3⟩ | ⟨h1,h2,h3⟩
   · exact .inl ⟨h1,h2,h3,h4,h5⟩
   · exact .inr (.inl ⟨h1,h2,h3⟩)
   · exact .inr (.inr (.inl ⟨h1,h2,Nat.lt_of_lt_of_le h3 hm,h4⟩))
   · exact .inr (.inr (.inr (.inl ⟨h1,y,h2,PrC.more hm hk h3⟩)))
   · exact .inr (.inr (.inr (.inr ⟨h1,h2,fun y hy=>PrC.more hm hk (h3 y hy)⟩)))
section
variable {c:PX}
structure QPr (q:QL) (s:PS):Prop where
 ok:QOk q s
 ins:∀ t ∈ q.threads,∀ x ∈ t,PrIns s.names.length x
 cond:q.wh=4→∃ h,PrC s.names.length h q.cond
theorem QPr.step {q r:QL} {s t:PS} (h:QPr q s) (ho:QOk r t) (hg:Gs c s t) (ht:r.threads=q.threads) (hw:r.wh ≠ 4):QPr r t:=
 ⟨ho,fun l hl x hx=>(h.ins l (ht ▸ hl) x hx).more hg.more,fun e=>absurd e hw⟩
end
end Go.Proofs.YtkchaoajegkadaaGreatDoor
