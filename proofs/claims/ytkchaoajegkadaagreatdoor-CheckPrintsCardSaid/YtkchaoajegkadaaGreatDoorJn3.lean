/-
  Plain Lean: what is printed is parsed back: each instruction. Nothing of the program. Conditions: none.
-/
import Derived.Test.YtkchaoajegkadaaGreatDoorJn2
set_option linter.unusedSimpArgs false
set_option linter.unusedVariables false
namespace Go.Proofs.YtkchaoajegkadaaGreatDoor
-- PtR
section
variable {c:PX} {s:PS}
theorem start_reg {n:UInt8} (h:c.kind s.pos=1∧(c.text s.pos).toList=regT n) (hn:n.toNat < 8):mayP c s.pos=true∧startP c s.pos=2:=by
 have h1:=(reg_back h hn).2.1
 unfold mayP startP
 rw [reg_kw h (by decide),reg_kw h (by decide),h1]
 exact ⟨rfl,rfl⟩
theorem start_loc {locs:List ByteArray} {l:UInt8} (hn:NmOk locs) (hl:l.toNat < locs.length) (h:c.kind s.pos=1∧(c.text s.pos).toList=locT locs l):mayP c s.pos=true∧startP c s.pos=3:=by
 obtain ⟨h1,h2,h3⟩:=name_at hn hl h
 unfold mayP startP
 rw [h3 _ key_fence,h3 _ key_skip,h1,h2]
 exact ⟨rfl,rfl⟩
theorem start_fence (h:c.kind s.pos=1∧(c.text s.pos).toList=[102,101,110,99,101]):mayP c s.pos=true∧startP c s.pos=0:=by
 have e:=kw_at (s:=[102,101,110,99,101]) h
 rw [beq_self_eq_true] at e
 unfold mayP startP
 rw [e]
 exact ⟨rfl,rfl⟩
theorem start_skip (h:c.kind s.pos=1∧(c.text s.pos).toList=[115,107,105,112]):mayP c s.pos=true∧startP c s.pos=1:=by
 have e:=kw_at (s:=[115,107,105,112]) h
 have e2:=kw_at (s:=[102,101,110,99,101]) h
 rw [beq_self_eq_true] at e
 rw [show (([115,107,105,112]:List UInt8) == [102,101,110,99,101])=false by decide] at e2
 unfold mayP startP
 rw [e,e2]
 exact ⟨rfl,rfl⟩
theorem fn_back {f:UInt8} (hf:f=1∨f=2∨f=3) (h:c.kind s.pos=3∧(c.text s.pos).toList=fnT f 1 3):fnP c s=some f:=by
 unfold fnP
 rw [is_at h,is_at h,is_at h]
 rcases hf with rfl | rfl | rfl <;> rfl
theorem test_back {f:UInt8} (hf:f=4∨f=5∨f=6) (h:c.kind s.pos=3∧(c.text s.pos).toList=fnT f 4 6):testP c s=some f:=by
 unfold testP
 rw [is_at h,is_at h,is_at h]
 rcases hf with rfl | rfl | rfl <;> rfl
theorem kw_eq {t:List UInt8} {i:Nat} (h:c.kind i=1∧(c.text i).toList=t):c.kw i t=true:=by rw [kw_at h];exact beq_self_eq_true t
theorem kw_ne {t r:List UInt8} {i:Nat} (h:c.kind i=1∧(c.text i).toList=t) (hne:(t == r)=false):c.kw i r=false:=by rw [kw_at h];exact hne
theorem kw_last {i:Nat} (h:c.kind i=4∧(c.text i).toList=[]) (x:UInt8) (r:List UInt8):c.kw i (x :: r)=false:=kw_not h (by decide) x r
theorem assign_tail {d:UInt8} {l:List (Nat × List UInt8)} (hd:d.toNat < 8) (h:At c s.pos ((1,regT d) :: (3,[61]) :: l)):assignP c s =
   (if c.kw (s.pos+2) [115,119,97,112] then (locP c s.next.next.next).bind fun k s3=>(argP' c s3).bind fun x s4=>.ok { zIns with op:=4,dst:=d,loc:=k,aR:=x.1,aN:=x.2 } s4
   else if c.kw (s.pos+2) [102,101,116,99,104] then (locP c s.next.next.next).bind fun k s3=>(argP' c s3).bind fun x s4=>.ok { zIns with op:=5,dst:=d,loc:=k,aR:=x.1,aN:=x.2 } s4
   else if c.kw (s.pos+2) [99,97,115] then (locP c s.next.next.next).bind fun k s3=>(argP' c s3).bind fun x s4=>(argP' c s4).bind fun y s5=>.ok { zIns with op:=6,dst:=d,loc:=k,aR:=x.1,aN:=x.2,bR:=y.1,bN:=y.2 } s5
   else if nameOk (c.word (s.pos+2))=true then (locP c s.next.next).bind fun k s3=>
     if c.kw s3.pos [97,99,113] then .ok { zIns with op:=1,dst:=d,loc:=k,mode:=1 } s3.next else .ok { zIns with op:=1,dst:=d,loc:=k } s3
   else moveP' c d s.next.next):=by
 unfold assignP
 rw [(reg_back h.head hd).1]
 show (signP c [61] s.next).bind _=_
 rw [sign_back (s:=s.next) h.tail.head]
 rfl
theorem ins_back {locs:List ByteArray} (hn:NmOk locs) (hs:s.names=locs) {x:Ins} (hx:PrIns locs.length x) (h:At c s.pos (insK locs x++[(4,[])])) :
   mayP c s.pos=true∧insP c (startP c s.pos) s = .ok x ⟨s.pos+(insK locs x).length,locs⟩:=by
 subst hs
 cases hx with
 | load d l m hd hl hm=>
   have h0:At c s.pos ((1,regT d) :: (3,[61]) :: ((1,locT s.names l) :: modeK m 1 [97,99,113]++[(4,[])])):=h
   obtain ⟨e1,e2⟩:=start_reg h0.head hd
   refine ⟨e1,?_⟩
   rw [e2]
   show assignP c s=_
   rw [assign_tail hd h0]
   have hl2:c.kind (s.pos+2)=1∧(c.text (s.pos+2)).toList=locT s.names l:=h0.tail.tail.head
   obtain ⟨f1,f2,f3⟩:=name_at hn hl hl2
   rw [f3 _ key_swap,f3 _ key_fetch,f3 _ key_cas,f1]
   have f4:=(loc_back (s:=s.next.next) hn rfl hl hl2).1
   show ((locP c s.next.next).bind _)=_
   rw [f4]
   rcases hm with rfl | rfl
   · have h3:c.kind (s.pos+3)=4∧(c.text (s.pos+3)).toList=[]:=h0.tail.tail.tail.head
     show (if c.kw (s.pos+3) [97,99,113] then _ else _)=_
     rw [kw_last h3]
     rfl
   · have h3:c.kind (s.pos+3)=1∧(c.text (s.pos+3)).toList=[97,99,113]:=h0.tail.tail.tail.head
     show (if c.kw (s.pos+3) [97,99,113] then _ else _)=_
     rw [kw_eq h3]
     rfl
 | store l r v m hl hr hm=>
   have h0:At c s.pos ((1,locT s.names l) :: (3,[61]) :: argK r v :: (modeK m 2 [114,101,108]++[(4,[])])):=h
   obtain ⟨e1,e2⟩:=start_loc hn hl h0.head
   refine ⟨e1,?_⟩
   rw [e2]
   show storeP c s=_
   unfold storeP
   rw [(loc_back hn rfl hl h0.head).1]
   show ((signP c [61] s.next).bind _)=_
   rw [sign_back (s:=s.next) h0.tail.head]
   show ((argP' c s.next.next).bind _)=_
   rw [arg_back (s:=s.next.next) h0.tail.tail.head hr]
   rcases hm with rfl | rfl
   · have h3:c.kind (s.pos+3)=4∧(c.text (s.pos+3)).toList=[]:=h0.tail.tail.tail.head
     show (if c.kw (s.pos+3) [114,101,108] then _ else _)=_
     rw [kw_last h3]
     rfl
   · have h3:c.kind (s.pos+3)=1∧(c.text (s.pos+3)).toList=[114,101,108]:=h0.tail.tail.tail.head
     show (if c.kw (s.pos+3) [114,101,108] then _ else _)=_
     rw [kw_eq h3]
     rfl
 | move d r v f q u hd hr hq hf=>
   have h0:At c s.pos ((1,regT d) :: (3,[61]) :: argK r v :: (3,fnT f 1 3) :: argK q u :: [(4,[])]):=h
   obtain ⟨e1,e2⟩:=start_reg h0.head hd
   refine ⟨e1,?_⟩
   rw [e2]
   show assignP c s=_
   rw [assign_tail hd h0]
   have h2:c.kind (s.pos+2)=(argK r v).1∧(c.text (s.pos+2)).toList=(argK r v).2:=h0.tail.tail.head
   rw [(arg_kw h2 hr (by decide)).1,(arg_kw h2 hr (by decide)).1,(arg_kw h2 hr (by decide)).1,(arg_kw (x:=0) (t:=[]) h2 hr (by decide)).2]
   show moveP' c d s.next.next=_
   unfold moveP'
   rw [arg_back (s:=s.next.next) h2 hr]
   show (match fnP c s.next.next.next with | some f=>_ | none=>_)=_
   rw [fn_back (s:=s.next.next.next) hf h0.tail.tail.tail.head]
   show ((argP' c s.next.next.next.next).bind _)=_
   rw [arg_back (s:=s.next.next.next.next) h0.tail.tail.tail.tail.head hq]
   rfl
 | swap d l r v hd hl hr=>
   have h0:At c s.pos ((1,regT d) :: (3,[61]) :: (1,[115,119,97,112]) :: (1,locT s.names l) :: argK r v :: [(4,[])]):=h
   obtain ⟨e1,e2⟩:=start_reg h0.head hd
   refine ⟨e1,?_⟩
   rw [e2]
   show assignP c s=_
   rw [assign_tail hd h0,kw_eq h0.tail.tail.head]
   show ((locP c s.next.next.next).bind _)=_
   rw [(loc_back (s:=s.next.next.next) hn rfl hl h0.tail.tail.tail.head).1]
   show ((argP' c s.next.next.next.next).bind _)=_
   rw [arg_back (s:=s.next.next.next.next) h0.tail.tail.tail.tail.head hr]
   rfl
 | fetch d l r v hd hl hr=>
   have h0:At c s.pos ((1,regT d) :: (3,[61]) :: (1,[102,101,116,99,104]) :: (1,locT s.names l) :: argK r v :: [(4,[])]):=h
   obtain ⟨e1,e2⟩:=start_reg h0.head hd
   refine ⟨e1,?_⟩
   rw [e2]
   show assignP c s=_
   rw [assign_tail hd h0,kw_ne h0.tail.tail.head (by decide),kw_eq h0.tail.tail.head]
   show ((locP c s.next.next.next).bind _)=_
   rw [(loc_back (s:=s.next.next.next) hn rfl hl h0.tail.tail.tail.head).1]
   show ((argP' c s.next.next.next.next).bind _)=_
   rw [arg_back (s:=s.next.next.next.next) h0.tail.tail.tail.tail.head hr]
   rfl
 | cas d l r v q u hd hl hr hq=>
   have h0:At c s.pos ((1,regT d) :: (3,[61]) :: (1,[99,97,115]) :: (1,locT s.names l) :: argK r v :: argK q u :: [(4,[])]):=h
   obtain ⟨e1,e2⟩:=start_reg h0.head hd
   refine ⟨e1,?_⟩
   rw [e2]
   show assignP c s=_
   rw [assign_tail hd h0,kw_ne h0.tail.tail.head (by decide),kw_ne h0.tail.tail.head (by decide),kw_eq h0.tail.tail.head]
   show ((locP c s.next.next.next).bind _)=_
   rw [(loc_back (s:=s.next.next.next) hn rfl hl h0.tail.tail.tail.head).1]
   show ((argP' c s.next.next.next.next).bind _)=_
   rw [arg_back (s:=s.next.next.next.next) h0.tail.tail.tail.tail.head hr]
   show ((argP' c s.next.next.next.next.next).bind _)=_
   rw [arg_back (s:=s.next.next.next.next.next) h0.tail.tail.tail.tail.tail.head hq]
   rfl
 | fence m hm=>
   have h0:At c s.pos ((1,[102,101,110,99,101]) :: (modeK m 4 [108,111,97,100,115]++modeK m 5 [115,116,111,114,101,115]++[(4,[])])):=h
   obtain ⟨e1,e2⟩:=start_fence h0.head
   refine ⟨e1,?_⟩
   rw [e2]
   show fenceP c s=_
   unfold fenceP
   rcases hm with rfl | rfl | rfl
   · have h1:c.kind (s.pos+1)=4∧(c.text (s.pos+1)).toList=[]:=h0.tail.head
     rw [kw_last h1,kw_last h1]
     rfl
   · have h1:c.kind (s.pos+1)=1∧(c.text (s.pos+1)).toList=[108,111,97,100,115]:=h0.tail.head
     rw [kw_eq h1]
     rfl
   · have h1:c.kind (s.pos+1)=1∧(c.text (s.pos+1)).toList=[115,116,111,114,101,115]:=h0.tail.head
     rw [kw_ne h1 (by decide),kw_eq h1]
     rfl
 | skip k r v f q u hr hq hf=>
   have h0:At c s.pos ((1,[115,107,105,112]) :: (2,numT k) :: (1,[105,102]) :: argK r v :: (3,fnT f 4 6) :: argK q u :: [(4,[])]):=h
   obtain ⟨e1,e2⟩:=start_skip h0.head
   refine ⟨e1,?_⟩
   rw [e2]
   show skipP c s=_
   unfold skipP
   rw [num_back (s:=s.next) h0.tail.head]
   show (if c.kw (s.pos+2) [105,102] then _ else _)=_
   rw [kw_eq (i:=s.pos+2) h0.tail.tail.head]
   show ((argP' c s.next.next.next).bind _)=_
   rw [arg_back (s:=s.next.next.next) h0.tail.tail.tail.head hr]
   show (match testP c s.next.next.next.next with | some f=>_ | none=>_)=_
   rw [test_back (s:=s.next.next.next.next) hf h0.tail.tail.tail.tail.head]
   show ((argP' c s.next.next.next.next.next).bind _)=_
   rw [arg_back (s:=s.next.next.next.next.next) h0.tail.tail.tail.tail.tail.head hq]
   rfl
end
-- PrG
section
variable {c:PX}
structure QOk (q:QL) (s:PS):Prop where
 nm:NmOk s.names
 ini:q.init.length≤s.names.length
 thr:q.threads.length≤4
 ins:∀ t ∈ q.threads,t.length≤12∧∀ x ∈ t,InFit s.names.length x
 three:q.wh=3∨q.wh=4→q.threads ≠ []
 ask:q.wh=4→1≤q.ask.toNat∧q.ask.toNat≤3
 name:q.wh ≠ 0→q.name.toList ≠ []
 fresh:q.wh≤1→q.init.length=s.names.length
 wh:q.wh≤4
theorem qok_zero:QOk zQL ⟨0,[]⟩:=⟨⟨fun x h=>absurd h List.not_mem_nil,.nil,Nat.zero_le _⟩,Nat.le_refl _,Nat.zero_le _,fun t h=>absurd h List.not_mem_nil,(fun h=>by rcases h with h | h <;> cases h),(fun h=>by cases h),fun h=>absurd rfl h,fun _=>rfl,Nat.zero_le _⟩
theorem QOk.step {q:QL} {s t:PS} (h:QOk q s) (hg:Gs c s t) (hw:1 < q.wh∨t.names=s.names):QOk q t:=
 ⟨hg.names h.nm,Nat.le_trans h.ini hg.more,h.thr,fun l hl=>⟨(h.ins l hl).1,fun x hx=>((h.ins l hl).2 x hx).more hg.more⟩,h.three,h.ask,h.name,fun h1=>by
   rcases hw with hw | hw
   · omega
   · rw [hw];exact h.fresh h1,h.wh⟩
theorem word_ne {i:Nat} (h:¬ (c.word i).toList=[]):i < c.ts.length:=word_lt fun e=>h (by rw [e];simp)
theorem testL_all {q:QL} {s:PS} (hq:QOk q s) (hs:s.pos < c.ts.length):(testL c q s).All fun q' t=>Gs c s t∧QOk q' t:=by
 unfold testL failP
 refine .ite (fun h0=>.ite (fun _=>.no) (fun hw=>.ok ?_)) (fun _=>.no)
 have hg:=(Gs.next hs).trans (Gs.next (word_ne hw))
 have hq2:=hq.step hg (.inr rfl)
 exact ⟨hg,hq2.nm,hq2.ini,hq2.thr,hq2.ins,(fun h=>by rcases h with h | h <;> cases h),(fun h=>by cases h),fun _=>hw,fun _=>hq2.fresh (by omega),Nat.le_of_ble_eq_true rfl⟩
theorem initL_all:∀ (f:Nat) {q:QL} {s:PS},QOk q s→q.wh=1→(initL c f q s).All fun q' t=>Gs c s t∧QOk q' t
 | 0,q,s,_,_=>.no
 | f+1,q,s,hq,hw=>by
   unfold initL
   cases hi:idxOf (c.word s.pos) s.names 0 with
   | some _=>exact .no
   | none=>
     refine locP_all.bind fun k s1 _ h1=>signP_all.bind fun _ s2 _ h2=>numQ_all.bind fun v s3 _ h3=>?_
     have hg:=(h1.1.trans h2.1).trans h3.1
     have hl:s3.names.length=s.names.length+1:=by rw [h3.2,h2.2];exact h1.2.2.2 hi
     have hf:=hq.fresh (by omega)
     have hnew:∀ w,w≤2→1≤w→QOk { q with init:=q.init++[v],wh:=w } s3:=fun w hw2 hw1=>by
       refine ⟨hg.names hq.nm,?_,hq.thr,fun l hl=>⟨(hq.ins l hl).1,fun x hx=>((hq.ins l hl).2 x hx).more hg.more⟩,fun h=>?_,fun h=>?_,fun _=>hq.name (by omega),fun _=>?_,?_⟩
       · show (q.init++[v]).length≤_
         rw [List.length_append,List.length_singleton];omega
       · have h:w=3∨w=4:=h
         omega
       · have h:w=4:=h
         omega
       · show (q.init++[v]).length=_
         rw [List.length_append,List.length_singleton];omega
       · show w≤4
         omega
     refine .ite (fun _=>.ok ⟨hg,hnew 2 (by omega) (by omega)⟩) (fun _=>?_)
     have h4:=hnew q.wh (by omega) (by omega)
     exact (initL_all f (q:={ q with init:=q.init++[v] }) h4 hw).imp fun q' t h=>⟨hg.trans h.1,h.2⟩
theorem threadL_all {q:QL} {s:PS} (hq:QOk q s) (hs:s.pos < c.ts.length):(threadL c q s).All fun q' t=>Gs c s t∧QOk q' t:=by
 unfold threadL failP
 refine .ite (fun h0=>.ite (fun _=>.no) (fun h4=>.ok ?_)) (fun _=>.no)
 have hg:=Gs.next hs
 have hq2:=hq.step hg (.inr rfl)
 have:=hq.thr
 refine ⟨hg,hq2.nm,hq2.ini,?_,fun t ht=>?_,fun _ h=>?_,(fun h=>by cases h),fun _=>hq.name (by omega),fun h=>absurd (show 3≤1 from h) (by decide),Nat.le_of_ble_eq_true rfl⟩
 · show (q.threads++[[]]).length≤4
   rw [List.length_append,List.length_singleton];omega
 · rcases List.mem_append.1 ht with ht | ht
   · exact hq2.ins t ht
   · rw [List.mem_singleton.1 ht]
     exact ⟨Nat.zero_le _,fun x hx=>absurd hx List.not_mem_nil⟩
 · have h:q.threads++[[]]=[]:=h
   simp at h
theorem may_lt {i:Nat} (h:mayP c i=true):i < c.ts.length:=by
 unfold mayP at h
 rw [Bool.or_eq_true,Bool.or_eq_true,Bool.or_eq_true] at h
 rcases h with ((h | h) | h) | h
 · exact kw_lt h
 · exact kw_lt h
 · exact reg_lt h
 · exact name_lt h
theorem addL_all {q:QL} {s:PS} (hq:QOk q s):(addL c q s).All fun q' t=>Gs c s t∧QOk q' t:=by
 unfold addL failP
 refine .ite (fun h3=>.ite (fun hm=>.ite (fun _=>.no) (fun h12=>(insP_all (may_lt hm) hq.nm.few).bind fun x t _ hx=>.ok ?_)) (fun _=>.no)) (fun _=>.no)
 have hq2:=hq.step hx.1 (.inl (by omega))
 have hne:=hq.three (.inl h3)
 have hpos:0 < q.threads.length:=List.length_pos_iff.2 hne
 have hlast:q.threads.getD (q.threads.length - 1) [] ∈ q.threads:=by
   rw [List.getD_eq_getElem?_getD,List.getElem?_eq_getElem (by omega)]
   exact List.getElem_mem _
 have hl:=hq2.ins _ hlast
 refine ⟨hx.1,hq2.nm,hq2.ini,?_,fun l hl2=>?_,fun _ h=>?_,fun h=>absurd (h3.symm.trans h) (by decide),fun _=>hq.name (by omega),fun h=>absurd (show q.wh≤1 from h) (by omega),hq.wh⟩
 · show (lastAdd q.threads x).length≤4
   have:=hq.thr
   unfold lastAdd
   rw [List.length_append,List.length_take,List.length_singleton];omega
 · have hl2:l ∈ lastAdd q.threads x:=hl2
   unfold lastAdd at hl2
   rcases List.mem_append.1 hl2 with h | h
   · exact hq2.ins l (List.mem_of_mem_take h)
   · rw [List.mem_singleton.1 h]
     refine ⟨by rw [List.length_append,List.length_singleton];omega,fun y hy=>?_⟩
     rcases List.mem_append.1 hy with hy | hy
     · exact hl.2 y hy
     · rw [List.mem_singleton.1 hy];exact hx.2
 · have h:lastAdd q.threads x=[]:=h
   unfold lastAdd at h
   simp at h
theorem askL_all {k:UInt8} (hk:1≤k.toNat∧k.toNat≤3) {q:QL} {s:PS} (hq:QOk q s) (hs:s.pos < c.ts.length):(askL c k q s).All fun q' t=>Gs c s t∧QOk q' t:=by
 unfold askL failP
 refine .ite (fun h3=>(disjP_all _ _).bind fun d t _ ht=>.ok ?_) (fun _=>.no)
 have hg:=(Gs.next hs).trans ht
 have hq2:=hq.step hg (.inl (by omega))
 exact ⟨hg,hq2.nm,hq2.ini,hq2.thr,hq2.ins,fun _=>hq2.three (.inl h3),fun _=>hk,fun _=>hq2.name (by omega),fun h=>absurd (show 4≤1 from h) (by decide),Nat.le_of_ble_eq_true rfl⟩
theorem lineL_all {q:QL} {s:PS} (hq:QOk q s):(lineL c q s).All fun q' t=>Gs c s t∧QOk q' t:=by
 unfold lineL failP
 refine .ite (fun h=>testL_all hq (kw_lt h)) (fun _=>.ite (fun h=>.ite (fun hw=>?_) (fun _=>.no)) (fun _=>.ite (fun h=>threadL_all hq (kw_lt h)) (fun _=>.ite (fun h=>askL_all (by decide) hq (kw_lt h)) (fun _=>.ite (fun h=>askL_all (by decide) hq (kw_lt h)) (fun _=>.ite (fun h=>askL_all (by decide) hq (kw_lt h)) (fun _=>addL_all hq))))))
 have hg:=Gs.next (s:=s) (kw_lt h)
 exact (initL_all _ (hq.step hg (.inr rfl)) hw).imp fun q' t ht=>⟨hg.trans ht.1,ht.2⟩
theorem linesL_all:∀ (f:Nat) {q:QL} {s:PS},QOk q s→s.pos≤c.ts.length→(linesL c f q s).All fun q' t=>t.pos≤c.ts.length∧QOk q' t∧q'.wh=4
 | 0,q,s,_,_=>.no
 | f+1,q,s,hq,hs=>by
   unfold linesL
   refine .ite (fun h=>.ok ⟨hs,hq,h⟩) (fun h=>(lineL_all hq).bind fun q' t _ ht=>endP_all.bind fun _ u _ hu=>?_)
   exact linesL_all f (ht.2.step hu.1 (.inr (by rw [hu.2];rfl))) hu.1.le
structure PgFit (p:Prg):Prop where
 nm:NmOk p.locs
 ini:p.init.length=p.locs.length
 thr:1≤p.threads.length∧p.threads.length≤4
 ins:∀ t ∈ p.threads,t.length≤12∧∀ x ∈ t,InFit p.locs.length x
 ask:1≤p.ask.toNat∧p.ask.toNat≤3
 name:p.name.toList ≠ []
 deep:depC p.cond≤20
theorem progP_fit {p:Prg} {s:PS} (h:progP c = .ok p s):PgFit p:=by
 have:(progP c).All fun p _=>PgFit p:=by
   unfold progP failP
   refine (linesL_all _ qok_zero (Nat.zero_le _)).bind fun q s _ hq=>.ite (fun _=>.no) (fun _=>.ite (fun _=>.no) (fun h20=>.ok ?_))
   obtain ⟨_,hq,h4⟩:=hq
   have:=hq.ini
   exact ⟨hq.nm,by show (padI q.init s.names.length).length=s.names.length;unfold padI;rw [List.length_append,List.length_replicate];omega,⟨List.length_pos_iff.2 (hq.three (.inr h4)),hq.thr⟩,hq.ins,hq.ask h4,hq.name (by omega),by show depC q.cond≤20;omega⟩
 exact this p s h
end
-- PrT
structure SameX (c d:PX):Prop where
 fixed:d.fixed=c.fixed
 len:d.ts.length=c.ts.length
 kind:d.kind=c.kind
 text:d.text=c.text
theorem SameX.word {c d:PX} (h:SameX c d):d.word=c.word:=by funext i;unfold PX.word;rw [h.kind,h.text]
theorem SameX.is {c d:PX} (h:SameX c d):d.is=c.is:=by funext i s;unfold PX.is;rw [h.kind,h.text]
theorem SameX.kw {c d:PX} (h:SameX c d):d.kw=c.kw:=by funext i s;unfold PX.kw;rw [h.word]
def Sim {α:Type} (c d:PX) (Rel:α→α→Prop):Rs α→Rs α→Prop
 | .ok v s,.ok u t=>Rel v u∧s=t
 | .no p e,.no q f=>(e=f∧e ≠ 0)∧∃ i,p=c.place i∧q=d.place i
 | _,_=>False
section
variable {c d:PX} {α β:Type} {Rel:α→α→Prop} {Rel2:β→β→Prop}
theorem Sim.ok {v u:α} {s:PS} (h:Rel v u):Sim c d Rel (.ok v s) (.ok u s):=⟨h,rfl⟩
theorem Sim.eq {v:α} {s:PS}:Sim c d Eq (.ok v s) (.ok v s):=⟨rfl,rfl⟩
theorem Sim.fail {s:PS} {e:Nat} (he:e ≠ 0:=by decide):Sim c d Rel (failP c s e) (failP d s e):=⟨⟨rfl,he⟩,s.pos,rfl,rfl⟩
theorem Sim.bind {r r':Rs α} {f f':α→PS→Rs β} (h:Sim c d Rel r r') (hf:∀ v u s,Rel v u→Sim c d Rel2 (f v s) (f' u s)):Sim c d Rel2 (r.bind f) (r'.bind f'):=by
 cases r with
 | ok v s=>
   cases r' with
   | ok u t=>obtain ⟨h1,rfl⟩:=h;exact hf v u s h1
   | no q f=>exact h.elim
 | no p e=>
   cases r' with
   | ok u t=>exact h.elim
   | no q f=>exact h
theorem Sim.bindE {r r':Rs α} {f f':α→PS→Rs β} (h:Sim c d Eq r r') (hf:∀ v s,Sim c d Rel2 (f v s) (f' v s)):Sim c d Rel2 (r.bind f) (r'.bind f'):=h.bind fun v u s hvu=>by subst hvu;exact hf v s
theorem Sim.ite {p:Prop} [Decidable p] {a b a' b':Rs α} (h1:p→Sim c d Rel a a') (h2:¬ p→Sim c d Rel b b'):Sim c d Rel (if p then a else b) (if p then a' else b'):=by
 split
 · exact h1 ‹_›
 · exact h2 ‹_›
end
section
variable {c d:PX} (h:SameX c d)
include h
theorem sign_sim (str:List UInt8) (s:PS):Sim c d Eq (signP c str s) (signP d str s):=by unfold signP;rw [h.is];exact .ite (fun _=>.eq) (fun _=>.fail)
theorem end_sim (s:PS):Sim c d Eq (endP c s) (endP d s):=by unfold endP;rw [h.kind];exact .ite (fun _=>.eq) (fun _=>.fail)
theorem num_sim (s:PS):Sim c d Eq (numQ c s) (numQ d s):=by unfold numQ;rw [h.kind,h.text];exact .ite (fun _=>.eq) (fun _=>.fail)
theorem reg_sim (s:PS):Sim c d Eq (regQ c s) (regQ d s):=by unfold regQ;rw [h.word];exact .ite (fun _=>.eq) (fun _=>.fail)
theorem arg_sim (s:PS):Sim c d Eq (argP' c s) (argP' d s):=by unfold argP';rw [h.kind];exact .ite (fun _=>(num_sim h s).bindE fun _ _=>.eq) (fun _=>(reg_sim h s).bindE fun _ _=>.eq)
theorem loc_sim (s:PS):Sim c d Eq (locP c s) (locP d s):=by
 unfold locP
 rw [h.word,h.fixed]
 refine .ite (fun _=>?_) (fun _=>.fail)
 cases idxOf (c.word s.pos) s.names 0 with
 | some k=>exact .eq
 | none=>exact .ite (fun _=>.fail) (fun _=>.ite (fun _=>.fail) (fun _=>.eq))
theorem fence_sim (s:PS):Sim c d Eq (fenceP c s) (fenceP d s):=by unfold fenceP;rw [h.kw];exact .ite (fun _=>.eq) (fun _=>.ite (fun _=>.eq) (fun _=>.eq))
theorem test_sim (s:PS):testP d s=testP c s:=by unfold testP;rw [h.is]
theorem fn_sim (s:PS):fnP d s=fnP c s:=by unfold fnP;rw [h.is]
theorem skip_sim (s:PS):Sim c d Eq (skipP c s) (skipP d s):=by
 unfold skipP
 refine (num_sim h _).bindE fun n s1=>?_
 rw [h.kw]
 refine .ite (fun _=>(arg_sim h _).bindE fun x s2=>?_) (fun _=>.fail)
 rw [test_sim h]
 cases testP c s2 with
 | none=>exact .fail
 | some f=>exact (arg_sim h _).bindE fun y s3=>.eq
theorem store_sim (s:PS):Sim c d Eq (storeP c s) (storeP d s):=by
 unfold storeP
 rw [h.kw]
 exact (loc_sim h _).bindE fun k s1=>(sign_sim h _ _).bindE fun _ s2=>(arg_sim h _).bindE fun x s3=>.ite (fun _=>.eq) (fun _=>.eq)
theorem move_sim (e:UInt8) (s:PS):Sim c d Eq (moveP' c e s) (moveP' d e s):=by
 unfold moveP'
 refine (arg_sim h _).bindE fun x s1=>?_
 rw [fn_sim h]
 cases fnP c s1 with
 | none=>exact .fail
 | some f=>exact (arg_sim h _).bindE fun y s2=>.eq
theorem assign_sim (s:PS):Sim c d Eq (assignP c s) (assignP d s):=by
 unfold assignP
 rw [h.kw,h.word]
 refine (reg_sim h _).bindE fun e s1=>(sign_sim h _ _).bindE fun _ s2=>?_
 refine .ite (fun _=>(loc_sim h _).bindE fun k s3=>(arg_sim h _).bindE fun x s4=>.eq) (fun _=>?_);refine .ite (fun _=>(loc_sim h _).bindE fun k s3=>(arg_sim h _).bindE fun x s4=>.eq) (fun _=>?_);refine .ite (fun _=>(loc_sim h _).bindE fun k s3=>(arg_sim h _).bindE fun x s4=>(arg_sim h _).bindE fun y s5=>.eq) (fun _=>?_)
 exact .ite (fun _=>(loc_sim h _).bindE fun k s3=>.ite (fun _=>.eq) (fun _=>.eq)) (fun _=>move_sim h e s2)
theorem ins_sim (k:Nat) (s:PS):Sim c d Eq (insP c k s) (insP d k s):=by
 unfold insP
 exact .ite (fun _=>fence_sim h s) (fun _=>.ite (fun _=>skip_sim h s) (fun _=>.ite (fun _=>assign_sim h s) (fun _=>store_sim h s)))
theorem sevL_sim {p q:PS→Rs Cnd} (hp:∀ s,Sim c d Eq (p s) (q s)) (str:List UInt8):∀ (f:Nat) (ks:List Cnd) (s:PS),Sim c d Eq (sevL c p str f ks s) (sevL d q str f ks s)
 | 0,ks,s=>.fail
 | f+1,ks,s=>by
   unfold sevL
   rw [h.is]
   exact .ite (fun _=>(hp _).bindE fun k t=>sevL_sim hp str f _ t) (fun _=>.eq)
theorem sev_sim {p q:PS→Rs Cnd} (hp:∀ s,Sim c d Eq (p s) (q s)) (kind:UInt8) (str:List UInt8) (s:PS):Sim c d Eq (sevP c kind str p s) (sevP d kind str q s):=by
 unfold sevP
 rw [h.is,h.len]
 exact (hp s).bindE fun k t=>.ite (fun _=>(sevL_sim h hp str _ _ t).bindE fun ks u=>.eq) (fun _=>.eq)
theorem fact_sim:∀ (n:Nat) (s:PS),Sim c d Eq (factP c n s) (factP d n s)
 | 0,s=>.fail
 | n+1,s=>by
   unfold factP
   rw [h.is,h.kw,h.kind];refine .ite (fun _=>(fact_sim n _).bindE fun k t=>.eq) (fun _=>?_);refine .ite (fun _=>(sev_sim h (sev_sim h (fact_sim n) 3 [38]) 4 [124] _).bindE fun k t=>(sign_sim h _ _).bindE fun _ u=>.eq) (fun _=>?_);refine .ite (fun _=>.eq) (fun _=>?_);refine .ite (fun _=>(num_sim h _).bindE fun t s1=>(sign_sim h _ _).bindE fun _ s2=>(reg_sim h _).bindE fun n s3=>(sign_sim h _ _).bindE fun _ s4=>(num_sim h _).bindE fun v s5=>.eq) (fun _=>?_)
   exact (loc_sim h _).bindE fun k s1=>(sign_sim h _ _).bindE fun _ s2=>(num_sim h _).bindE fun v s3=>.eq
theorem disj_sim (n:Nat) (s:PS):Sim c d Eq (disjP c n s) (disjP d n s):=by
 unfold disjP conjP
 exact sev_sim h (sev_sim h (fact_sim h n) 3 [38]) 4 [124] s
omit h in
structure SimQ (c d:PX) (q r:QL):Prop where
 name:r.name=q.name
 init:r.init=q.init
 threads:r.threads=q.threads
 ask:r.ask=q.ask
 cond:r.cond=q.cond
 wh:r.wh=q.wh
 query:q.wh=4→∃ i,q.query=c.place i∧r.query=d.place i
theorem testL_sim {q r:QL} (hq:SimQ c d q r) (s:PS):Sim c d (SimQ c d) (testL c q s) (testL d r s):=by
 unfold testL
 rw [h.word,hq.wh]
 exact .ite (fun _=>.ite (fun _=>.fail) (fun _=>.ok ⟨rfl,hq.init,hq.threads,hq.ask,hq.cond,rfl,fun e=>by cases e⟩)) (fun _=>.fail)
theorem initL_sim:∀ (f:Nat) {q r:QL} (s:PS),SimQ c d q r→Sim c d (SimQ c d) (initL c f q s) (initL d f r s)
 | 0,q,r,s,hq=>.fail
 | f+1,q,r,s,hq=>by
   unfold initL
   rw [h.word,h.kind]
   cases idxOf (c.word s.pos) s.names 0 with
   | some _=>exact .fail
   | none=>
     refine (loc_sim h _).bindE fun _ s1=>(sign_sim h _ _).bindE fun _ s2=>(num_sim h _).bindE fun v s3=>?_
     refine .ite (fun _=>.ok ⟨hq.name,by show r.init++[v]=q.init++[v];rw [hq.init],hq.threads,hq.ask,hq.cond,rfl,fun e=>by cases e⟩) (fun _=>initL_sim f s3 ?_)
     exact ⟨hq.name,by show r.init++[v]=q.init++[v];rw [hq.init],hq.threads,hq.ask,hq.cond,hq.wh,hq.query⟩
omit h in
theorem threadL_sim {q r:QL} (hq:SimQ c d q r) (s:PS):Sim c d (SimQ c d) (threadL c q s) (threadL d r s):=by
 unfold threadL
 rw [hq.wh,hq.threads]
 exact .ite (fun _=>.ite (fun _=>.fail) (fun _=>.ok ⟨hq.name,hq.init,by rfl,hq.ask,hq.cond,rfl,fun e=>by cases e⟩)) (fun _=>.fail)
theorem may_sim (i:Nat):mayP d i=mayP c i:=by unfold mayP;rw [h.kw,h.word]
theorem start_sim (i:Nat):startP d i=startP c i:=by unfold startP;rw [h.kw,h.word]
theorem addL_sim {q r:QL} (hq:SimQ c d q r) (s:PS):Sim c d (SimQ c d) (addL c q s) (addL d r s):=by
 unfold addL
 rw [hq.wh,hq.threads,may_sim h,start_sim h]
 refine .ite (fun h3=>.ite (fun _=>.ite (fun _=>.fail) (fun _=>(ins_sim h _ _).bindE fun x t=>.ok ?_)) (fun _=>.fail)) (fun _=>.fail)
 exact ⟨hq.name,hq.init,rfl,hq.ask,hq.cond,rfl,hq.query⟩
theorem askL_sim (k:UInt8) {q r:QL} (hq:SimQ c d q r) (s:PS):Sim c d (SimQ c d) (askL c k q s) (askL d k r s):=by
 unfold askL
 rw [hq.wh,h.len]
 refine .ite (fun h3=>(disj_sim h _ _).bindE fun x t=>.ok ?_) (fun _=>.fail)
 exact ⟨hq.name,hq.init,hq.threads,rfl,rfl,rfl,fun _=>⟨s.pos,rfl,rfl⟩⟩
theorem lineL_sim {q r:QL} (hq:SimQ c d q r) (s:PS):Sim c d (SimQ c d) (lineL c q s) (lineL d r s):=by
 unfold lineL
 rw [h.kw,h.len,hq.wh]
 exact .ite (fun _=>testL_sim h hq s) (fun _=>.ite (fun _=>.ite (fun _=>initL_sim h _ _ hq) (fun _=>.fail)) (fun _=>.ite (fun _=>threadL_sim hq s) (fun _=>.ite (fun _=>askL_sim h 1 hq s) (fun _=>.ite (fun _=>askL_sim h 2 hq s) (fun _=>.ite (fun _=>askL_sim h 3 hq s) (fun _=>addL_sim h hq s))))))
theorem linesL_sim:∀ (f:Nat) {q r:QL} (s:PS),SimQ c d q r→Sim c d (fun q r=>SimQ c d q r∧q.wh=4) (linesL c f q s) (linesL d f r s)
 | 0,q,r,s,hq=>.fail
 | f+1,q,r,s,hq=>by
   unfold linesL
   rw [hq.wh]
   exact .ite (fun h4=>.ok ⟨hq,h4⟩) (fun _=>(lineL_sim h hq s).bind fun q' r' t hq'=>(end_sim h t).bindE fun _ u=>linesL_sim f u hq')
theorem prog_sim:Sim c d Eq (progP c) (progP d):=by
 unfold progP
 rw [h.len]
 refine (linesL_sim h _ _ ⟨rfl,rfl,rfl,rfl,rfl,rfl,fun e=>by cases e⟩).bind fun q r s hq=>.ite (fun _=>.fail) (fun _=>?_)
 obtain ⟨hq,h4⟩:=hq
 rw [hq.cond,hq.name,hq.init,hq.threads,hq.ask]
 refine .ite (fun _=>?_) (fun _=>.eq)
 exact ⟨⟨rfl,by decide⟩,hq.query h4⟩
end
theorem sameX_refl (c:PX):SameX c c:=⟨rfl,rfl,rfl,rfl⟩
theorem prog_ne {c:PX} {p e:Nat} (h:progP c = .no p e):e ≠ 0:=by
 have:=prog_sim (sameX_refl c)
 rw [h] at this
 exact this.1.2
-- PrJ
theorem Rs.bind_ok {α β:Type} {r:Rs α} {f:α→PS→Rs β} {v:β} {t:PS} (h:r.bind f = .ok v t):∃ u s,r = .ok u s∧f u s = .ok v t:=by
 cases r with
 | ok u s=>exact ⟨u,s,rfl,h⟩
 | no p e=>cases h
structure Nigh (c d:PX) (i j k:Nat):Prop where
 kind:∀ a,a < k→d.kind (j+a)=c.kind (i+a)
 text:∀ a,a < k→d.text (j+a)=c.text (i+a)
 also:d.is (j+k) [38]=false
 either:d.is (j+k) [124]=false
 room:j+k≤d.ts.length
 fixed:d.fixed=c.fixed
structure Near (i j k:Nat) (s t:PS):Prop where
 pos:t.pos+i=s.pos+j
 ge:i≤s.pos
 le:s.pos≤i+k
 names:t.names=s.names
section
variable {c d:PX} {i j k:Nat} (h:Nigh c d i j k)
include h
theorem Nigh.kindAt {s t:PS} (hn:Near i j k s t) (hs:s.pos < i+k):d.kind t.pos=c.kind s.pos:=by
 have:=h.kind (s.pos - i) (by have:=hn.ge;omega)
 have h1:=hn.pos;have h2:=hn.ge
 rwa [show j+(s.pos - i)=t.pos by omega,show i+(s.pos - i)=s.pos by omega] at this
theorem Nigh.textAt {s t:PS} (hn:Near i j k s t) (hs:s.pos < i+k):d.text t.pos=c.text s.pos:=by
 have:=h.text (s.pos - i) (by have:=hn.ge;omega)
 have h1:=hn.pos;have h2:=hn.ge
 rwa [show j+(s.pos - i)=t.pos by omega,show i+(s.pos - i)=s.pos by omega] at this
theorem Nigh.isAt {s t:PS} (hn:Near i j k s t) (hs:s.pos < i+k) (str:List UInt8):d.is t.pos str=c.is s.pos str:=by unfold PX.is;rw [h.kindAt hn hs,h.textAt hn hs]
omit h in
theorem Near.next {s t:PS} (hn:Near i j k s t) (hs:s.pos < i+k):Near i j k s.next t.next:=⟨by have:=hn.pos;show t.pos+1+i=s.pos+1+j;omega,Nat.le_succ_of_le hn.ge,hs,hn.names⟩
omit h in
def Lc {α:Type} (i j k:Nat) (r r':Rs α):Prop:=∀ v t,r = .ok v t→t.pos≤i+k→∃ t',r' = .ok v t'∧Near i j k t t'
omit h in
theorem Lc.ok {α:Type} {v:α} {s t:PS} (hn:Near i j k s t):Lc i j k (.ok v s) (.ok v t):=fun v' t' he _=>by cases he;exact ⟨t,rfl,hn⟩
omit h in
theorem Lc.no {α:Type} {p e:Nat} {r:Rs α}:Lc i j k (.no p e) r:=fun v t he _=>by cases he
omit h in
theorem Lc.bind {α β:Type} {r r':Rs α} {f f':α→PS→Rs β} (h1:Lc i j k r r') (hm:∀ v t,r = .ok v t→(f v t).All fun _ u=>t.pos≤u.pos) (h2:∀ v t t',r = .ok v t→Near i j k t t'→Lc i j k (f v t) (f' v t')):Lc i j k (r.bind f) (r'.bind f'):=fun v t he hle=>by
 obtain ⟨u,s,hr,hf⟩:=Rs.bind_ok he
 have hs:=hm u s hr v t hf
 obtain ⟨s',hr',hn⟩:=h1 u s hr (Nat.le_trans hs hle)
 obtain ⟨t',ht',hn'⟩:=h2 u s s' hr hn v t hf hle
 exact ⟨t',by rw [hr'];exact ht',hn'⟩
omit h in
theorem Lc.room {α:Type} {s:PS} {r r':Rs α} (hg:r.All fun _ t=>s.pos < t.pos) (h1:s.pos < i+k→Lc i j k r r'):Lc i j k r r':=fun v t he hle=>h1 (Nat.lt_of_lt_of_le (hg v t he) hle) v t he hle
theorem Nigh.stop {s t:PS} (hn:Near i j k s t) {str:List UInt8} (hstr:str=[38]∨str=[124]) (hf:c.is s.pos str=false):d.is t.pos str=false:=by
 rcases Nat.lt_or_ge s.pos (i+k) with h1 | h1
 · rw [h.isAt hn h1,hf]
 · have:=hn.le;have:=hn.pos
   rw [show t.pos=j+k by omega]
   rcases hstr with rfl | rfl
   · exact h.also
   · exact h.either
end
-- PrK
theorem is_kind {c:PX} {i:Nat} {s:List UInt8} (h:c.is i s=true):c.kind i=3∧(c.text i).toList=s:=by
 unfold PX.is at h
 rw [Bool.and_eq_true,beq_iff_eq,beq_iff_eq] at h
 exact h
theorem is_else {c:PX} {i:Nat} {s r:List UInt8} (h:c.is i s=true) (hne:s ≠ r):c.is i r=false:=by
 unfold PX.is
 rw [(is_kind h).2,Bool.and_eq_false_iff,beq_eq_false_iff_ne]
 exact .inr (beq_eq_false_iff_ne.2 hne)
section
variable {a b d:PX} {ns:List ByteArray} {x y:Cnd} {k m:Nat}
end
end Go.Proofs.YtkchaoajegkadaaGreatDoor
