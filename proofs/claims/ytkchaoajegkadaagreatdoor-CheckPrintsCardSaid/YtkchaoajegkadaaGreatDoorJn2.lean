/-
  Plain Lean: what package parse computes from tokens. Nothing of the program. Conditions: none.
-/
import Derived.Test.YtkchaoajegkadaaGreatDoorLexK
import Derived.Test.YtkchaoajegkadaaGreatDoorCkK
import Derived.Test.YtkchaoajegkadaaGreatDoorJn1
set_option linter.unusedSimpArgs false
set_option linter.unusedVariables false
namespace Go.Proofs.YtkchaoajegkadaaGreatDoor
-- PrP
structure PS where
 pos:Nat
 names:List ByteArray
def PS.next (s:PS):PS:=⟨s.pos+1,s.names⟩
structure PX where
 ts:List Tok
 size:Nat
 fixed:Bool
inductive Rs (α:Type) where
 | ok (v:α) (s:PS)
 | no (p:Nat) (e:Nat)
def Rs.bind {α β:Type}:Rs α→(α→PS→Rs β)→Rs β
 | .ok v s,f=>f v s
 | .no p e,_=>.no p e
section
variable (c:PX)
def PX.kind (i:Nat):Nat:=match c.ts[i]? with | some t=>t.kind | none=>0
def PX.text (i:Nat):ByteArray:=match c.ts[i]? with | some t=>t.text | none=>ByteArray.empty
def PX.place (i:Nat):Nat:=match c.ts[i]? with | some t=>t.pos | none=>c.size
def PX.word (i:Nat):ByteArray:=if c.kind i=1 then c.text i else ByteArray.empty
def PX.is (i:Nat) (s:List UInt8):Bool:=c.kind i == 3 && (c.text i).toList == s
def PX.kw (i:Nat) (s:List UInt8):Bool:=(c.word i).toList == s
def failP {α:Type} (s:PS) (e:Nat):Rs α:=.no (c.place s.pos) e
def signP (str:List UInt8) (s:PS):Rs Unit:=if c.is s.pos str then .ok () s.next else failP c s 50
def endP (s:PS):Rs Unit:=if c.kind s.pos=4 then .ok () s.next else failP c s 50
def numQ (s:PS):Rs UInt8:=if c.kind s.pos=2∧numOk (c.text s.pos)=true then .ok (UInt8.ofNat (numV (c.text s.pos))) s.next else failP c s 50
def regQ (s:PS):Rs UInt8:=if regOk (c.word s.pos)=true then .ok (UInt8.ofNat (regV (c.word s.pos)).toNat) s.next else failP c s 50
def argP' (s:PS):Rs (Bool × UInt8):=if c.kind s.pos=2 then (numQ c s).bind fun n t=>.ok (false,n) t else (regQ c s).bind fun n t=>.ok (true,n) t
def locP (s:PS):Rs UInt8:=
 if nameOk (c.word s.pos)=true then
   match idxOf (c.word s.pos) s.names 0 with
   | some k=>.ok (UInt8.ofNat k) s.next
   | none=>if c.fixed=true then failP c s 6 else if s.names.length=6 then failP c s 5 else .ok (UInt8.ofNat s.names.length) ⟨s.pos+1,s.names++[c.word s.pos]⟩
 else failP c s 50
/-! ### Instructions -/
def zIns:Ins:=⟨0,0,0,false,0,false,0,0,0,0⟩
def fenceP (s:PS):Rs Ins:=
 if c.kw (s.pos+1) [108,111,97,100,115] then .ok { zIns with op:=7,mode:=4 } s.next.next
 else if c.kw (s.pos+1) [115,116,111,114,101,115] then .ok { zIns with op:=7,mode:=5 } s.next.next
 else .ok { zIns with op:=7,mode:=3 } s.next
def testP (s:PS):Option UInt8:=if c.is s.pos [61,61] then some 4 else if c.is s.pos [33,61] then some 5 else if c.is s.pos [60] then some 6 else none
def fnP (s:PS):Option UInt8:=if c.is s.pos [43] then some 1 else if c.is s.pos [45] then some 2 else if c.is s.pos [94] then some 3 else none
def skipP (s:PS):Rs Ins:=(numQ c s.next).bind fun n s1=>
 if c.kw s1.pos [105,102] then
   (argP' c s1.next).bind fun x s2=>match testP c s2 with
     | some f=>(argP' c s2.next).bind fun y s3=>.ok { zIns with op:=8,skip:=n,aR:=x.1,aN:=x.2,bR:=y.1,bN:=y.2,fn:=f } s3
     | none=>failP c s2 50
 else failP c s1 50
def storeP (s:PS):Rs Ins:=(locP c s).bind fun k s1=>(signP c [61] s1).bind fun _ s2=>(argP' c s2).bind fun x s3=>
 if c.kw s3.pos [114,101,108] then .ok { zIns with op:=2,loc:=k,aR:=x.1,aN:=x.2,mode:=2 } s3.next
 else .ok { zIns with op:=2,loc:=k,aR:=x.1,aN:=x.2 } s3
def moveP' (d:UInt8) (s:PS):Rs Ins:=(argP' c s).bind fun x s1=>match fnP c s1 with
 | some f=>(argP' c s1.next).bind fun y s2=>.ok { zIns with op:=3,dst:=d,aR:=x.1,aN:=x.2,bR:=y.1,bN:=y.2,fn:=f } s2
 | none=>failP c s1 50
def assignP (s:PS):Rs Ins:=(regQ c s).bind fun d s1=>(signP c [61] s1).bind fun _ s2=>
 if c.kw s2.pos [115,119,97,112] then (locP c s2.next).bind fun k s3=>(argP' c s3).bind fun x s4=>.ok { zIns with op:=4,dst:=d,loc:=k,aR:=x.1,aN:=x.2 } s4
 else if c.kw s2.pos [102,101,116,99,104] then (locP c s2.next).bind fun k s3=>(argP' c s3).bind fun x s4=>.ok { zIns with op:=5,dst:=d,loc:=k,aR:=x.1,aN:=x.2 } s4
 else if c.kw s2.pos [99,97,115] then (locP c s2.next).bind fun k s3=>(argP' c s3).bind fun x s4=>(argP' c s4).bind fun y s5=>.ok { zIns with op:=6,dst:=d,loc:=k,aR:=x.1,aN:=x.2,bR:=y.1,bN:=y.2 } s5
 else if nameOk (c.word s2.pos)=true then (locP c s2).bind fun k s3=>
   if c.kw s3.pos [97,99,113] then .ok { zIns with op:=1,dst:=d,loc:=k,mode:=1 } s3.next else .ok { zIns with op:=1,dst:=d,loc:=k } s3
 else moveP' c d s2
def startP (i:Nat):Nat:=if c.kw i [102,101,110,99,101] then 0 else if c.kw i [115,107,105,112] then 1 else if regOk (c.word i)=true then 2 else 3
def mayP (i:Nat):Bool:=c.kw i [102,101,110,99,101] || c.kw i [115,107,105,112] || regOk (c.word i) || nameOk (c.word i)
def insP (k:Nat) (s:PS):Rs Ins:=if k=0 then fenceP c s else if k=1 then skipP c s else if k=2 then assignP c s else storeP c s
/-! ### Conditions -/
def sevL (part:PS→Rs Cnd) (str:List UInt8):Nat→List Cnd→PS→Rs (List Cnd)
 | 0,_,s=>failP c s 50
 | f+1,ks,s=>if c.is s.pos str then (part s.next).bind fun k t=>sevL part str f (ks++[k]) t else .ok ks s
def sevP (kind:UInt8) (str:List UInt8) (part:PS→Rs Cnd) (s:PS):Rs Cnd:=(part s).bind fun k t=>
 if c.is t.pos str then (sevL c part str c.ts.length [k] t).bind fun ks u=>.ok (.mk kind 0 0 0 ks) u else .ok k t
def factP:Nat→PS→Rs Cnd
 | 0,s=>failP c s 50
 | n+1,s=>
   if c.is s.pos [33] then (factP n s.next).bind fun k t=>.ok (.mk 5 0 0 0 [k]) t
   else if c.is s.pos [40] then (sevP c 4 [124] (sevP c 3 [38] (factP n)) s.next).bind fun k t=>(signP c [41] t).bind fun _ u=>.ok k u
   else if c.kw s.pos [116,114,117,101] then .ok (.mk 0 0 0 0 []) s.next
   else if c.kind s.pos=2 then (numQ c s).bind fun t s1=>(signP c [58] s1).bind fun _ s2=>(regQ c s2).bind fun n s3=>(signP c [61] s3).bind fun _ s4=>(numQ c s4).bind fun v s5=>.ok (.mk 1 t n v []) s5
   else (locP c s).bind fun n s1=>(signP c [61] s1).bind fun _ s2=>(numQ c s2).bind fun v s3=>.ok (.mk 2 0 n v []) s3
def conjP (n:Nat) (s:PS):Rs Cnd:=sevP c 3 [38] (factP c n) s
def disjP (n:Nat) (s:PS):Rs Cnd:=sevP c 4 [124] (conjP c n) s
/-! ### Programs -/
structure QL where
 name:ByteArray
 init:List UInt8
 threads:List (List Ins)
 ask:UInt8
 cond:Cnd
 wh:Nat
 query:Nat
def zQL:QL:=⟨ByteArray.empty,[],[],0,.mk 0 0 0 0 [],0,0⟩
def testL (q:QL) (s:PS):Rs QL:=if q.wh=0 then (if (c.word s.next.pos).toList=[] then failP c s.next 50 else .ok { q with name:=c.word s.next.pos,wh:=1 } s.next.next) else failP c s 50
def initL:Nat→QL→PS→Rs QL
 | 0,_,s=>failP c s 50
 | f+1,q,s=>match idxOf (c.word s.pos) s.names 0 with
   | some _=>failP c s 51
   | none=>(locP c s).bind fun _ s1=>(signP c [61] s1).bind fun _ s2=>(numQ c s2).bind fun v s3=>
     if c.kind s3.pos=4 then .ok { q with init:=q.init++[v],wh:=2 } s3 else initL f { q with init:=q.init++[v] } s3
def threadL (q:QL) (s:PS):Rs QL:=if q.wh=1∨q.wh=2∨q.wh=3 then (if q.threads.length=4 then failP c s 5 else .ok { q with threads:=q.threads++[[]],wh:=3 } s.next) else failP c s 50
def lastAdd (l:List (List Ins)) (x:Ins):List (List Ins):=l.take (l.length - 1)++[l.getD (l.length - 1) []++[x]]
def addL (q:QL) (s:PS):Rs QL:=
 if q.wh=3 then
   if mayP c s.pos=true then
     if (q.threads.getD (q.threads.length - 1) []).length=12 then failP c s 5
     else (insP c (startP c s.pos) s).bind fun x t=>.ok { q with threads:=lastAdd q.threads x } t
   else failP c s 50
 else failP c s 50
def askL (k:UInt8) (q:QL) (s:PS):Rs QL:=if q.wh=3 then (disjP c (c.ts.length+1) s.next).bind fun d t=>.ok { q with ask:=k,cond:=d,wh:=4,query:=c.place s.pos } t else failP c s 50
def lineL (q:QL) (s:PS):Rs QL:=
 if c.kw s.pos [116,101,115,116] then testL c q s
 else if c.kw s.pos [105,110,105,116] then (if q.wh=1 then initL c (c.ts.length+1) q s.next else failP c s 50)
 else if c.kw s.pos [116,104,114,101,97,100] then threadL c q s
 else if c.kw s.pos [115,111,109,101] then askL c 1 q s
 else if c.kw s.pos [110,111,110,101] then askL c 2 q s
 else if c.kw s.pos [97,108,108] then askL c 3 q s
 else addL c q s
def linesL:Nat→QL→PS→Rs QL
 | 0,_,s=>failP c s 50
 | f+1,q,s=>if q.wh=4 then .ok q s else (lineL c q s).bind fun q' t=>(endP c t).bind fun _ u=>linesL f q' u
end
def depC:Cnd→Nat
 | .mk _ _ _ _ kids=>depL kids+1
where depL:List Cnd→Nat
 | []=>0
 | k :: r=>max (depC k) (depL r)
def padI (l:List UInt8) (n:Nat):List UInt8:=l++List.replicate (n - l.length) 0
def progP (c:PX):Rs Prg:=(linesL c (c.ts.length+2) zQL ⟨0,[]⟩).bind fun q s=>
 if s.pos < c.ts.length then failP c s 50
 else if 20 < depC q.cond then .no q.query 5
 else .ok ⟨q.name,s.names,padI q.init s.names.length,q.threads,q.ask,q.cond⟩ s
-- PtP
def numT (n:UInt8):List UInt8:=
 if n.toNat < 10 then [48+n] else if n.toNat < 100 then [48+n / 10,48+n % 10] else [48+n / 100,48+n / 10 % 10,48+n % 10]
def regT (n:UInt8):List UInt8:=114 :: numT n
def argT (r:Bool) (n:UInt8):List UInt8:=if r then regT n else numT n
def locT (locs:List ByteArray) (n:UInt8):List UInt8:=match locs[n.toNat]? with | some s=>s.toList | none=>[63]
def fnT (fn first last:UInt8):List UInt8:=
 if fn.toNat < first.toNat∨last.toNat < fn.toNat then [63] else if fn=1 then [43] else if fn=2 then [45] else if fn=3 then [94] else if fn=4 then [61,61] else if fn=5 then [33,61] else [60]
def modeT (m plain special:UInt8) (word:List UInt8):List (List UInt8):=if m=plain then [] else if m=special then [word] else [[63]]
def insT (locs:List ByteArray) (x:Ins):List (List UInt8):=
 if x.op=1 then [regT x.dst,[61],locT locs x.loc]++modeT x.mode 0 1 [97,99,113]
 else if x.op=2 then [locT locs x.loc,[61],argT x.aR x.aN]++modeT x.mode 0 2 [114,101,108]
 else if x.op=3 then [regT x.dst,[61],argT x.aR x.aN,fnT x.fn 1 3,argT x.bR x.bN]
 else if x.op=4 then [regT x.dst,[61],[115,119,97,112],locT locs x.loc,argT x.aR x.aN]
 else if x.op=5 then [regT x.dst,[61],[102,101,116,99,104],locT locs x.loc,argT x.aR x.aN]
 else if x.op=6 then [regT x.dst,[61],[99,97,115],locT locs x.loc,argT x.aR x.aN,argT x.bR x.bN]
 else if x.op=7 then [102,101,110,99,101] :: (if x.mode=4 then [[108,111,97,100,115]] else modeT x.mode 3 5 [115,116,111,114,101,115])
 else if x.op=8 then [[115,107,105,112],numT x.skip,[105,102],argT x.aR x.aN,fnT x.fn 4 6,argT x.bR x.bN]
 else [[63]]
def condWd (locs:List ByteArray):Cnd→List (List UInt8)
 | .mk k t n v kids=>
   if k=0 then [[116,114,117,101]]
   else if k=1 then [numT t++[58]++regT n,[61],numT v]
   else if k=2 then [locT locs n,[61],numT v]
   else if k=5 then [33] :: kidsT true [] true kids
   else if k=3 then kidsT true [[38]] true kids
   else if k=4 then kidsT false [[124]] true kids
   else [[63]]
where
 /-- The kids' words: with parentheses for conjunctions too;what stands between them;the first of them. -/
 kidsT (and:Bool) (mid:List (List UInt8)):Bool→List Cnd→List (List UInt8)
 | _,[]=>[]
 | first,.mk k t n v kids :: r=>(if first then [] else mid)++(if k=4∨and=true∧k=3 then [40] :: (condWd locs (.mk k t n v kids)++[[41]]) else condWd locs (.mk k t n v kids))++kidsT and mid false r
abbrev WS:=List UInt8 × Bool
def wordW (w:WS) (s:List UInt8):WS:=(w.1++(if w.2 then [32] else [])++s,true)
def wordsW (w:WS) (l:List (List UInt8)):WS:=l.foldl wordW w
def lineW (w:WS):WS:=(w.1++[10],false)
def codeW (locs:List ByteArray):Bool→WS→List Ins→WS
 | _,w,[]=>w
 | first,w,x :: r=>codeW locs false (wordsW (if first then w else lineW w) (insT locs x)) r
def initW (init:List UInt8):Nat→WS→List ByteArray→WS
 | _,w,[]=>w
 | i,w,s :: r=>initW init (i+1) (let u:=wordsW w [s.toList,[61]];match init[i]? with | some v=>wordsW u [numT v] | none=>u) r
def threadW (locs:List ByteArray) (w:WS) (l:List Ins):WS:=
 let u:=codeW locs true (lineW (wordsW w [[116,104,114,101,97,100]])) l
 if l.length=0 then u else lineW u
def askT (k:UInt8):List UInt8:=if k=1 then [115,111,109,101] else if k=2 then [110,111,110,101] else if k=3 then [97,108,108] else [63]
def progW (p:Prg):WS:=
 let w0:=lineW (wordsW ([],false) [[116,101,115,116],p.name.toList])
 let w1:=if p.locs.length=0 then w0 else lineW (initW p.init 0 (wordsW w0 [[105,110,105,116]]) p.locs)
 let w2:=p.threads.foldl (threadW p.locs) w1
 lineW (wordsW (wordsW w2 [askT p.ask]) (condWd p.locs p.cond))
def printT (p:Prg):List UInt8:=(progW p).1
-- PrF
theorem nameOk_nil:nameOk ByteArray.empty=false:=by decide +kernel
theorem regOk_nil:regOk ByteArray.empty=false:=by decide +kernel
theorem regV_lt {s:ByteArray} (h:regOk s=true):(regV s).toNat < 8:=by
 unfold regV
 unfold regOk at h
 split at h
 next hs=>
   rw [dif_pos hs]
   simp only [Bool.and_eq_true,beq_iff_eq,decide_eq_true_eq] at h
   split <;> omega
 next=>cases h
def Rs.All {α:Type} (r:Rs α) (P:α→PS→Prop):Prop:=∀ v t,r = .ok v t→P v t
theorem Rs.All.bind {α β:Type} {r:Rs α} {f:α→PS→Rs β} {P:α→PS→Prop} {Q:β→PS→Prop} (h:r.All P) (hf:∀ v t,r = .ok v t→P v t→(f v t).All Q):(r.bind f).All Q:=by
 cases r with
 | ok v s=>exact hf v s rfl (h v s rfl)
 | no p e=>intro v t h;cases h
theorem Rs.All.no {α:Type} {p e:Nat} {P:α→PS→Prop}:(Rs.no p e:Rs α).All P:=fun v t h=>by cases h
theorem Rs.All.ok {α:Type} {v:α} {s:PS} {P:α→PS→Prop} (h:P v s):(Rs.ok v s).All P:=fun v' t h'=>by cases h';exact h
theorem Rs.All.ite {α:Type} {p:Prop} [Decidable p] {a b:Rs α} {P:α→PS→Prop} (h1:p→a.All P) (h2:¬ p→b.All P):(if p then a else b).All P:=by
 split
 · exact h1 ‹_›
 · exact h2 ‹_›
theorem Rs.All.imp {α:Type} {r:Rs α} {P Q:α→PS→Prop} (h:r.All P) (f:∀ v t,P v t→Q v t):r.All Q:=fun v t hr=>f v t (h v t hr)
section
variable {c:PX}
theorem kind_lt {i:Nat} (h:c.kind i ≠ 0):i < c.ts.length:=by
 rcases Nat.lt_or_ge i c.ts.length with h1 | h1
 · exact h1
 · refine absurd ?_ h
   unfold PX.kind
   rw [List.getElem?_eq_none h1]
theorem is_lt {i:Nat} {str:List UInt8} (h:c.is i str=true):i < c.ts.length:=by
 unfold PX.is at h
 rw [Bool.and_eq_true,beq_iff_eq] at h
 exact kind_lt (by omega)
theorem word_lt {i:Nat} (h:c.word i ≠ ByteArray.empty):i < c.ts.length:=by
 unfold PX.word at h
 split at h
 · exact kind_lt (by omega)
 · exact absurd rfl h
theorem kw_lt {i:Nat} {x:UInt8} {r:List UInt8} (h:c.kw i (x :: r)=true):i < c.ts.length:=by
 refine word_lt fun e=>?_
 unfold PX.kw at h
 rw [e] at h
 simp at h
theorem name_lt {i:Nat} (h:nameOk (c.word i)=true):i < c.ts.length:=word_lt fun e=>by rw [e,nameOk_nil] at h;cases h
theorem reg_lt {i:Nat} (h:regOk (c.word i)=true):i < c.ts.length:=word_lt fun e=>by rw [e,regOk_nil] at h;cases h
structure NmOk (l:List ByteArray):Prop where
 ok:∀ x ∈ l,nameOk x=true
 apart:l.Pairwise (fun a b=>a.toList ≠ b.toList)
 few:l.length≤6
structure Gs (c:PX) (s t:PS):Prop where
 lt:s.pos < t.pos
 le:t.pos≤c.ts.length
 more:s.names.length≤t.names.length
 names:NmOk s.names→NmOk t.names
 keep:c.fixed=true→t.names=s.names
theorem Gs.trans {s t u:PS} (h:Gs c s t) (k:Gs c t u):Gs c s u:=⟨Nat.lt_trans h.lt k.lt,k.le,Nat.le_trans h.more k.more,fun hn=>k.names (h.names hn),fun hf=>(k.keep hf).trans (h.keep hf)⟩
theorem Gs.next {s:PS} (h:s.pos < c.ts.length):Gs c s s.next:=⟨Nat.lt_succ_self _,h,Nat.le_refl _,id,fun _=>rfl⟩
theorem idxOf_none {w:ByteArray}:∀ {l:List ByteArray} {k:Nat},idxOf w l k=none→∀ x ∈ l,x.toList ≠ w.toList
 | [],_,_,x,hx=>absurd hx List.not_mem_nil
 | y :: r,k,h,x,hx=>by
   unfold idxOf at h
   split at h
   · cases h
   next hne=>
     rcases List.mem_cons.1 hx with rfl | hx
     · intro e;exact hne (by rw [e];exact beq_self_eq_true _)
     · exact idxOf_none h x hx
theorem idxOf_some {w:ByteArray}:∀ {l:List ByteArray} {k j:Nat},idxOf w l k=some j→k≤j∧j < k+l.length
 | [],_,_,h=>by cases h
 | y :: r,k,j,h=>by
   unfold idxOf at h
   split at h
   · cases h;simp
   · obtain ⟨h1,h2⟩:=idxOf_some h
     rw [List.length_cons];omega
theorem signP_all {str:List UInt8} {s:PS}:(signP c str s).All fun _ t=>Gs c s t∧t=s.next:=by
 unfold signP failP
 exact .ite (fun h=>.ok ⟨Gs.next (is_lt h),rfl⟩) (fun _=>.no)
theorem endP_all {s:PS}:(endP c s).All fun _ t=>Gs c s t∧t=s.next:=by
 unfold endP failP
 exact .ite (fun h=>.ok ⟨Gs.next (kind_lt (by omega)),rfl⟩) (fun _=>.no)
theorem numQ_all {s:PS}:(numQ c s).All fun _ t=>Gs c s t∧t=s.next:=by
 unfold numQ failP
 exact .ite (fun h=>.ok ⟨Gs.next (kind_lt (by omega)),rfl⟩) (fun _=>.no)
theorem regQ_all {s:PS}:(regQ c s).All fun v t=>Gs c s t∧t=s.next∧v.toNat < 8:=by
 unfold regQ failP
 exact .ite (fun h=>.ok ⟨Gs.next (reg_lt h),rfl,by have:=regV_lt h;rw [UInt8.toNat_ofNat'];omega⟩) (fun _=>.no)
theorem argP_all {s:PS}:(argP' c s).All fun v t=>Gs c s t∧t=s.next∧(v.1=true→v.2.toNat < 8):=by
 unfold argP'
 exact .ite (fun h=>numQ_all.bind fun v t _ hv=>.ok ⟨hv.1,hv.2,fun e=>by cases e⟩) (fun _=>regQ_all.bind fun v t _ hv=>.ok ⟨hv.1,hv.2.1,fun _=>hv.2.2⟩)
theorem locP_all {s:PS}:(locP c s).All fun v t=>Gs c s t∧t.pos=s.pos+1∧(s.names.length≤6→v.toNat < t.names.length)∧(idxOf (c.word s.pos) s.names 0=none→t.names.length=s.names.length+1):=by
 unfold locP failP
 refine .ite (fun h=>?_) (fun _=>.no)
 have hl:=name_lt h
 cases hi:idxOf (c.word s.pos) s.names 0 with
 | some k=>
   have hk:=idxOf_some hi
   refine .ok ⟨Gs.next hl,rfl,fun h6=>?_,fun e=>by cases e⟩
   show (UInt8.ofNat k).toNat < s.names.length
   rw [UInt8.toNat_ofNat'];omega
 | none=>
   refine .ite (fun _=>.no) (fun hf=>.ite (fun _=>.no) (fun h6=>.ok ⟨⟨Nat.lt_succ_self _,hl,?_,fun hn=>⟨fun x hx=>?_,?_,?_⟩,fun h=>absurd h hf⟩,rfl,fun h7=>?_,fun _=>?_⟩))
   · show s.names.length≤(s.names++[c.word s.pos]).length
     rw [List.length_append];omega
   · rcases List.mem_append.1 hx with hx | hx
     · exact hn.ok x hx
     · rw [List.mem_singleton.1 hx];exact h
   · refine List.pairwise_append.2 ⟨hn.apart,List.pairwise_singleton _ _,fun a ha b hb=>?_⟩
     rw [List.mem_singleton.1 hb]
     exact idxOf_none hi a ha
   · show (s.names++[c.word s.pos]).length≤6
     have:=hn.few
     rw [List.length_append,List.length_singleton];omega
   · show (UInt8.ofNat s.names.length).toNat < (s.names++[c.word s.pos]).length
     rw [UInt8.toNat_ofNat',List.length_append,List.length_singleton];omega
   · show (s.names++[c.word s.pos]).length=_
     rw [List.length_append,List.length_singleton]
structure InFit (n:Nat) (x:Ins):Prop where
 op:1≤x.op.toNat∧x.op.toNat≤8
 dst:x.dst.toNat < 8
 a:x.aR=true→x.aN.toNat < 8
 b:x.bR=true→x.bN.toNat < 8
 loc:0 < x.loc.toNat→x.loc.toNat < n
theorem InFit.more {n m:Nat} {x:Ins} (h:InFit n x) (hm:n≤m):InFit m x:=⟨h.op,h.dst,h.a,h.b,fun h0=>Nat.lt_of_lt_of_le (h.loc h0) hm⟩
theorem fenceP_all {s:PS} (hs:s.pos < c.ts.length):(fenceP c s).All fun x t=>Gs c s t∧InFit t.names.length x:=by
 unfold fenceP
 refine .ite (fun h=>.ok ⟨(Gs.next hs).trans (Gs.next (kw_lt h)),?_⟩) (fun _=>.ite (fun h=>.ok ⟨(Gs.next hs).trans (Gs.next (kw_lt h)),?_⟩) (fun _=>.ok ⟨Gs.next hs,?_⟩))
 all_goals exact ⟨⟨Nat.le_of_ble_eq_true rfl,Nat.le_of_ble_eq_true rfl⟩,Nat.le_of_ble_eq_true rfl,(fun h=>absurd h Bool.false_ne_true),(fun h=>absurd h Bool.false_ne_true),(fun h=>(Nat.lt_irrefl 0 h).elim)⟩
theorem testP_lt {s:PS} {f:UInt8} (h:testP c s=some f):s.pos < c.ts.length:=by
 unfold testP at h
 split at h
 · exact is_lt ‹_›
 · split at h
   · exact is_lt ‹_›
   · split at h
     · exact is_lt ‹_›
     · cases h
theorem fnP_lt {s:PS} {f:UInt8} (h:fnP c s=some f):s.pos < c.ts.length:=by
 unfold fnP at h
 split at h
 · exact is_lt ‹_›
 · split at h
   · exact is_lt ‹_›
   · split at h
     · exact is_lt ‹_›
     · cases h
theorem skipP_all {s:PS} (hs:s.pos < c.ts.length):(skipP c s).All fun x t=>Gs c s t∧InFit t.names.length x:=by
 unfold skipP failP
 refine numQ_all.bind fun n s1 _ h1=>.ite (fun hk=>argP_all.bind fun x s2 _ h2=>?_) (fun _=>.no)
 cases hf:testP c s2 with
 | none=>exact .no
 | some f=>
   refine argP_all.bind fun y s3 _ h3=>.ok ⟨(((((Gs.next hs).trans h1.1).trans (Gs.next (kw_lt hk))).trans h2.1).trans (Gs.next (testP_lt hf))).trans h3.1,?_⟩
   exact ⟨⟨Nat.le_of_ble_eq_true rfl,Nat.le_of_ble_eq_true rfl⟩,Nat.le_of_ble_eq_true rfl,h2.2.2,h3.2.2,(fun h=>(Nat.lt_irrefl 0 h).elim)⟩
theorem storeP_all {s:PS} (h6:s.names.length≤6):(storeP c s).All fun x t=>Gs c s t∧InFit t.names.length x:=by
 unfold storeP
 refine locP_all.bind fun k s1 _ h1=>signP_all.bind fun _ s2 _ h2=>argP_all.bind fun x s3 _ h3=>?_
 have hg:=(h1.1.trans h2.1).trans h3.1
 have hk:k.toNat < s3.names.length:=Nat.lt_of_lt_of_le (h1.2.2.1 h6) (h2.1.trans h3.1).more
 refine .ite (fun h=>.ok ⟨hg.trans (Gs.next (kw_lt h)),?_⟩) (fun _=>.ok ⟨hg,?_⟩)
 all_goals exact ⟨⟨Nat.le_of_ble_eq_true rfl,Nat.le_of_ble_eq_true rfl⟩,Nat.le_of_ble_eq_true rfl,h3.2.2,(fun h=>absurd h Bool.false_ne_true),fun _=>hk⟩
theorem moveP_all {d:UInt8} {s:PS} (hd:d.toNat < 8):(moveP' c d s).All fun x t=>Gs c s t∧InFit t.names.length x:=by
 unfold moveP' failP
 refine argP_all.bind fun x s1 _ h1=>?_
 cases hf:fnP c s1 with
 | none=>exact .no
 | some f=>exact argP_all.bind fun y s2 _ h2=>.ok ⟨(h1.1.trans (Gs.next (fnP_lt hf))).trans h2.1,⟨Nat.le_of_ble_eq_true rfl,Nat.le_of_ble_eq_true rfl⟩,hd,h1.2.2,h2.2.2,(fun h=>(Nat.lt_irrefl 0 h).elim)⟩
theorem assignP_all {s:PS} (h6:s.names.length≤6):(assignP c s).All fun x t=>Gs c s t∧InFit t.names.length x:=by
 unfold assignP
 refine regQ_all.bind fun d s1 _ h1=>signP_all.bind fun _ s2 _ h2=>?_
 have hg:=h1.1.trans h2.1
 have hd:=h1.2.2
 have e2:s2.names=s.names:=by rw [h2.2,h1.2.1];rfl
 have hn:∀ s3:PS,s2.names=s3.names→s3.names.length≤6:=fun s3 e=>by rw [← e,e2];exact h6
 refine .ite (fun hk=>locP_all.bind fun k s3 _ h3=>argP_all.bind fun x s4 _ h4=>.ok ⟨((hg.trans (Gs.next (kw_lt hk))).trans h3.1).trans h4.1,?_⟩) (fun _=>?_)
 · exact ⟨⟨Nat.le_of_ble_eq_true rfl,Nat.le_of_ble_eq_true rfl⟩,hd,h4.2.2,(fun h=>absurd h Bool.false_ne_true),fun _=>Nat.lt_of_lt_of_le (h3.2.2.1 (hn _ rfl)) h4.1.more⟩
 refine .ite (fun hk=>locP_all.bind fun k s3 _ h3=>argP_all.bind fun x s4 _ h4=>.ok ⟨((hg.trans (Gs.next (kw_lt hk))).trans h3.1).trans h4.1,?_⟩) (fun _=>?_)
 · exact ⟨⟨Nat.le_of_ble_eq_true rfl,Nat.le_of_ble_eq_true rfl⟩,hd,h4.2.2,(fun h=>absurd h Bool.false_ne_true),fun _=>Nat.lt_of_lt_of_le (h3.2.2.1 (hn _ rfl)) h4.1.more⟩
 refine .ite (fun hk=>locP_all.bind fun k s3 _ h3=>argP_all.bind fun x s4 _ h4=>argP_all.bind fun y s5 _ h5=>.ok ⟨(((hg.trans (Gs.next (kw_lt hk))).trans h3.1).trans h4.1).trans h5.1,?_⟩) (fun _=>?_)
 · exact ⟨⟨Nat.le_of_ble_eq_true rfl,Nat.le_of_ble_eq_true rfl⟩,hd,h4.2.2,h5.2.2,fun _=>Nat.lt_of_lt_of_le (h3.2.2.1 (hn _ rfl)) (h4.1.trans h5.1).more⟩
 refine .ite (fun hk=>locP_all.bind fun k s3 _ h3=>?_) (fun _=>?_)
 · have hl:k.toNat < s3.names.length:=h3.2.2.1 (hn _ rfl)
   refine .ite (fun h=>.ok ⟨(hg.trans h3.1).trans (Gs.next (kw_lt h)),?_⟩) (fun _=>.ok ⟨hg.trans h3.1,?_⟩)
   all_goals exact ⟨⟨Nat.le_of_ble_eq_true rfl,Nat.le_of_ble_eq_true rfl⟩,hd,(fun h=>absurd h Bool.false_ne_true),(fun h=>absurd h Bool.false_ne_true),fun _=>hl⟩
 · exact (moveP_all hd).imp fun x t h=>⟨hg.trans h.1,h.2⟩
theorem insP_all {k:Nat} {s:PS} (hs:s.pos < c.ts.length) (h6:s.names.length≤6):(insP c k s).All fun x t=>Gs c s t∧InFit t.names.length x:=by
 unfold insP
 exact .ite (fun _=>fenceP_all hs) (fun _=>.ite (fun _=>skipP_all hs) (fun _=>.ite (fun _=>assignP_all h6) (fun _=>storeP_all h6)))
theorem sevL_all {part:PS→Rs Cnd} {str:List UInt8} (hp:∀ s,(part s).All fun _ t=>Gs c s t):∀ (f:Nat) (ks:List Cnd) (s:PS),(sevL c part str f ks s).All fun _ t=>s.pos≤t.pos∧(s.pos≤c.ts.length→t.pos≤c.ts.length)∧s.names.length≤t.names.length∧(NmOk s.names→NmOk t.names)∧(c.fixed=true→t.names=s.names)
 | 0,ks,s=>.no
 | f+1,ks,s=>by
   unfold sevL
   refine .ite (fun h=>(hp s.next).bind fun k t _ hk=>(sevL_all hp f (ks++[k]) t).imp fun v u hu=>?_) (fun _=>.ok ⟨Nat.le_refl _,id,Nat.le_refl _,id,fun _=>rfl⟩)
   have hg:=(Gs.next (is_lt h)).trans hk
   exact ⟨Nat.le_of_lt (Nat.lt_of_lt_of_le hg.lt hu.1),fun _=>hu.2.1 hg.le,Nat.le_trans hg.more hu.2.2.1,fun hn=>hu.2.2.2.1 (hg.names hn),fun hf=>(hu.2.2.2.2 hf).trans (hg.keep hf)⟩
theorem sevP_all {part:PS→Rs Cnd} {kind:UInt8} {str:List UInt8} (hp:∀ s,(part s).All fun _ t=>Gs c s t) (s:PS):(sevP c kind str part s).All fun _ t=>Gs c s t:=by
 unfold sevP
 refine (hp s).bind fun k t _ hk=>.ite (fun _=>(sevL_all hp _ _ _).bind fun ks u _ hu=>.ok ?_) (fun _=>.ok hk)
 exact ⟨Nat.lt_of_lt_of_le hk.lt hu.1,hu.2.1 hk.le,Nat.le_trans hk.more hu.2.2.1,fun hn=>hu.2.2.2.1 (hk.names hn),fun hf=>(hu.2.2.2.2 hf).trans (hk.keep hf)⟩
theorem factP_all:∀ (n:Nat) (s:PS),(factP c n s).All fun _ t=>Gs c s t
 | 0,s=>.no
 | n+1,s=>by
   unfold factP
   refine .ite (fun h=>(factP_all n s.next).bind fun k t _ hk=>.ok ((Gs.next (is_lt h)).trans hk)) (fun _=>?_);refine .ite (fun h=>(sevP_all (sevP_all (factP_all n)) s.next).bind fun k t _ hk=>signP_all.bind fun _ u _ hu=>.ok (((Gs.next (is_lt h)).trans hk).trans hu.1)) (fun _=>?_);refine .ite (fun h=>.ok (Gs.next (kw_lt h))) (fun _=>?_);refine .ite (fun h=>numQ_all.bind fun t s1 _ h1=>signP_all.bind fun _ s2 _ h2=>regQ_all.bind fun n s3 _ h3=>signP_all.bind fun _ s4 _ h4=>numQ_all.bind fun v s5 _ h5=>.ok ((((h1.1.trans h2.1).trans h3.1).trans h4.1).trans h5.1)) (fun _=>?_)
   exact locP_all.bind fun k s1 _ h1=>signP_all.bind fun _ s2 _ h2=>numQ_all.bind fun v s3 _ h3=>.ok ((h1.1.trans h2.1).trans h3.1)
theorem conjP_all (n:Nat) (s:PS):(conjP c n s).All fun _ t=>Gs c s t:=by unfold conjP;exact sevP_all (factP_all n) s
theorem disjP_all (n:Nat) (s:PS):(disjP c n s).All fun _ t=>Gs c s t:=by unfold disjP;exact sevP_all (conjP_all n) s
end
-- PtG
theorem app_assoc (a b c:ByteArray):a++b++c=a++(b++c):=ByteArray.append_assoc
theorem nil_app (a:ByteArray):mk []++a=a:=by apply ByteArray.ext;simp [mk]
theorem app_nil (a:ByteArray):a++ByteArray.empty=a:=by apply ByteArray.ext;simp
theorem st_10 (post:ByteArray):St (mk [10]++post):=fun h=>by
 obtain ⟨h1,h2⟩:=one_at 10 post
 exact .inl (congrArg UInt8.toNat h2)
theorem st_32 (post:ByteArray):St (mk [32]++post):=fun h=>by
 obtain ⟨h1,h2⟩:=one_at 32 post
 exact .inr (congrArg UInt8.toNat h2)
theorem K_sp (post:ByteArray) (o:Bool):K (mk [32]++post) o=K post o:=K_blank 32 rfl post o
theorem K_ln (post:ByteArray):K (mk [10]++post) true=(4,mk []) :: K post false:=K_nl post true
theorem K_none:K ByteArray.empty false=[]:=K_empty false
def goodB (kd:Nat) (l:List UInt8):Bool:=if h:0 < (mk l).size then (cls (mk l)[0].toNat != 1) && (cls (mk l)[0].toNat != 2) && (cls (mk l)[0].toNat != 7) && (kd == tokKind (cls (mk l)[0].toNat)) && (tokTo (mk l) 0 == (mk l).size) else false
theorem good_of {kd:Nat} {l:List UInt8} (h:goodB kd l=true):Good kd (mk l):=by
 unfold goodB at h
 split at h
 next h0=>
   simp only [Bool.and_eq_true,bne_iff_ne,beq_iff_eq] at h
   obtain ⟨⟨⟨⟨h1,h2⟩,h3⟩,h4⟩,h5⟩:=h
   exact ⟨h0,h1,h2,h3,h4,h5⟩
 next=>cases h
theorem good_eq:Good 3 (mk [61]):=good_of (by decide +kernel)
theorem good_acq:Good 1 (mk [97,99,113]):=good_of (by decide +kernel)
theorem good_rel:Good 1 (mk [114,101,108]):=good_of (by decide +kernel)
theorem good_add:Good 3 (mk [43]):=good_of (by decide +kernel)
theorem good_sub:Good 3 (mk [45]):=good_of (by decide +kernel)
theorem good_xor:Good 3 (mk [94]):=good_of (by decide +kernel)
theorem good_swap:Good 1 (mk [115,119,97,112]):=good_of (by decide +kernel)
theorem good_fetch:Good 1 (mk [102,101,116,99,104]):=good_of (by decide +kernel)
theorem good_cas:Good 1 (mk [99,97,115]):=good_of (by decide +kernel)
theorem good_fence:Good 1 (mk [102,101,110,99,101]):=good_of (by decide +kernel)
theorem good_loads:Good 1 (mk [108,111,97,100,115]):=good_of (by decide +kernel)
theorem good_stores:Good 1 (mk [115,116,111,114,101,115]):=good_of (by decide +kernel)
theorem good_skip:Good 1 (mk [115,107,105,112]):=good_of (by decide +kernel)
theorem good_if:Good 1 (mk [105,102]):=good_of (by decide +kernel)
theorem good_eqeq:Good 3 (mk [61,61]):=good_of (by decide +kernel)
theorem good_ne:Good 3 (mk [33,61]):=good_of (by decide +kernel)
theorem good_lt:Good 3 (mk [60]):=good_of (by decide +kernel)
theorem good_open:Good 3 (mk [40]):=good_of (by decide +kernel)
theorem good_close:Good 3 (mk [41]):=good_of (by decide +kernel)
theorem good_true:Good 1 (mk [116,114,117,101]):=good_of (by decide +kernel)
theorem good_not:Good 3 (mk [33]):=good_of (by decide +kernel)
theorem good_and:Good 3 (mk [38]):=good_of (by decide +kernel)
theorem good_or:Good 3 (mk [124]):=good_of (by decide +kernel)
theorem good_thread:Good 1 (mk [116,104,114,101,97,100]):=good_of (by decide +kernel)
theorem good_test:Good 1 (mk [116,101,115,116]):=good_of (by decide +kernel)
theorem good_init:Good 1 (mk [105,110,105,116]):=good_of (by decide +kernel)
theorem good_some:Good 1 (mk [115,111,109,101]):=good_of (by decide +kernel)
theorem good_none:Good 1 (mk [110,111,110,101]):=good_of (by decide +kernel)
theorem good_all:Good 1 (mk [97,108,108]):=good_of (by decide +kernel)
theorem byte_all {p:UInt8→Bool} (h:(List.range 256).all (fun i=>p (UInt8.ofNat i))=true) (n:UInt8):p n=true:=by
 have:=List.all_eq_true.1 h n.toNat (by rw [List.mem_range];exact n.toNat_lt)
 simpa using this
theorem byte_few {p:UInt8→Bool} (h:(List.range 8).all (fun i=>p (UInt8.ofNat i))=true) {n:UInt8} (hn:n.toNat < 8):p n=true:=by
 have:=List.all_eq_true.1 h n.toNat (by rw [List.mem_range];exact hn)
 simpa using this
theorem good_num (n:UInt8):Good 2 (mk (numT n)):=good_of (byte_all (p:=fun n=>goodB 2 (numT n)) (by decide +kernel) n)
theorem good_reg {n:UInt8} (h:n.toNat < 8):Good 1 (mk (regT n)):=good_of (byte_few (p:=fun n=>goodB 1 (regT n)) (by decide +kernel) h)
theorem mk_toList (l:List UInt8):(mk l).toList=l:=by rw [toList_data];simp [mk]
theorem mk_of {w:ByteArray} {l:List UInt8} (h:w.toList=l):w=mk l:=eq_of_toList (h.trans (mk_toList l).symm)
theorem regT_back {w:ByteArray} {n:UInt8} (hn:n.toNat < 8) (h:w.toList=regT n):regOk w=true∧(regV w).toNat=n.toNat∧nameOk w=false:=by
 have:=byte_few (p:=fun n=>regOk (mk (regT n)) && ((regV (mk (regT n))).toNat == n.toNat) && !nameOk (mk (regT n))) (by decide +kernel) hn
 rw [mk_of h]
 simp only [Bool.and_eq_true,beq_iff_eq,Bool.not_eq_true'] at this
 exact ⟨this.1.1,this.1.2,this.2⟩
theorem numT_back {w:ByteArray} {n:UInt8} (h:w.toList=numT n):numOk w=true∧numV w=n.toNat:=by
 have:=byte_all (p:=fun n=>numOk (mk (numT n)) && (numV (mk (numT n)) == n.toNat)) (by decide +kernel) n
 rw [mk_of h]
 simp only [Bool.and_eq_true,beq_iff_eq] at this
 exact this
theorem name_noreg {w:ByteArray} (h:nameOk w=true):regOk w=false:=name_reg h
theorem name_nokey {w:ByteArray} (h:nameOk w=true):w.toList ∉ keptL:=fun hm=>by
 have:=name_kept h
 unfold kept at this
 rw [List.any_eq_false] at this
 exact this _ hm (beq_self_eq_true _)
theorem key_true:[116,114,117,101] ∈ keptL:=by decide
theorem key_fence:[102,101,110,99,101] ∈ keptL:=by decide
theorem key_skip:[115,107,105,112] ∈ keptL:=by decide
theorem key_swap:[115,119,97,112] ∈ keptL:=by decide
theorem key_fetch:[102,101,116,99,104] ∈ keptL:=by decide
theorem key_cas:[99,97,115] ∈ keptL:=by decide
theorem good_name {w:ByteArray} (h:nameOk w=true):Good 1 (mk w.toList):=by
 have e:mk w.toList=w:=(mk_of rfl).symm
 rw [e]
 have hw:=name_wordy h
 unfold wordy at hw
 split at hw
 next h0=>
   simp only [Bool.and_eq_true,decide_eq_true_eq,beq_iff_eq] at hw
   obtain ⟨⟨h1,h2⟩,h3⟩:=hw
   refine ⟨h0,by rw [h2];decide,by rw [h2];decide,by rw [h2];decide,by rw [h2];rfl,?_⟩
   unfold tokTo
   rw [clsAt_get h0,if_pos h2]
   exact h3
 next=>cases hw
theorem runTo_by {p:Int→Bool} {a c:ByteArray} (hc:∃ h:0 < c.size,p c[0].toNat=false):∀ (n k:Nat),a.size - k=n→k≤a.size→runTo p (a++c) k=runTo p a k:=by
 intro n
 induction n with
 | zero=>
   intro k h1 h2
   have:k=a.size:=by omega
   subst this
   obtain ⟨h3,h4⟩:=hc
   obtain ⟨h5,h6⟩:=app_right (a:=a) h3
   rw [runTo_end (Nat.le_refl _)];refine runTo_stop (s:=a++c) (i:=a.size) h5 ?_
   have h7:(a++c)[a.size]'h5=c[0]:=h6
   rw [h7];exact h4
 | succ n ih=>
   intro k h1 h2
   have hk:k < a.size:=by omega
   obtain ⟨h3,h4⟩:=app_left (c:=c) hk
   cases hq:p a[k].toNat with
   | true=>rw [runTo_step hk hq,runTo_step h3 (by rw [h4];exact hq)];exact ih (k+1) (by omega) (by omega)
   | false=>rw [runTo_stop hk hq,runTo_stop h3 (by rw [h4];exact hq)]
theorem K_by {kd:Nat} {tx post:ByteArray} (o:Bool) (hg:Good kd tx) (e1:tokTo (tx++post) 0=tx.size):K (tx++post) o=(kd,tx) :: K post true:=by
 obtain ⟨h0,c1,c2,c7,hk,ht⟩:=hg
 obtain ⟨h3,h4⟩:=app_left (c:=post) h0
 have e2:tokAt (tx++post) 0=⟨kd,tx,0⟩:=by
   unfold tokAt
   rw [e1,clsAt_pre h0,ext_left (Nat.le_refl _),extract_whole,hk]
   unfold clsAt;rw [dif_pos h0]
 unfold K
 rw [rest_tok o h3 (by rw [h4];exact c1) (by rw [h4];exact c2) (by rw [h4];exact c7),e1,e2,List.map_cons,K_suf]
 rfl
theorem good_colon:Good 3 (mk [58]):=good_of (by decide +kernel)
theorem num_cls (n:UInt8):clsAt (mk (numT n)) 0=4:=by
 have:=byte_all (p:=fun n=>clsAt (mk (numT n)) 0 == 4) (by decide +kernel) n
 simpa using this
theorem wt_three (t:UInt8) {n:UInt8} (h:n.toNat < 8):∀ post o,St post→K (mk (numT t++[58]++regT n)++post) o=[(2,mk (numT t)),(3,mk [58]),(1,mk (regT n))]++K post true:=by
 intro post o hs
 rw [mk_append,mk_append,app_assoc,app_assoc]
 obtain ⟨g0,_⟩:=good_num t
 have hcol:∃ hh:0 < (mk [58]++(mk (regT n)++post)).size,(mk [58]++(mk (regT n)++post))[0]=58:=one_at 58 _
 obtain ⟨hc0,hc1⟩:=hcol
 have e1:tokTo (mk (numT t)++(mk [58]++(mk (regT n)++post))) 0=(mk (numT t)).size:=by
   have hg:=(good_num t).2.2.2.2.2
   unfold tokTo numTo at hg ⊢
   rw [clsAt_pre g0,num_cls,if_neg (by decide),if_pos rfl];rw [num_cls,if_neg (by decide),if_pos rfl] at hg
   rw [runTo_by ⟨hc0,by rw [hc1];decide⟩ _ _ rfl (by omega),hg]
 have e2:tokTo (mk [58]++(mk (regT n)++post)) 0=(mk [58]).size:=by
   have hcls:clsAt (mk [58]++(mk (regT n)++post)) 0=6:=by unfold clsAt;rw [dif_pos hc0,hc1];decide
   unfold tokTo signTo
   rw [hcls,if_neg (by decide),if_neg (by decide)]
   have:isEq2 (mk [58]++(mk (regT n)++post)) 0=false:=by
     unfold isEq2
     split
     · have h1:(mk [58]++(mk (regT n)++post))[0].toNat=58:=by rw [hc1];rfl
       rw [h1];rfl
     · rfl
   rw [this]
   rfl
 rw [K_by o (good_num t) e1,K_by true good_colon e2,K_tok true (good_reg h) hs]
 rfl
-- PtQ
def At (c:PX) (i:Nat) (l:List (Nat × List UInt8)):Prop:=∀ a x,l[a]? = some x→c.kind (i+a)=x.1∧(c.text (i+a)).toList=x.2
section
variable {c:PX} {i:Nat}
theorem At.head {x:Nat × List UInt8} {l:List (Nat × List UInt8)} (h:At c i (x :: l)):c.kind i=x.1∧(c.text i).toList=x.2:=h 0 x rfl
theorem At.tail {x:Nat × List UInt8} {l:List (Nat × List UInt8)} (h:At c i (x :: l)):At c (i+1) l:=fun a y hy=>by
 have:=h (a+1) y hy
 rwa [show i+(a+1)=i+1+a by omega] at this
theorem At.fore {l r:List (Nat × List UInt8)} (h:At c i (l++r)):At c i l:=fun a y hy=>h a y (by
 rw [List.getElem?_append_left (List.getElem?_eq_some_iff.1 hy).1];exact hy)
theorem At.back {l r:List (Nat × List UInt8)} (h:At c i (l++r)):At c (i+l.length) r:=fun a y hy=>by
 have:=h (l.length+a) y (by rw [List.getElem?_append_right (by omega),show l.length+a - l.length=a by omega];exact hy)
 rwa [show i+(l.length+a)=i+l.length+a by omega] at this
theorem word_at {t:List UInt8} (h:c.kind i=1∧(c.text i).toList=t):(c.word i).toList=t:=by unfold PX.word;rw [if_pos h.1];exact h.2
theorem word_not {k:Nat} {t:List UInt8} (h:c.kind i=k∧(c.text i).toList=t) (hk:k ≠ 1):c.word i=ByteArray.empty:=by unfold PX.word;rw [if_neg (by rw [h.1];exact hk)]
theorem kw_at {t s:List UInt8} (h:c.kind i=1∧(c.text i).toList=t):c.kw i s=(t == s):=by unfold PX.kw;rw [word_at h]
theorem kw_not {k:Nat} {t:List UInt8} (h:c.kind i=k∧(c.text i).toList=t) (hk:k ≠ 1) (x:UInt8) (r:List UInt8):c.kw i (x :: r)=false:=by unfold PX.kw;rw [word_not h hk];simp
theorem is_at {t s:List UInt8} (h:c.kind i=3∧(c.text i).toList=t):c.is i s=(t == s):=by unfold PX.is;rw [h.1,h.2];rfl
theorem is_not {k:Nat} {t s:List UInt8} (h:c.kind i=k∧(c.text i).toList=t) (hk:k ≠ 3):c.is i s=false:=by unfold PX.is;rw [h.1,beq_eq_false_iff_ne.2 hk];rfl
end
def argK (r:Bool) (n:UInt8):Nat × List UInt8:=if r then (1,regT n) else (2,numT n)
def modeK (m special:UInt8) (word:List UInt8):List (Nat × List UInt8):=if m=special then [(1,word)] else []
def insK (locs:List ByteArray) (x:Ins):List (Nat × List UInt8):=
 if x.op=1 then [(1,regT x.dst),(3,[61]),(1,locT locs x.loc)]++modeK x.mode 1 [97,99,113]
 else if x.op=2 then [(1,locT locs x.loc),(3,[61]),argK x.aR x.aN]++modeK x.mode 2 [114,101,108]
 else if x.op=3 then [(1,regT x.dst),(3,[61]),argK x.aR x.aN,(3,fnT x.fn 1 3),argK x.bR x.bN]
 else if x.op=4 then [(1,regT x.dst),(3,[61]),(1,[115,119,97,112]),(1,locT locs x.loc),argK x.aR x.aN]
 else if x.op=5 then [(1,regT x.dst),(3,[61]),(1,[102,101,116,99,104]),(1,locT locs x.loc),argK x.aR x.aN]
 else if x.op=6 then [(1,regT x.dst),(3,[61]),(1,[99,97,115]),(1,locT locs x.loc),argK x.aR x.aN,argK x.bR x.bN]
 else if x.op=7 then (1,[102,101,110,99,101]) :: (modeK x.mode 4 [108,111,97,100,115]++modeK x.mode 5 [115,116,111,114,101,115])
 else [(1,[115,107,105,112]),(2,numT x.skip),(1,[105,102]),argK x.aR x.aN,(3,fnT x.fn 4 6),argK x.bR x.bN]
def ArgR (r:Bool) (n:UInt8):Prop:=r=true→n.toNat < 8
inductive PrIns (n:Nat):Ins→Prop where
 | load (d l m:UInt8):d.toNat < 8→l.toNat < n→m=0∨m=1→PrIns n ⟨1,d,l,false,0,false,0,0,m,0⟩
 | store (l:UInt8) (r:Bool) (v m:UInt8):l.toNat < n→ArgR r v→m=0∨m=2→PrIns n ⟨2,0,l,r,v,false,0,0,m,0⟩
 | move (d:UInt8) (r:Bool) (v:UInt8) (f:UInt8) (q:Bool) (u:UInt8):d.toNat < 8→ArgR r v→ArgR q u→f=1∨f=2∨f=3→PrIns n ⟨3,d,0,r,v,q,u,f,0,0⟩
 | swap (d l:UInt8) (r:Bool) (v:UInt8):d.toNat < 8→l.toNat < n→ArgR r v→PrIns n ⟨4,d,l,r,v,false,0,0,0,0⟩
 | fetch (d l:UInt8) (r:Bool) (v:UInt8):d.toNat < 8→l.toNat < n→ArgR r v→PrIns n ⟨5,d,l,r,v,false,0,0,0,0⟩
 | cas (d l:UInt8) (r:Bool) (v:UInt8) (q:Bool) (u:UInt8):d.toNat < 8→l.toNat < n→ArgR r v→ArgR q u→PrIns n ⟨6,d,l,r,v,q,u,0,0,0⟩
 | fence (m:UInt8):m=3∨m=4∨m=5→PrIns n ⟨7,0,0,false,0,false,0,0,m,0⟩
 | skip (k:UInt8) (r:Bool) (v:UInt8) (f:UInt8) (q:Bool) (u:UInt8):ArgR r v→ArgR q u→f=4∨f=5∨f=6→PrIns n ⟨8,0,0,r,v,q,u,f,0,k⟩
section
variable {c:PX} {s:PS}
theorem reg_back {n:UInt8} (h:c.kind s.pos=1∧(c.text s.pos).toList=regT n) (hn:n.toNat < 8):regQ c s = .ok n s.next∧regOk (c.word s.pos)=true∧nameOk (c.word s.pos)=false:=by
 obtain ⟨h1,h2,h3⟩:=regT_back hn (word_at h)
 refine ⟨?_,h1,h3⟩
 unfold regQ
 rw [if_pos h1,h2]
 simp
theorem num_back {n:UInt8} (h:c.kind s.pos=2∧(c.text s.pos).toList=numT n):numQ c s = .ok n s.next:=by
 obtain ⟨h1,h2⟩:=numT_back h.2
 unfold numQ
 rw [if_pos ⟨h.1,h1⟩,h2]
 simp
theorem arg_back {r:Bool} {n:UInt8} (h:c.kind s.pos=(argK r n).1∧(c.text s.pos).toList=(argK r n).2) (hr:ArgR r n):argP' c s = .ok (r,n) s.next:=by
 unfold argP'
 cases r with
 | true=>
   have h:c.kind s.pos=1∧(c.text s.pos).toList=regT n:=h
   rw [if_neg (by rw [h.1];decide),(reg_back h (hr rfl)).1]
   rfl
 | false=>
   have h:c.kind s.pos=2∧(c.text s.pos).toList=numT n:=h
   rw [if_pos h.1,num_back h]
   rfl
theorem sign_back {t:List UInt8} (h:c.kind s.pos=3∧(c.text s.pos).toList=t):signP c t s = .ok () s.next:=by
 unfold signP
 rw [is_at h,beq_self_eq_true,if_pos rfl]
theorem loc_text {locs:List ByteArray} {l:UInt8} (hl:l.toNat < locs.length):∃ w ∈ locs,locT locs l=w.toList∧locs[l.toNat]? = some w:=by
 refine ⟨locs[l.toNat],List.getElem_mem _,?_,List.getElem?_eq_getElem hl⟩
 unfold locT
 rw [List.getElem?_eq_getElem hl]
theorem idx_back {w u:ByteArray} (hw:w.toList=u.toList):∀ {l:List ByteArray} {k j:Nat},l.Pairwise (fun a b=>a.toList ≠ b.toList)→l[j]? = some u→idxOf w l k=some (k+j)
 | [],_,_,_,h=>by cases h
 | x :: r,k,0,hp,h=>by
   cases h
   unfold idxOf
   rw [hw,beq_self_eq_true,if_pos rfl]
   rfl
 | x :: r,k,j+1,hp,h=>by
   have hp:=List.pairwise_cons.1 hp
   have hne:x.toList ≠ u.toList:=hp.1 u (List.mem_of_getElem? (show r[j]? = some u from h))
   unfold idxOf
   rw [if_neg (by rw [hw];intro e;exact hne (eq_of_beq e).symm),idx_back hw hp.2 (show r[j]? = some u from h)]
   congr 1;omega
theorem loc_back {locs:List ByteArray} {l:UInt8} (hn:NmOk locs) (hs:s.names=locs) (hl:l.toNat < locs.length) (h:c.kind s.pos=1∧(c.text s.pos).toList=locT locs l):locP c s = .ok l s.next∧nameOk (c.word s.pos)=true:=by
 obtain ⟨w,hw,e1,e2⟩:=loc_text hl
 have e3:c.word s.pos=w:=eq_of_toList ((word_at h).trans e1)
 have hok:nameOk (c.word s.pos)=true:=by rw [e3];exact hn.ok w hw
 refine ⟨?_,hok⟩
 unfold locP
 rw [if_pos hok,hs,idx_back (by rw [e3]) hn.apart e2]
 show Rs.ok (UInt8.ofNat (0+l.toNat)) s.next=_
 rw [Nat.zero_add]
 simp
theorem name_at {locs:List ByteArray} {l:UInt8} {i:Nat} (hn:NmOk locs) (hl:l.toNat < locs.length) (h:c.kind i=1∧(c.text i).toList=locT locs l):nameOk (c.word i)=true∧regOk (c.word i)=false∧∀ k ∈ keptL,c.kw i k=false:=by
 obtain ⟨w,hw,e1,e2⟩:=loc_text hl
 have e3:c.word i=w:=eq_of_toList ((word_at h).trans e1)
 have hok:nameOk (c.word i)=true:=by rw [e3];exact hn.ok w hw
 refine ⟨hok,name_noreg hok,fun k hk=>?_⟩
 unfold PX.kw
 exact beq_eq_false_iff_ne.2 fun e=>name_nokey hok (e ▸ hk)
theorem reg_kw {n:UInt8} {i:Nat} (h:c.kind i=1∧(c.text i).toList=regT n) {x:UInt8} {r:List UInt8} (hx:x ≠ 114):c.kw i (x :: r)=false:=by
 rw [kw_at h]
 refine beq_eq_false_iff_ne.2 fun e=>?_
 have:114=x:=(List.cons.inj e).1
 exact hx this.symm
theorem arg_kw {r:Bool} {n:UInt8} {i:Nat} (h:c.kind i=(argK r n).1∧(c.text i).toList=(argK r n).2) (hr:ArgR r n) {x:UInt8} {t:List UInt8} (hx:x ≠ 114):c.kw i (x :: t)=false∧nameOk (c.word i)=false:=by
 cases r with
 | true=>
   have h:c.kind i=1∧(c.text i).toList=regT n:=h
   exact ⟨reg_kw h hx,(reg_back (s:=⟨i,[]⟩) h (hr rfl)).2.2⟩
 | false=>
   have h:c.kind i=2∧(c.text i).toList=numT n:=h
   exact ⟨kw_not h (by decide) _ _,by rw [word_not h (by decide)];exact nameOk_nil⟩
end
end Go.Proofs.YtkchaoajegkadaaGreatDoor
