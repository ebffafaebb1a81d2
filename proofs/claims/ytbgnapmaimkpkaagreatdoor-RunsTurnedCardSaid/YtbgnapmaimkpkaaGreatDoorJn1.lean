/-
  Plain Lean: machines with store buffers (a store of thread t: its location at 42 + 24 t + 2 i, its value behind; the buffer's length at 138 + t). Conditions: none.
-/
import Derived.Test.YtbgnapmaimkpkaaGreatDoorAtK
import Derived.Test.YtbgnapmaimkpkaaGreatDoorVcL
import Derived.Laws.IdiomCopy
set_option linter.unusedSimpArgs false
set_option linter.unusedVariables false
namespace Go.Proofs.YtbgnapmaimkpkaaGreatDoor
-- BfP
structure Pss where
 t:UInt8
 d:Bool
 l:UInt8
deriving DecidableEq
def Pss.cells (x:Pss):List Value:=[b8 x.t,.bool x.d,b8 x.l]
def manyB (s:By) (t:Nat):Nat:=(s (138+t)).toNat
def bLoc (s:By) (t i:Nat):UInt8:=s (42+t * 24+i * 2)
def bVal (s:By) (t i:Nat):UInt8:=s (42+t * 24+i * 2+1)
def knownM (m:UInt8):Bool:=decide (1≤m) && decide (m≤3)
def bareP (s:By):By:=fun i=>if i < 42 then s i else 0
def mostB (p:Prg) (m:UInt8) (s:By) (t:Nat):Nat:=if m ≠ 1∧t < p.threads.length then (s (t * 9)).toNat else 0
def slotOk (p:Prg) (m:UInt8) (s:By) (t i:Nat):Bool:=
 if manyB s t≤i then bLoc s t i == 0 && bVal s t i == 0
 else decide ((bLoc s t i).toNat < p.locs.length) && !(m == 3 && decide (0 < i) && decide (bLoc s t i < bLoc s t (i - 1)))
def fitsP (p:Prg) (m:UInt8) (s:By) (t:Nat):Bool:=decide (manyB s t≤mostB p m s t) && allB 12 (slotOk p m s t)
def rightM (p:Prg) (m:UInt8) (s:By):Bool:=knownM m && rightS p (bareP s) && allB 4 (fitsP p m s)
def readyI (x:Ins) (m:UInt8) (s:By) (t:Nat):Bool:=
 if x.op=4∨x.op=5∨x.op=6 then s (138+t) == 0
 else if x.op=7 then !(x.mode == 3 || (m == 3 && x.mode == 5)) || s (138+t) == 0
 else true
def enabledM (p:Prg) (m:UInt8) (s:By) (t:Nat):Bool:=match nextI p s t with
 | some x=>readyI x m s t
 | none=>false
def drainAt (m:UInt8) (s:By) (t i:Nat):Pss:=⟨UInt8.ofNat t,true,if m=3 then bLoc s t i else 0⟩
def drains (m:UInt8) (s:By) (t:Nat):Nat→List Pss
 | 0=>[]
 | n+1=>if n=0∨(m=3∧bLoc s t n ≠ bLoc s t (n - 1)) then drains m s t n++[drainAt m s t n] else drains m s t n
def movesT (p:Prg) (m:UInt8) (s:By) (t:Nat):List Pss:=(if enabledM p m s t=true then [⟨UInt8.ofNat t,false,0⟩] else [])++drains m s t (manyB s t)
def movesN (p:Prg) (m:UInt8) (s:By):Nat→List Pss
 | 0=>[]
 | n+1=>movesN p m s n++movesT p m s n
def movesM (p:Prg) (m:UInt8) (s:By):List Pss:=movesN p m s p.threads.length
def movesR (p:Prg) (m:UInt8) (s:By):List Pss:=if rightM p m s then movesM p m s else []
def addAt (m:UInt8) (s:By) (t:Nat) (loc:UInt8):Nat→Nat
 | 0=>0
 | n+1=>if m=3∧loc < bLoc s t n then addAt m s t loc n else n+1
def stP (loc val:UInt8):By:=fun i=>if i=0 then loc else if i=1 then val else 0
def addR (s:By) (t a:Nat) (st:By):By:=put (lay (lay s (42+t * 24+(a+1) * 2) ((manyB s t - a) * 2) (cut s (42+t * 24+a * 2))) (42+t * 24+a * 2) 2 st) (138+t) (s (138+t)+1)
def addP (m:UInt8) (s:By) (t:Nat) (st:By):By:=addR s t (addAt m s t (st 0) (manyB s t)) st
def drainN (m:UInt8) (s:By) (t:Nat) (loc:UInt8):Nat→Nat→Nat
 | 0,i=>i
 | f+1,i=>if m=3∧bLoc s t i ≠ loc then drainN m s t loc f (i+1) else i
def drainI (m:UInt8) (s:By) (t:Nat) (loc:UInt8):Nat:=drainN m s t loc (manyB s t) 0
def drainR (s:By) (t a:Nat):By:=
 put (put (lay (lay s (42+t * 24+a * 2) ((manyB s t - 1 - a) * 2) (cut s (42+t * 24+(a+1) * 2))) (42+t * 24+(manyB s t - 1) * 2) 2 zb) (138+t) (s (138+t) - 1)) (36+(bLoc s t a).toNat) (bVal s t a)
def drainP (m:UInt8) (s:By) (t:Nat) (loc:UInt8):By:=drainR s t (drainI m s t loc)
def seenN (s:By) (t:Nat) (loc:UInt8):Nat→UInt8
 | 0=>s (36+loc.toNat)
 | n+1=>if bLoc s t n=loc then bVal s t n else seenN s t loc n
def seenP (s:By) (t:Nat) (loc:UInt8):UInt8:=seenN s t loc (min (manyB s t) 12)
def execP (m:UInt8) (x:Ins) (s:By) (t:Nat):By:=
 if x.op=1 then lay s (t * 9) 9 (farP x (cut s (t * 9)) (seenP s t x.loc))
 else if x.op=2 then lay (if m=1 then put s (36+x.loc.toNat) (valA x (cut s (t * 9))) else addP m s t (stP x.loc (valA x (cut s (t * 9))))) (t * 9) 9 (put (cut s (t * 9)) 0 (s (t * 9)+1))
 else if x.op=4∨x.op=5∨x.op=6 then moveP x s t
 else lay s (t * 9) 9 (localP x (cut s (t * 9)))
def stepM (p:Prg) (m:UInt8) (s:By) (x:Pss):By:=
 if x.d=true then drainP m s x.t.toNat x.l
 else match nextI p s x.t.toNat with
   | some i=>execP m i s x.t.toNat
   | none=>s
def pickM (picks:List UInt8) (n:Nat) (l:List Pss):Pss:=l.getD (match picks[n]? with | some x=>x.toNat % l.length | none=>0) ⟨0,false,0⟩
def playM (p:Prg) (m:UInt8) (picks:List UInt8):Nat→By→List Pss→By × List Pss
 | 0,s,run=>(s,run)
 | n+1,s,run=>let l:=movesM p m s
   if l=[] then (s,run) else playM p m picks n (stepM p m s (pickM picks run.length l)) (run++[pickM picks run.length l])
-- VcX
open Go.RowKit
section
variable {P:Program} {l:List Oper} {Q:Exit→Act→World→Prop} {N:Nat} {a:Act} {env:List (Nat × Value)} {rest:List Oper} {d:Tmp} {ty:TypeId} {pos:String} {af:Array Edge} {g:Option (Nat × Bool)} {w:World}
theorem rBa {t e:TypeId} {n size:Nat} {parts:List (Nat × Operand)} {ps:List (Nat × Value)} {zs:Array Value} {cs:List Value} (hz:∀ w,(zeroValue t).run P w = .ok (.agg zs) w) (hu:P.underlying t=some (.array n e)) (hs:∀ w,(sizeOf e).run P w = .ok size w)
   (F:Has N a env) (he:evP env parts=some ps) (hf:fillL (fun i=>some (i * size,size)) zs.toList ps=some cs) :
   (execOp a.eval ⟨some d,.build t parts.toArray,ty,pos,af,g⟩).run P w = .ok (.value (.agg cs.toArray)) w:=by
 have h1:=fill_of_fillL _ _ _ _ hf
 have h2:(Instr.build t (parts.toArray.map fun (i,x)=>(i,a.eval x))).run P w = .ok (.agg cs.toArray) w:=by
   rw [List.map_toArray,F.parts he]
   have h1':Instr.fill (fun i=>some (i * size,size)) zs ps=some cs.toArray:=by simpa using h1
   simp [Instr.build,run_underlying hu,hz,hs,h1',Value.cells,go_sem]
 simp only [execOp,Sem.run_bind,h2]
 rfl
theorem rBaB {t e:TypeId} {n m size:Nat} {parts:List (Nat × Operand)} {ps:List (Nat × Value)} {s:By} (hz:∀ w,(zeroValue t).run P w = .ok (.agg (bs n zb).toArray) w) (hu:P.underlying t=some (.array m e)) (hs:∀ w,(sizeOf e).run P w = .ok size w)
   (F:Has N a env) (he:evP env parts=some ps) (hf:FillB (fun i=>some (i * size,size)) n zb ps s) :
   (execOp a.eval ⟨some d,.build t parts.toArray,ty,pos,af,g⟩).run P w = .ok (.value (.agg (bs n s).toArray)) w:=
 rBa hz hu hs F he hf.to
theorem sBaB {t e:TypeId} {n m size:Nat} {parts:List (Nat × Operand)} {ps:List (Nat × Value)} {s:By} (hz:∀ w,(zeroValue t).run P w = .ok (.agg (bs n zb).toArray) w) (hu:P.underlying t=some (.array m e)) (hs:∀ w,(sizeOf e).run P w = .ok size w)
   (F:Has N a env) (hg:wants l env g=true) (hN:Nat.blt d N=true) (he:evP env parts=some ps) (hf:FillB (fun i=>some (i * size,size)) n zb ps s)
   (K:∀ a,Has N a ((d,.agg (bs n s).toArray) :: env)→wpList P l.toArray Q rest a w):wpList P l.toArray Q (⟨some d,.build t parts.toArray,ty,pos,af,g⟩ :: rest) a w:=
 stepV F hg rfl hN (rBaB hz hu hs F he hf) K
theorem qBaB {t e:TypeId} {n m size:Nat} {parts:List (Nat × Operand)} {ps:List (Nat × Value)} {s:By} (hz:∀ w,(zeroValue t).run P w = .ok (.agg (bs n zb).toArray) w) (hu:P.underlying t=some (.array m e)) (hs:∀ w,(sizeOf e).run P w = .ok size w) (hg:wants l env g=true) (hN:Nat.blt d N=true) (he:evP env parts=some ps) (hf:FillB (fun i=>some (i * size,size)) n zb ps s) (K:∀ a,Has N a ((d,.agg (bs n s).toArray) :: env)→wpList P l.toArray Q rest a w):∀ a,Has N a env→wpList P l.toArray Q (⟨some d,.build t parts.toArray,ty,pos,af,g⟩ :: rest) a w:=fun a F=>sBaB hz hu hs F hg hN he hf K
end
section
variable {P:Program} {l:List Oper} {Q:Exit→Act→World→Prop} {N:Nat} {a:Act} {env:List (Nat × Value)} {rest:List Oper} {d:Tmp} {ty:TypeId} {pos:String} {af:Array Edge} {g:Option (Nat × Bool)} {w0 w:World} {row:Option Nat} {rs:List Res}
end
-- VcM
open Go.RowKit
section
variable {P:Program} {l:List Oper} {Q:Exit→Act→World→Prop} {N:Nat} {a:Act} {env:List (Nat × Value)} {rest:List Oper} {d:Tmp} {ty:TypeId} {pos:String} {af:Array Edge} {g:Option (Nat × Bool)}
 {w0 w:World} {row:Option Nat} {rs:List Res} {Kt:Act→World→Prop}
def offA (i n sz:Nat):Nat:=if n=i then 0 else i * sz
theorem rSlALH {t e:TypeId} {x lo hi:Operand} {b o n i j sz:Nat} {k k':IntKind} (ht:P.underlying t=some (.array n e)) (hz:∀ w,(sizeOf e).run P w = .ok sz w) (F:Has N a env) (hx:ev env x=some (.pointer (some ⟨b,o,none⟩))) (hl:ev env lo=some (.int k' (i:Int))) (hh:ev env hi=some (.int k (j:Int))) (hij:i≤j) (hj:j≤n) :
   (execOp a.eval ⟨some d,.slice t x (some lo) (some hi) none,ty,pos,af,g⟩).run P w = .ok (.value (.slice (some ⟨b,o+offA i n sz,none⟩) (j - i) (n - i))) w:=by
 have he:P.elem t=e:=by simp [Program.elem,ht]
 have hn:P.arrayLen t=n:=by simp [Program.arrayLen,ht]
 have h1:=run_sliceAt_array_lh (P:=P) w t ⟨b,o,none⟩ (by rw [he,hn];exact ht) k' k (i:Int) (j:Int) (by omega) (by omega) (by rw [hn];omega)
 rw [he,hz,hn] at h1
 simp only [execOp,Option.map_none,Option.map_some,F.eval hx,F.eval hl,F.eval hh,Sem.run_bind,h1,Result.andThen_ok,slicedAt,Int.toNat_natCast,Sem.run_pure,offA]
 split <;> simp [Addr.add]
theorem copy_run {dT ty elem:TypeId} {b o dLen dCap sLen sCap sz:Nat} {A:Addr} {cs:List Value} (hu:P.underlying dT=some (.slice elem)) (hs:(P.info? elem).map (·.size)=some sz) (hn:cs.length=Nat.min sLen dLen * sz)
   (hsrc:∀ j v,cs[j]? = some v→w.cell? (A.add j)=some v) (hc:∀ j,j < cs.length→(w.cell? ⟨b,o+j,none⟩).isSome=true) (hf:∀ j,j < cs.length→w.frozen? ⟨b,o+j,none⟩=false) (h1:∀ v ∈ cs,v.oneCell'=true) :
   (Builtin.copy_ #[dT,dT] ty #[.slice (some ⟨b,o,none⟩) dLen dCap,.slice (some A) sLen sCap]).run P w = .ok (goInt (Nat.min sLen dLen:Nat)) (w.setCells b o cs):=by
 have hl:=run_loadCells_list (P:=P) w A cs hsrc
 have hst:=run_storeCells_cells (P:=P) b o cs 0 w (by simpa using hc) (by simpa using hf) h1
 cases hq:P.info? elem with
 | none=>simp [hq] at hs
 | some i=>
   have hi:i.size=sz:=by simpa [hq] using hs
   rw [hn] at hl
   simp [Builtin.copy_,run_underlying hu,Builtin.lenOf,Builtin.firstCells,sizeOf,typeInfo,hq,hi,hl,hst]
theorem cpBB_run {t e:TypeId} {b od os n m dCap sCap i sz:Nat} {s:By} {bt:TypeId} (H:Own w0 row w rs) (ht:P.underlying t=some (.slice e)) (hz:∀ w,(sizeOf e).run P w = .ok sz w)
   (hr:rs[i]? = some (.blk b (bs n s) bt)) (hd:m=0∨od+m * sz≤n) (hs:m=0∨os+m * sz≤n) (ty:TypeId) :
   ∃ w',(Builtin.copy_ #[t,t] ty #[.slice (some ⟨b,od,none⟩) m dCap,.slice (some ⟨b,os,none⟩) m sCap]).run P w = .ok (goInt ((m:Nat):Int)) w'∧Own w0 row w' (rs.set i (.blk b (bs n (lay s od (m * sz) (cut s os))) bt)):=by
 have hq:=info_size (P:=P) hz
 have hd':od+m * sz≤n∨m=0:=hd.symm
 have key:∀ j v,(bs (m * sz) (cut s os))[j]? = some v→j < m * sz∧v=b8 (s (os+j)):=fun j v hv=>by
   rcases Nat.lt_or_ge j (m * sz) with hj | hj
   · rw [bs_get hj] at hv
     exact ⟨hj,(Option.some.inj hv).symm⟩
   · rw [bs_none hj] at hv;cases hv
 have hpos:∀ j,j < m * sz→m ≠ 0:=fun j hj h0=>by rw [h0,Nat.zero_mul] at hj;omega
 have hrun:=copy_run (P:=P) (w:=w) (ty:=ty) (dCap:=dCap) (sCap:=sCap) (b:=b) (o:=od) (dLen:=m) (sLen:=m) (A:=⟨b,os,none⟩) (cs:=bs (m * sz) (cut s os)) ht hq (by rw [bs_length];simp [Nat.min_def])
   (fun j v hv=>by
     obtain ⟨hj,rfl⟩:=key j v hv
     have:=hpos j hj
     rw [Addr.add_mid]
     exact H.cell i hr (bs_get (by rcases hs with h | h <;> omega)))
   (fun j hj=>by
     rw [bs_length] at hj
     have:=hpos j hj
     rw [H.cell i hr (bs_get (by rcases hd with h | h <;> omega))]
     exact Option.isSome_some)
   (fun j hj=>(H.blk i hr).frozen _)
   (fun v hv=>by
     obtain ⟨j,hj⟩:=List.mem_iff_getElem?.1 hv
     obtain ⟨_,rfl⟩:=key j v hj
     rfl)
 have hmin:Nat.min m m=m:=by simp [Nat.min_def]
 rw [hmin] at hrun
 refine ⟨_,hrun,?_⟩
 have h3:=H.setCells i (bs (m * sz) (cut s os)) od w rs _ hr
 rcases hd with h | h
 · subst h
   have e:lay s od (0 * sz) (cut s os)=s:=funext fun k=>by unfold lay;rw [if_neg (by omega)]
   rw [e]
   have e2:splice (bs n s) od (bs (0 * sz) (cut s os))=bs n s:=by rw [Nat.zero_mul];rfl
   rw [e2] at h3
   exact h3
 · rw [bs_splice h] at h3
   exact h3
theorem cp_exec' {t ty':TypeId} {s x:Operand} {v u v':Value} {w':World} (F:Has N a env) (hs:ev env s=some v) (hx:ev env x=some u) (hr:(Builtin.copy_ #[t,t] ty #[v,u]).run P w = .ok v' w') :
   (execOp a.eval ⟨some d,.call ⟨.builtin .copy,#[s,x],#[t,t]⟩,ty,pos,af,g⟩).run P w = .ok (.value v') w':=by
 simp only [execOp,resolve,invoke,builtin,Sem.run_bind,Sem.run_pure,Result.andThen_ok,List.map_toArray,List.map_cons,List.map_nil,F.eval hs,F.eval hx,hr]
theorem oCpBB {t e:TypeId} {x y:Operand} {b od os n m m' dCap sCap sz:Nat} {s:By} {bt:TypeId} (H:Own w0 row w rs) (i:Nat) (ht:P.underlying t=some (.slice e)) (hz:∀ w,(sizeOf e).run P w = .ok sz w)
   (F:Has N a env) (hN:Nat.blt d N=true) (hx:ev env x=some (.slice (some ⟨b,od,none⟩) m dCap)) (hy:ev env y=some (.slice (some ⟨b,os,none⟩) m' sCap))
   (hr:rs[i]? = some (.blk b (bs n s) bt)) (hm:m'=m) (hd:m=0∨od+m * sz≤n) (hs:m=0∨os+m * sz≤n)
   (K:∀ a w,Has N a ((d,goInt ((m:Nat):Int)) :: env)→Own w0 row w (rs.set i (.blk b (bs n (lay s od (m * sz) (cut s os))) bt))→Kt a w) :
   (Oper.mk (some d) (.call ⟨.builtin .copy,#[x,y],#[t,t]⟩) ty pos af g).wp P a w Kt Q:=by
 subst hm
 obtain ⟨w',h2,h3⟩:=cpBB_run (P:=P) (dCap:=dCap) (sCap:=sCap) H ht hz hr hd hs ty
 exact oV F rfl hN (cp_exec' (ty':=ty) F hx hy h2) (fun a F'=>K a w' F' h3)
end
-- BfA
open Go.Proofs.Tryz
open Go.RowKit
set_option maxRecDepth 100000
theorem known_any (m:UInt8) (w0:World):Calls Tryz.prog 57 #[Go.Proofs.YtbgnapmaimkpkaaGreatDoor.b8 m] w0 fun e w'=>e = .returned (.bool (knownM m))∧Below w0.heap.size w0 w':=by
 have H:=Own.start w0 none
 refine enterF func57 rfl ntmps57 rfl (fun a F=>?_);refine cSR fun K1 hK1=>sAs F rfl rfl rfl (qNK hK1 (qSR fun K2 hK2=>qMv rfl rfl rfl (qBin rfl rfl rfl rfl (bGeqB (y:=1)) (qMv rfl rfl rfl ?_))));clear hK1;clear F a;intro a F
 refine F.split 5 rfl ?_ ?_ <;> (clear F;intro h5 F)
 ·
  replace h5:=of_decide_eq_true h5;refine sMv F rfl rfl rfl (qBin rfl rfl rfl rfl (bLeqB (y:=3)) (qPk rfl rfl rfl rfl (qAs rfl rfl rfl (qNK hK2 ?_))));clear hK2;clear F a;intro a F;refine wp_ret ?_;refine bRet results57 F rfl ?_
  exact ⟨by rw [knownM];simp_all,H.below⟩
 replace h5:=of_decide_eq_false h5;refine sSk F rfl rfl (qSk rfl rfl (qPk rfl rfl rfl rfl (qAs rfl rfl rfl (qNK hK2 ?_))));clear hK2;clear F a;intro a F;refine wp_ret ?_;refine bRet results57 F rfl ?_
 exact ⟨by rw [knownM];simp_all,H.below⟩
theorem bare_any (s:By) (w0:World):Calls Tryz.prog 104 #[.agg (bs 142 s).toArray] w0 fun e w'=>e = .returned (.agg (bs 142 (bareP s)).toArray)∧Below w0.heap.size w0 w':=by
 have H:=Own.start w0 none
 refine enterF func104 rfl ntmps104 rfl (fun a F=>?_);refine cSR fun K1 hK1=>?_;refine sBxB H F rfl rfl rfl ?_;clear F a H;intro b1 a w F H;refine sAlB H zB70 F rfl rfl ?_;clear F a H;intro b2 a w F H;refine nK hK1 (cSR fun K2 hK2=>sFa (f:=0) (k:=0) underlying70 rfl sizeOf63 rfl rfl F rfl rfl rfl (qLrB underlying63 rfl sizeOf63 rfl rfl rfl (H.rangeB0 1 36 rfl (by omega)) (qFa (f:=1) (k:=36) underlying70 rfl sizeOf45 rfl rfl rfl rfl rfl (qLrB underlying45 rfl sizeOf45 rfl rfl rfl (H.rangeB 1 _ 6 rfl (by omega)) (qBdB (places:=[(0,36),(36,6),(42,96),(138,4)]) zB70 underlying70 (by kernel_rfl) rfl rfl rfl (FillB.row rfl rfl (FillB.row rfl rfl FillB.nil)) ?_)))));clear hK1;clear F a;intro a F;refine sSrB H 0 sizeOf70 F rfl rfl rfl rfl (by omega) ?_;clear H;intro w H;rw [lay_all] at H;refine nK hK2 ?_;clear hK2;refine wp_ret ?_;refine bRetB results104 F rfl underlying70 rfl sizeOf70 H 0 rfl ?_
 refine ⟨retB1 fun i _=>?_,H.below⟩
 simp only [lay,cut,bareP,zb]
 split <;> split <;> (try split) <;> first | rfl | (congr 1;omega) | omega
theorem seen_any (s:By) (t:Nat) (loc:UInt8) (w0:World) (ht:t < 4) (hl:loc.toNat < 6):Calls Tryz.prog 109 #[.agg (bs 142 s).toArray,.int .i64 (t:Int),Go.Proofs.YtbgnapmaimkpkaaGreatDoor.b8 loc] w0 fun e w'=>e = .returned (Go.Proofs.YtbgnapmaimkpkaaGreatDoor.b8 (seenP s t loc))∧Below w0.heap.size w0 w':=by
 have hmy:=(s (138+t)).toNat_lt
 have H:=Own.start w0 none
 refine enterF func109 rfl ntmps109 rfl (fun a F=>?_);refine cSR fun K1 hK1=>?_;refine sBxB H F rfl rfl rfl ?_;clear F a H;intro b3 a w F H;refine sAs F rfl rfl rfl (qNK hK1 ?_);clear hK1;clear F a;intro a F;refine cSeq (fun K2 hK2=>?_);refine cSR fun K3 hK3=>sMv F rfl rfl rfl (qBin rfl rfl rfl rfl bLss (qMv rfl rfl rfl ?_));clear F a;intro a F
 refine F.split 10 rfl ?_ ?_ <;> (clear F;intro h10 F)
 ·
  replace h10:=of_decide_eq_true h10
  exact absurd h10 (by omega)
 replace h10:=of_decide_eq_false h10;refine sMv F rfl rfl rfl (qBin rfl rfl rfl rfl bGeq (qPk rfl rfl rfl rfl (qMv rfl rfl rfl ?_)));clear F a;intro a F
 refine F.split 14 rfl ?_ ?_ <;> (clear F;intro h14 F)
 ·
  replace h14:=of_decide_eq_true h14
  exact absurd h14 (by omega)
 replace h14:=of_decide_eq_false h14;refine sMv F rfl rfl rfl (qCv underlying5 underlying3 rfl rfl rfl (wrapB _) (qBin rfl rfl rfl rfl bGeq (qPk rfl rfl rfl rfl (qNK hK3 ?_))));clear hK3;clear F a;intro a F
 refine cIf F rfl (fun h18=>?_) (fun h18=>?_)
 ·
  replace h18:=of_decide_eq_true h18
  exact absurd h18 (by omega)
 replace h18:=of_decide_eq_false h18;refine wp_skip (hK2 _ _ ?_);clear hK2;refine cSeq (fun K4 hK4=>?_);refine cSR fun K5 hK5=>sMv F rfl rfl rfl (qFa (f:=3) (k:=138) underlying70 rfl sizeOf68 rfl rfl rfl rfl rfl ?_);clear F a;intro a F
 refine sIa1 underlying68 sizeOf5 F rfl rfl rfl rfl ?_ ?_
 focus (first | omega | decide | (simp;omega))
 clear F a;intro a F;refine sLd isAgg5 F rfl rfl rfl (H.cellB 0 rfl (by omega)) (qCv underlying5 underlying3 rfl rfl rfl (wrapB _) (qMinN (j:=12) rfl rfl rfl rfl ?_));clear F a;intro a F
 refine sBin F rfl rfl rfl rfl (bSubI ?_) ?_
 focus omega
 clear F a;intro a F;refine sAs F rfl rfl rfl (qNK hK5 ?_);clear hK5;clear F a;intro a F;refine wp_block ?_
 refine cLoopR [1,2,3] (fun m ups w=>∃ k:Nat,m=k∧ups=[(7,.int .i64 (((k:Nat):Int) - 1))]∧k≤12∧seenP s t loc=seenN s t loc k∧Own w0 none w [.blk b3 (bs 142 s) 70]) F (min (manyB s t) 12) [(7,.int .i64 (((min (manyB s t) 12:Nat):Int) - 1))] (by repeat (first | exact SubR.nil | (apply SubR.cons;· rfl))) ?_ ?_ ?_
 · exact ⟨min (manyB s t) 12,rfl,rfl,by omega,rfl,H.sel [0] rfl rfl⟩
 · repeat (first | exact trivial | refine Le.cons rfl ?_)
 clear F
 clear H
 intro m ups a w hI F
 obtain ⟨k,rfl,rfl,hk,hs,H⟩:=hI
 refine cSeq (fun K6 hK6=>?_);refine cSR fun K7 hK7=>sMv F rfl rfl rfl (qBin rfl rfl rfl rfl bGeq (qNK hK7 ?_));clear hK7;clear F a;intro a F
 refine cIf F rfl (fun h27=>?_) (fun h27=>?_)
 ·
  replace h27:=of_decide_eq_true h27
  obtain ⟨k',rfl⟩:∃ q,m=q+1:=⟨m - 1,by omega⟩
  rw [show ((k'+1:Nat):Int) - 1=((k':Nat):Int) by omega] at F;rw [seenN] at hs;refine wp_skip (hK6 _ _ ?_);clear hK6;refine cSeq (fun K8 hK8=>?_);refine wp_block ?_;refine cSR fun K9 hK9=>sMv F rfl rfl rfl (qMv rfl rfl rfl (qFa (f:=2) (k:=42) underlying70 rfl sizeOf67 rfl rfl rfl rfl rfl ?_));clear F a;intro a F
  refine sIa underlying67 sizeOf66 F rfl rfl rfl rfl ?_ ?_
  focus (first | omega | decide | (simp;omega))
  clear F a;intro a F
  refine sIa underlying66 sizeOf65 F rfl rfl rfl rfl ?_ ?_
  focus (first | omega | decide | (simp;omega))
  clear F a;intro a F;refine sFaZ (f:=0) underlying65 rfl sizeOf5 rfl rfl F rfl rfl rfl (qLd isAgg5 rfl rfl rfl (H.cellB 0 rfl (by omega)) (qMv rfl rfl rfl (qBin rfl rfl rfl rfl bEqlB (qNK hK9 ?_))));clear hK9;clear F a;intro a F
  refine cIf F rfl (fun h38=>?_) (fun h38=>?_)
  ·
   replace h38:=beqT h38;refine cSR fun K10 hK10=>sMv F rfl rfl rfl (qMv rfl rfl rfl (qFa (f:=2) (k:=42) underlying70 rfl sizeOf67 rfl rfl rfl rfl rfl ?_));clear F a;intro a F
   refine sIa underlying67 sizeOf66 F rfl rfl rfl rfl ?_ ?_
   focus (first | omega | decide | (simp;omega))
   clear F a;intro a F
   refine sIa underlying66 sizeOf65 F rfl rfl rfl rfl ?_ ?_
   focus (first | omega | decide | (simp;omega))
   clear F a;intro a F;refine sFa (f:=1) (k:=_+1) underlying65 rfl sizeOf5 rfl rfl F rfl rfl rfl (qLd isAgg5 rfl rfl rfl (H.cellB 0 rfl (by omega)) (qAs rfl rfl rfl (qNK hK10 ?_)));clear hK10;clear F a;intro a F;refine wp_ret ?_;simp only [Exit.inBlock,Exit.then];refine bRet results109 F rfl ?_
   first
     | exact ⟨by rw [hs,if_pos (show bLoc s t k'=loc from h38)];rfl,H.below⟩
     | exact ⟨by rw [hs];rfl,H.below⟩
  replace h38:=beqF h38;refine wp_skip (hK8 _ _ (cReg (sMv F rfl rfl rfl ?_)));clear hK8;clear F a;intro a F
  refine sBin F rfl rfl rfl rfl (bSubI ?_) ?_
  focus omega
  clear F a;intro a F;refine sAs F rfl rfl rfl ?_;clear F a;intro a F;refine sNil ?_
  exact ⟨k',by omega,_,⟨k',rfl,rfl,by omega,by rw [hs,if_neg (show ¬ bLoc s t k'=loc from h38)],H.sel [0] rfl rfl⟩,F.to (by repeat (first | exact trivial | refine Le.cons rfl ?_))⟩
 replace h27:=of_decide_eq_false h27
 obtain rfl:m=0:=by omega
 refine wp_exit ?_;refine hK4 _ _ (cSR fun K11 hK11=>sMv F rfl rfl rfl (qFa (f:=1) (k:=36) underlying70 rfl sizeOf45 rfl rfl rfl rfl rfl ?_));clear hK4;clear F a;intro a F
 refine sIa1 underlying45 sizeOf5 F rfl rfl rfl rfl ?_ ?_
 focus (first | omega | decide | (simp;omega))
 clear F a;intro a F;refine sLd isAgg5 F rfl rfl rfl (H.cellB 0 rfl (by omega)) (qAs rfl rfl rfl (qNK hK11 ?_));clear hK11;clear F a;intro a F;refine wp_ret ?_;refine bRet results109 F rfl ?_
 first
   | exact ⟨by rw [hs,if_pos (show bLoc s t k'=loc from h38)];rfl,H.below⟩
   | exact ⟨by rw [hs];rfl,H.below⟩
-- BfB
open Go.Proofs.Tryz
open Go.RowKit
set_option maxRecDepth 100000
theorem addAt_pos {m:UInt8} {s:By} {t:Nat} {loc:UInt8} {n:Nat} (h:0 < n):addAt m s t loc n=if m=3∧loc < bLoc s t (n - 1) then addAt m s t loc (n - 1) else n:=by
 obtain ⟨k,rfl⟩:∃ k,n=k+1:=⟨n - 1,by omega⟩
 rw [addAt]
 rfl
theorem addAt_le {m:UInt8} {s:By} {t:Nat} {loc:UInt8}:∀ n,addAt m s t loc n≤n
 | 0=>Nat.le_refl _
 | n+1=>by
   rw [addAt]
   split
   · exact Nat.le_succ_of_le (addAt_le n)
   · exact Nat.le_refl _
theorem addAt_stop {m:UInt8} {s:By} {t:Nat} {loc:UInt8} {n:Nat} (h:0 < n→¬ (m=3∧loc < bLoc s t (n - 1))):addAt m s t loc n=n:=by
 cases n with
 | zero=>rfl
 | succ n=>rw [addAt_pos (by omega),if_neg (h (by omega))]
theorem lay_off {s:By} {o a b len n:Nat} (h:len=0∨(a < n∧b < n)):lay s (o+offA a n 2) len (cut s (o+offA b n 2))=lay s (o+a * 2) len (cut s (o+b * 2)):=by
 rcases h with rfl | ⟨h1,h2⟩
 · funext i
   unfold lay
   rw [if_neg (by omega),if_neg (by omega)]
 · unfold offA
   rw [if_neg (by omega),if_neg (by omega)]
theorem lay_away {s x:By} {o m i:Nat} (h:¬ (o≤i∧i < o+m)):lay s o m x i=s i:=if_neg h
theorem add_form {s st:By} {t a:Nat} (ht:t < 4) (hn:manyB s t≤11) (ha:a≤manyB s t) :
   put (lay (lay s (42+t * 24+offA (a+1) 12 2) (((s (138+t)).toNat+1 - (a+1)) * 2) (cut s (42+t * 24+offA a 12 2))) (42+t * 24+a * 2) 2 st) (138+t)
     (lay (lay s (42+t * 24+offA (a+1) 12 2) (((s (138+t)).toNat+1 - (a+1)) * 2) (cut s (42+t * 24+offA a 12 2))) (42+t * 24+a * 2) 2 st (138+t)+1)=addR s t a st:=by
 have hme:manyB s t=(s (138+t)).toNat:=rfl
 rw [lay_off (by omega),show ((s (138+t)).toNat+1 - (a+1)) * 2=(manyB s t - a) * 2 by omega,lay_away (by omega),lay_away (by omega)]
 rfl
set_option maxHeartbeats 2000000 in
theorem add_any (mc:UInt8) (s:By) (t:Nat) (st:By) (w0:World) (ht:t < 4) (hn:manyB s t≤11):Calls Tryz.prog 111 #[Go.Proofs.YtbgnapmaimkpkaaGreatDoor.b8 mc,.agg (bs 142 s).toArray,.int .i64 (t:Int),.agg (bs 2 st).toArray] w0 fun e w'=>e = .returned (.agg (bs 142 (addP mc s t st)).toArray)∧Below w0.heap.size w0 w':=by
 have hmy:(s (138+t)).toNat≤11:=hn
 have hme:manyB s t=(s (138+t)).toNat:=rfl
 have H:=Own.start w0 none
 refine enterF func111 rfl ntmps111 rfl (fun a F=>?_);refine cSR fun K1 hK1=>?_;refine sBxB H F rfl rfl rfl ?_;clear F a H;intro b5 a w F H;refine sBxB H F rfl rfl rfl ?_;clear F a H;intro b7 a w F H;refine sAlB H zB70 F rfl rfl ?_;clear F a H;intro b8 a w F H;refine nK hK1 (cSR fun K2 hK2=>sMv F rfl rfl rfl (qFa (f:=3) (k:=138) underlying70 rfl sizeOf68 rfl rfl rfl rfl rfl ?_));clear hK1;clear F a;intro a F
 refine sIa1 underlying68 sizeOf5 F rfl rfl rfl rfl ?_ ?_
 focus (first | omega | decide | (simp;omega))
 clear F a;intro a F;refine sLd isAgg5 F rfl rfl rfl (H.cellB 2 rfl (by omega)) (qCv underlying5 underlying3 rfl rfl rfl (wrapB _) (qAs rfl rfl rfl (qNK hK2 (qSR fun K3 hK3=>qMv rfl rfl rfl (qAs rfl rfl rfl (qNK hK3 ?_))))));clear hK2 hK3;clear F a;intro a F;refine cSeq (fun K4 hK4=>?_);refine wp_block ?_
 refine cLoopR [0,2,5,7,8,9] (fun m ups w=>∃ a:Nat,m=a∧ups=[(10,.int .i64 ((a:Nat):Int))]∧a≤manyB s t∧addAt mc s t (st 0) (manyB s t)=addAt mc s t (st 0) a∧Own w0 none w [.blk b8 (bs 142 zb) 70,.blk b7 (bs 2 st) 65,.blk b5 (bs 142 s) 70]) F (manyB s t) [(10,.int .i64 (((s (138+t)).toNat:Nat):Int))] (by repeat (first | exact SubR.nil | (apply SubR.cons;· rfl))) ?_ ?_ ?_
 · exact ⟨manyB s t,rfl,rfl,Nat.le_refl _,rfl,H.sel [0,1,2] rfl rfl⟩
 · repeat (first | exact trivial | refine Le.cons rfl ?_)
 clear F
 clear H
 intro m ups a w hI F
 obtain ⟨_,rfl,rfl,ha,hs,H⟩:=hI
 refine cSeq (fun K5 hK5=>?_);refine cSeq (fun K6 hK6=>?_);refine cRegRO (by kernel_rfl) H ?_;replace H:=H.drew;refine eTF 0 rfl (by kernel_rfl) F rfl rfl rfl (fun w=>rMv F rfl) H qq0 (qTF 1 rfl (by kernel_rfl) rfl rfl rfl (fun a F w=>rBin F rfl rfl (bEqlB (y:=3))) H qq0 (qTF 2 rfl (by kernel_rfl) rfl rfl rfl (fun a F w=>rMv F rfl) H qq0 ?_));clear F a;intro a F
 refine F.split 19 rfl ?_ ?_ <;> (clear F;intro h19 F)
 ·
  replace h19:=beqT h19;refine eTF 3 rfl (by kernel_rfl) F rfl rfl rfl (fun w=>rMv F rfl) H qq0 (qTF 4 rfl (by kernel_rfl) rfl rfl rfl (fun a F w=>rBin F rfl rfl bGtr) H qq0 (qTF 5 rfl (by kernel_rfl) rfl rfl rfl (fun a F w=>rPk F rfl rfl) H qq0 (qTF 6 rfl (by kernel_rfl) rfl rfl rfl (fun a F w=>rMv F rfl) H qq0 ?_)));clear F a;intro a F
  refine F.split 23 rfl ?_ ?_ <;> (clear F;intro h23 F)
  ·
   replace h23:=of_decide_eq_true h23;refine eTF 7 rfl (by kernel_rfl) F rfl rfl rfl (fun w=>rMv F rfl) H qq0 (qTF 8 rfl (by kernel_rfl) rfl rfl rfl (fun a F w=>rMv F rfl) H qq0 ?_);clear F a;intro a F
   refine eTakeF (k:=9) (i:=9) rfl (by kernel_rfl) F rfl rfl rfl (fun w=>rBin F rfl rfl (bSubN (j:=1) ?_ ?_)) H (fun _ _ _ h=>h) ?_
   focus omega
   focus omega
   clear F a;intro a F;refine eTF 10 rfl (by kernel_rfl) F rfl rfl rfl (fun w=>rFa (f:=2) (k:=42) underlying70 rfl sizeOf67 rfl rfl F rfl) H qq0 ?_;clear F a;intro a F
   refine eTakeF (k:=11) (i:=11) rfl (by kernel_rfl) F rfl rfl rfl (fun w=>rIa underlying67 sizeOf66 F rfl rfl ?_) H (fun _ _ _ h=>h) ?_
   focus (first | omega | decide | (simp;omega))
   clear F a;intro a F
   refine eTakeF (k:=12) (i:=12) rfl (by kernel_rfl) F rfl rfl rfl (fun w=>rIa underlying66 sizeOf65 F rfl rfl ?_) H (fun _ _ _ h=>h) ?_
   focus (first | omega | decide | (simp;omega))
   clear F a;intro a F;refine eTF 13 rfl (by kernel_rfl) F rfl rfl rfl (fun w=>rFaZ (f:=0) underlying65 rfl sizeOf5 rfl rfl F rfl) H qq0 (qT 14 rfl (by kernel_rfl) rfl rfl rfl rfl (fun a F w H=>rLd isAgg5 F rfl (H.cellB 2 rfl (by omega))) H qq0 (qTF 15 rfl (by kernel_rfl) rfl rfl rfl (fun a F w=>rFa (f:=0) (k:=0) underlying65 rfl sizeOf5 rfl rfl F rfl) H qq0 (qT 16 rfl (by kernel_rfl) rfl rfl rfl rfl (fun a F w H=>rLd isAgg5 F rfl (H.cellB 1 rfl (by omega))) H qq0 (qTF 17 rfl (by kernel_rfl) rfl rfl rfl (fun a F w=>rBin F rfl rfl bGtrB) H qq0 (qTF 18 rfl (by kernel_rfl) rfl rfl rfl (fun a F w=>rPk F rfl rfl) H qq0 ?_)))));clear F a;intro a F;refine eNil (k:=19) (by kernel_rfl) ?_;refine hK6 _ _ ?_;clear hK6
   refine cIf F rfl (fun h35=>?_) (fun h35=>?_)
   ·
    replace h35:=of_decide_eq_true h35;refine wp_skip (hK5 _ _ ?_);clear hK5;refine wp_block ?_;refine cReg (sMv F rfl rfl rfl ?_);clear F a;intro a F
    refine sBin F rfl rfl rfl rfl (bSubN (j:=1) ?_ ?_) ?_
    focus omega
    focus omega
    clear F a;intro a F;refine sAs F rfl rfl rfl ?_;clear F a;intro a F;refine sNil ?_
    exact ⟨m - 1,by omega,_,⟨m - 1,rfl,rfl,by omega,by rw [hs,addAt_pos (by omega),if_pos ⟨by assumption,by assumption⟩],H.sel [0,1,2] rfl rfl⟩,F.to (by repeat (first | exact trivial | refine Le.cons rfl ?_))⟩
   replace h35:=of_decide_eq_false h35;refine wp_exit ?_;refine hK4 _ _ ?_;clear hK4;refine cSeq (fun K7 hK7=>?_);refine cRegRO (by kernel_rfl) H ?_;replace H:=H.drew;refine eTF 0 rfl (by kernel_rfl) F rfl rfl rfl (fun w=>rMv F rfl) H qq0 (qTF 1 rfl (by kernel_rfl) rfl rfl rfl (fun a F w=>rFa (f:=2) (k:=42) underlying70 rfl sizeOf67 rfl rfl F rfl) H qq0 ?_);clear F a;intro a F
   refine eTakeF (k:=2) (i:=2) rfl (by kernel_rfl) F rfl rfl rfl (fun w=>rIa underlying67 sizeOf66 F rfl rfl ?_) H (fun _ _ _ h=>h) ?_
   focus (first | omega | decide | (simp;omega))
   clear F a;intro a F;refine eTF 3 rfl (by kernel_rfl) F rfl rfl rfl (fun w=>rMv F rfl) H qq0 ?_;clear F a;intro a F
   refine eTakeF (k:=4) (i:=4) rfl (by kernel_rfl) F rfl rfl rfl (fun w=>rBin F rfl rfl (bAddN (j:=1) ?_)) H (fun _ _ _ h=>h) ?_
   focus omega
   clear F a;intro a F;refine eTF 5 rfl (by kernel_rfl) F rfl rfl rfl (fun w=>rMv F rfl) H qq0 ?_;clear F a;intro a F
   refine eTakeF (k:=6) (i:=6) rfl (by kernel_rfl) F rfl rfl rfl (fun w=>rBin F rfl rfl (bAddN (j:=1) ?_)) H (fun _ _ _ h=>h) ?_
   focus omega
   clear F a;intro a F
   refine eTake (k:=7) (i:=7) rfl (by kernel_rfl) F rfl rfl rfl rfl (fun w H=>rSlALH underlying66 sizeOf65 F rfl rfl rfl ?_ ?_) H (fun _ _ _ h=>h) ?_
   focus (first | omega | decide | (simp;omega))
   focus (first | omega | decide | (simp;omega))
   clear F a;intro a F;refine eTF 8 rfl (by kernel_rfl) F rfl rfl rfl (fun w=>rMv F rfl) H qq0 (qTF 9 rfl (by kernel_rfl) rfl rfl rfl (fun a F w=>rFa (f:=2) (k:=42) underlying70 rfl sizeOf67 rfl rfl F rfl) H qq0 ?_);clear F a;intro a F
   refine eTakeF (k:=10) (i:=10) rfl (by kernel_rfl) F rfl rfl rfl (fun w=>rIa underlying67 sizeOf66 F rfl rfl ?_) H (fun _ _ _ h=>h) ?_
   focus (first | omega | decide | (simp;omega))
   clear F a;intro a F;refine eTF 11 rfl (by kernel_rfl) F rfl rfl rfl (fun w=>rMv F rfl) H qq0 (qTF 12 rfl (by kernel_rfl) rfl rfl rfl (fun a F w=>rMv F rfl) H qq0 ?_);clear F a;intro a F
   refine eTake (k:=13) (i:=13) rfl (by kernel_rfl) F rfl rfl rfl rfl (fun w H=>rSlALH underlying66 sizeOf65 F rfl rfl rfl ?_ ?_) H (fun _ _ _ h=>h) ?_
   focus (first | omega | decide | (simp;omega))
   focus (first | omega | decide | (simp;omega))
   clear F a;intro a F;refine eOne (k:=14) (i:=14) rfl (by kernel_rfl) F rfl (oCpBB H 2 underlying143 sizeOf65 F rfl rfl rfl rfl ?hm ?hd ?hs ?_)
   case hm=>first | omega | (unfold offA;split <;> omega)
   case hd=>first | omega | (unfold offA;split <;> omega)
   case hs=>first | omega | (unfold offA;split <;> omega)
   clear F a H;intro a w F H;refine ePartO (by kernel_rfl) H ?_;refine eNil (k:=15) (by kernel_rfl) ?_;refine hK7 _ _ ?_;clear hK7;refine cSeq (fun K8 hK8=>?_);refine cRegRO (by kernel_rfl) H ?_;replace H:=H.drew;refine eTF 0 rfl (by kernel_rfl) F rfl rfl rfl (fun w=>rMv F rfl) H qq0 (qTF 1 rfl (by kernel_rfl) rfl rfl rfl (fun a F w=>rMv F rfl) H qq0 (qT 2 rfl (by kernel_rfl) rfl rfl rfl rfl (fun a F w H=>rLrB underlying65 rfl sizeOf65 F rfl (H.whole 1 rfl)) H qq0 (qTF 3 rfl (by kernel_rfl) rfl rfl rfl (fun a F w=>rFa (f:=2) (k:=42) underlying70 rfl sizeOf67 rfl rfl F rfl) H qq0 ?_)));clear F a;intro a F
   refine eTakeF (k:=4) (i:=4) rfl (by kernel_rfl) F rfl rfl rfl (fun w=>rIa underlying67 sizeOf66 F rfl rfl ?_) H (fun _ _ _ h=>h) ?_
   focus (first | omega | decide | (simp;omega))
   clear F a;intro a F
   refine eTakeF (k:=5) (i:=5) rfl (by kernel_rfl) F rfl rfl rfl (fun w=>rIa underlying66 sizeOf65 F rfl rfl ?_) H (fun _ _ _ h=>h) ?_
   focus (first | omega | decide | (simp;omega))
   clear F a;intro a F;refine eOne (k:=6) (i:=6) rfl (by kernel_rfl) F rfl (oSrB H 2 sizeOf65 F rfl rfl rfl (by omega) ?_);clear H;intro w H;refine ePartO (by kernel_rfl) H ?_;refine eNil (k:=7) (by kernel_rfl) ?_;refine hK8 _ _ (cSR fun K9 hK9=>sMv F rfl rfl rfl (qFa (f:=3) (k:=138) underlying70 rfl sizeOf68 rfl rfl rfl rfl rfl ?_));clear hK8;clear F a;intro a F
   refine sIa1 underlying68 sizeOf5 F rfl rfl rfl rfl ?_ ?_
   focus (first | omega | decide | (simp;omega))
   clear F a;intro a F;refine sLd isAgg5 F rfl rfl rfl (H.cellB 2 rfl (by omega)) (qBin rfl rfl rfl rfl (bAddB (y:=1)) (qFa (f:=3) (k:=138) underlying70 rfl sizeOf68 rfl rfl rfl rfl rfl ?_));clear F a;intro a F
   refine sIa1 underlying68 sizeOf5 F rfl rfl rfl rfl ?_ ?_
   focus (first | omega | decide | (simp;omega))
   clear F a;intro a F;refine sStB H 2 sizeOf5 F rfl rfl rfl rfl (by omega) ?_;clear H;intro w H;refine nK hK9 (cSR fun K10 hK10=>sLrB underlying70 rfl sizeOf70 F rfl rfl rfl (H.whole 2 rfl) ?_);clear hK9;clear F a;intro a F;refine sSrB H 0 sizeOf70 F rfl rfl rfl rfl (by omega) ?_;clear H;intro w H;rw [lay_all] at H;refine nK hK10 ?_;clear hK10;refine wp_ret ?_;refine bRetB results111 F rfl underlying70 rfl sizeOf70 H 0 rfl ?_
   refine ⟨?_,H.below⟩
   clear F H
   rw [add_form ht hn ha,addP,hs]
   first
     | rw [addAt_stop (fun _ h=>h19 h.1)]
     | rw [addAt_stop (fun h=>absurd h (by omega))]
     | rw [addAt_stop (fun _ h=>h35 h.2)]
  replace h23:=of_decide_eq_false h23;refine eSF 7 rfl (by kernel_rfl) F rfl rfl rfl H qq0 (qSF 8 rfl (by kernel_rfl) rfl rfl rfl H qq0 (qSF 9 rfl (by kernel_rfl) rfl rfl rfl H qq0 (qSF 10 rfl (by kernel_rfl) rfl rfl rfl H qq0 (qSF 11 rfl (by kernel_rfl) rfl rfl rfl H qq0 (qSF 12 rfl (by kernel_rfl) rfl rfl rfl H qq0 (qSF 13 rfl (by kernel_rfl) rfl rfl rfl H qq0 (qSF 14 rfl (by kernel_rfl) rfl rfl rfl H qq0 (qSF 15 rfl (by kernel_rfl) rfl rfl rfl H qq0 (qSF 16 rfl (by kernel_rfl) rfl rfl rfl H qq0 (qSF 17 rfl (by kernel_rfl) rfl rfl rfl H qq0 (qTF 18 rfl (by kernel_rfl) rfl rfl rfl (fun a F w=>rPk F rfl rfl) H qq0 ?_)))))))))));clear F a;intro a F;refine eNil (k:=19) (by kernel_rfl) ?_;refine hK6 _ _ ?_;clear hK6;refine cIfF F rfl ?_;refine wp_exit ?_;refine hK4 _ _ ?_;clear hK4;refine cSeq (fun K11 hK11=>?_);refine cRegRO (by kernel_rfl) H ?_;replace H:=H.drew;refine eTF 0 rfl (by kernel_rfl) F rfl rfl rfl (fun w=>rMv F rfl) H qq0 (qTF 1 rfl (by kernel_rfl) rfl rfl rfl (fun a F w=>rFa (f:=2) (k:=42) underlying70 rfl sizeOf67 rfl rfl F rfl) H qq0 ?_);clear F a;intro a F
  refine eTakeF (k:=2) (i:=2) rfl (by kernel_rfl) F rfl rfl rfl (fun w=>rIa underlying67 sizeOf66 F rfl rfl ?_) H (fun _ _ _ h=>h) ?_
  focus (first | omega | decide | (simp;omega))
  clear F a;intro a F;refine eTF 3 rfl (by kernel_rfl) F rfl rfl rfl (fun w=>rMv F rfl) H qq0 ?_;clear F a;intro a F
  refine eTakeF (k:=4) (i:=4) rfl (by kernel_rfl) F rfl rfl rfl (fun w=>rBin F rfl rfl (bAddN (j:=1) ?_)) H (fun _ _ _ h=>h) ?_
  focus omega
  clear F a;intro a F;refine eTF 5 rfl (by kernel_rfl) F rfl rfl rfl (fun w=>rMv F rfl) H qq0 ?_;clear F a;intro a F
  refine eTakeF (k:=6) (i:=6) rfl (by kernel_rfl) F rfl rfl rfl (fun w=>rBin F rfl rfl (bAddN (j:=1) ?_)) H (fun _ _ _ h=>h) ?_
  focus omega
  clear F a;intro a F
  refine eTake (k:=7) (i:=7) rfl (by kernel_rfl) F rfl rfl rfl rfl (fun w H=>rSlALH underlying66 sizeOf65 F rfl rfl rfl ?_ ?_) H (fun _ _ _ h=>h) ?_
  focus (first | omega | decide | (simp;omega))
  focus (first | omega | decide | (simp;omega))
  clear F a;intro a F;refine eTF 8 rfl (by kernel_rfl) F rfl rfl rfl (fun w=>rMv F rfl) H qq0 (qTF 9 rfl (by kernel_rfl) rfl rfl rfl (fun a F w=>rFa (f:=2) (k:=42) underlying70 rfl sizeOf67 rfl rfl F rfl) H qq0 ?_);clear F a;intro a F
  refine eTakeF (k:=10) (i:=10) rfl (by kernel_rfl) F rfl rfl rfl (fun w=>rIa underlying67 sizeOf66 F rfl rfl ?_) H (fun _ _ _ h=>h) ?_
  focus (first | omega | decide | (simp;omega))
  clear F a;intro a F;refine eTF 11 rfl (by kernel_rfl) F rfl rfl rfl (fun w=>rMv F rfl) H qq0 (qTF 12 rfl (by kernel_rfl) rfl rfl rfl (fun a F w=>rMv F rfl) H qq0 ?_);clear F a;intro a F
  refine eTake (k:=13) (i:=13) rfl (by kernel_rfl) F rfl rfl rfl rfl (fun w H=>rSlALH underlying66 sizeOf65 F rfl rfl rfl ?_ ?_) H (fun _ _ _ h=>h) ?_
  focus (first | omega | decide | (simp;omega))
  focus (first | omega | decide | (simp;omega))
  clear F a;intro a F;refine eOne (k:=14) (i:=14) rfl (by kernel_rfl) F rfl (oCpBB H 2 underlying143 sizeOf65 F rfl rfl rfl rfl ?hm ?hd ?hs ?_)
  case hm=>first | omega | (unfold offA;split <;> omega)
  case hd=>first | omega | (unfold offA;split <;> omega)
  case hs=>first | omega | (unfold offA;split <;> omega)
  clear F a H;intro a w F H;refine ePartO (by kernel_rfl) H ?_;refine eNil (k:=15) (by kernel_rfl) ?_;refine hK11 _ _ ?_;clear hK11;refine cSeq (fun K12 hK12=>?_);refine cRegRO (by kernel_rfl) H ?_;replace H:=H.drew;refine eTF 0 rfl (by kernel_rfl) F rfl rfl rfl (fun w=>rMv F rfl) H qq0 (qTF 1 rfl (by kernel_rfl) rfl rfl rfl (fun a F w=>rMv F rfl) H qq0 (qT 2 rfl (by kernel_rfl) rfl rfl rfl rfl (fun a F w H=>rLrB underlying65 rfl sizeOf65 F rfl (H.whole 1 rfl)) H qq0 (qTF 3 rfl (by kernel_rfl) rfl rfl rfl (fun a F w=>rFa (f:=2) (k:=42) underlying70 rfl sizeOf67 rfl rfl F rfl) H qq0 ?_)));clear F a;intro a F
  refine eTakeF (k:=4) (i:=4) rfl (by kernel_rfl) F rfl rfl rfl (fun w=>rIa underlying67 sizeOf66 F rfl rfl ?_) H (fun _ _ _ h=>h) ?_
  focus (first | omega | decide | (simp;omega))
  clear F a;intro a F
  refine eTakeF (k:=5) (i:=5) rfl (by kernel_rfl) F rfl rfl rfl (fun w=>rIa underlying66 sizeOf65 F rfl rfl ?_) H (fun _ _ _ h=>h) ?_
  focus (first | omega | decide | (simp;omega))
  clear F a;intro a F;refine eOne (k:=6) (i:=6) rfl (by kernel_rfl) F rfl (oSrB H 2 sizeOf65 F rfl rfl rfl (by omega) ?_);clear H;intro w H;refine ePartO (by kernel_rfl) H ?_;refine eNil (k:=7) (by kernel_rfl) ?_;refine hK12 _ _ (cSR fun K13 hK13=>sMv F rfl rfl rfl (qFa (f:=3) (k:=138) underlying70 rfl sizeOf68 rfl rfl rfl rfl rfl ?_));clear hK12;clear F a;intro a F
  refine sIa1 underlying68 sizeOf5 F rfl rfl rfl rfl ?_ ?_
  focus (first | omega | decide | (simp;omega))
  clear F a;intro a F;refine sLd isAgg5 F rfl rfl rfl (H.cellB 2 rfl (by omega)) (qBin rfl rfl rfl rfl (bAddB (y:=1)) (qFa (f:=3) (k:=138) underlying70 rfl sizeOf68 rfl rfl rfl rfl rfl ?_));clear F a;intro a F
  refine sIa1 underlying68 sizeOf5 F rfl rfl rfl rfl ?_ ?_
  focus (first | omega | decide | (simp;omega))
  clear F a;intro a F;refine sStB H 2 sizeOf5 F rfl rfl rfl rfl (by omega) ?_;clear H;intro w H;refine nK hK13 (cSR fun K14 hK14=>sLrB underlying70 rfl sizeOf70 F rfl rfl rfl (H.whole 2 rfl) ?_);clear hK13;clear F a;intro a F;refine sSrB H 0 sizeOf70 F rfl rfl rfl rfl (by omega) ?_;clear H;intro w H;rw [lay_all] at H;refine nK hK14 ?_;clear hK14;refine wp_ret ?_;refine bRetB results111 F rfl underlying70 rfl sizeOf70 H 0 rfl ?_
  refine ⟨?_,H.below⟩
  clear F H
  rw [add_form ht hn ha,addP,hs]
  first
    | rw [addAt_stop (fun _ h=>h19 h.1)]
    | rw [addAt_stop (fun h=>absurd h (by omega))]
    | rw [addAt_stop (fun _ h=>h35 h.2)]
 replace h19:=beqF h19;refine eSF 3 rfl (by kernel_rfl) F rfl rfl rfl H qq0 (qSF 4 rfl (by kernel_rfl) rfl rfl rfl H qq0 (qTF 5 rfl (by kernel_rfl) rfl rfl rfl (fun a F w=>rPk F rfl rfl) H qq0 (qTF 6 rfl (by kernel_rfl) rfl rfl rfl (fun a F w=>rMv F rfl) H qq0 (qSF 7 rfl (by kernel_rfl) rfl rfl rfl H qq0 (qSF 8 rfl (by kernel_rfl) rfl rfl rfl H qq0 (qSF 9 rfl (by kernel_rfl) rfl rfl rfl H qq0 (qSF 10 rfl (by kernel_rfl) rfl rfl rfl H qq0 (qSF 11 rfl (by kernel_rfl) rfl rfl rfl H qq0 (qSF 12 rfl (by kernel_rfl) rfl rfl rfl H qq0 (qSF 13 rfl (by kernel_rfl) rfl rfl rfl H qq0 (qSF 14 rfl (by kernel_rfl) rfl rfl rfl H qq0 (qSF 15 rfl (by kernel_rfl) rfl rfl rfl H qq0 (qSF 16 rfl (by kernel_rfl) rfl rfl rfl H qq0 (qSF 17 rfl (by kernel_rfl) rfl rfl rfl H qq0 (qTF 18 rfl (by kernel_rfl) rfl rfl rfl (fun a F w=>rPk F rfl rfl) H qq0 ?_)))))))))))))));clear F a;intro a F;refine eNil (k:=19) (by kernel_rfl) ?_;refine hK6 _ _ ?_;clear hK6;refine cIfF F rfl ?_;refine wp_exit ?_;refine hK4 _ _ ?_;clear hK4;refine cSeq (fun K15 hK15=>?_);refine cRegRO (by kernel_rfl) H ?_;replace H:=H.drew;refine eTF 0 rfl (by kernel_rfl) F rfl rfl rfl (fun w=>rMv F rfl) H qq0 (qTF 1 rfl (by kernel_rfl) rfl rfl rfl (fun a F w=>rFa (f:=2) (k:=42) underlying70 rfl sizeOf67 rfl rfl F rfl) H qq0 ?_);clear F a;intro a F
 refine eTakeF (k:=2) (i:=2) rfl (by kernel_rfl) F rfl rfl rfl (fun w=>rIa underlying67 sizeOf66 F rfl rfl ?_) H (fun _ _ _ h=>h) ?_
 focus (first | omega | decide | (simp;omega))
 clear F a;intro a F;refine eTF 3 rfl (by kernel_rfl) F rfl rfl rfl (fun w=>rMv F rfl) H qq0 ?_;clear F a;intro a F
 refine eTakeF (k:=4) (i:=4) rfl (by kernel_rfl) F rfl rfl rfl (fun w=>rBin F rfl rfl (bAddN (j:=1) ?_)) H (fun _ _ _ h=>h) ?_
 focus omega
 clear F a;intro a F;refine eTF 5 rfl (by kernel_rfl) F rfl rfl rfl (fun w=>rMv F rfl) H qq0 ?_;clear F a;intro a F
 refine eTakeF (k:=6) (i:=6) rfl (by kernel_rfl) F rfl rfl rfl (fun w=>rBin F rfl rfl (bAddN (j:=1) ?_)) H (fun _ _ _ h=>h) ?_
 focus omega
 clear F a;intro a F
 refine eTake (k:=7) (i:=7) rfl (by kernel_rfl) F rfl rfl rfl rfl (fun w H=>rSlALH underlying66 sizeOf65 F rfl rfl rfl ?_ ?_) H (fun _ _ _ h=>h) ?_
 focus (first | omega | decide | (simp;omega))
 focus (first | omega | decide | (simp;omega))
 clear F a;intro a F;refine eTF 8 rfl (by kernel_rfl) F rfl rfl rfl (fun w=>rMv F rfl) H qq0 (qTF 9 rfl (by kernel_rfl) rfl rfl rfl (fun a F w=>rFa (f:=2) (k:=42) underlying70 rfl sizeOf67 rfl rfl F rfl) H qq0 ?_);clear F a;intro a F
 refine eTakeF (k:=10) (i:=10) rfl (by kernel_rfl) F rfl rfl rfl (fun w=>rIa underlying67 sizeOf66 F rfl rfl ?_) H (fun _ _ _ h=>h) ?_
 focus (first | omega | decide | (simp;omega))
 clear F a;intro a F;refine eTF 11 rfl (by kernel_rfl) F rfl rfl rfl (fun w=>rMv F rfl) H qq0 (qTF 12 rfl (by kernel_rfl) rfl rfl rfl (fun a F w=>rMv F rfl) H qq0 ?_);clear F a;intro a F
 refine eTake (k:=13) (i:=13) rfl (by kernel_rfl) F rfl rfl rfl rfl (fun w H=>rSlALH underlying66 sizeOf65 F rfl rfl rfl ?_ ?_) H (fun _ _ _ h=>h) ?_
 focus (first | omega | decide | (simp;omega))
 focus (first | omega | decide | (simp;omega))
 clear F a;intro a F;refine eOne (k:=14) (i:=14) rfl (by kernel_rfl) F rfl (oCpBB H 2 underlying143 sizeOf65 F rfl rfl rfl rfl ?hm ?hd ?hs ?_)
 case hm=>first | omega | (unfold offA;split <;> omega)
 case hd=>first | omega | (unfold offA;split <;> omega)
 case hs=>first | omega | (unfold offA;split <;> omega)
 clear F a H;intro a w F H;refine ePartO (by kernel_rfl) H ?_;refine eNil (k:=15) (by kernel_rfl) ?_;refine hK15 _ _ ?_;clear hK15;refine cSeq (fun K16 hK16=>?_);refine cRegRO (by kernel_rfl) H ?_;replace H:=H.drew;refine eTF 0 rfl (by kernel_rfl) F rfl rfl rfl (fun w=>rMv F rfl) H qq0 (qTF 1 rfl (by kernel_rfl) rfl rfl rfl (fun a F w=>rMv F rfl) H qq0 (qT 2 rfl (by kernel_rfl) rfl rfl rfl rfl (fun a F w H=>rLrB underlying65 rfl sizeOf65 F rfl (H.whole 1 rfl)) H qq0 (qTF 3 rfl (by kernel_rfl) rfl rfl rfl (fun a F w=>rFa (f:=2) (k:=42) underlying70 rfl sizeOf67 rfl rfl F rfl) H qq0 ?_)));clear F a;intro a F
 refine eTakeF (k:=4) (i:=4) rfl (by kernel_rfl) F rfl rfl rfl (fun w=>rIa underlying67 sizeOf66 F rfl rfl ?_) H (fun _ _ _ h=>h) ?_
 focus (first | omega | decide | (simp;omega))
 clear F a;intro a F
 refine eTakeF (k:=5) (i:=5) rfl (by kernel_rfl) F rfl rfl rfl (fun w=>rIa underlying66 sizeOf65 F rfl rfl ?_) H (fun _ _ _ h=>h) ?_
 focus (first | omega | decide | (simp;omega))
 clear F a;intro a F;refine eOne (k:=6) (i:=6) rfl (by kernel_rfl) F rfl (oSrB H 2 sizeOf65 F rfl rfl rfl (by omega) ?_);clear H;intro w H;refine ePartO (by kernel_rfl) H ?_;refine eNil (k:=7) (by kernel_rfl) ?_;refine hK16 _ _ (cSR fun K17 hK17=>sMv F rfl rfl rfl (qFa (f:=3) (k:=138) underlying70 rfl sizeOf68 rfl rfl rfl rfl rfl ?_));clear hK16;clear F a;intro a F
 refine sIa1 underlying68 sizeOf5 F rfl rfl rfl rfl ?_ ?_
 focus (first | omega | decide | (simp;omega))
 clear F a;intro a F;refine sLd isAgg5 F rfl rfl rfl (H.cellB 2 rfl (by omega)) (qBin rfl rfl rfl rfl (bAddB (y:=1)) (qFa (f:=3) (k:=138) underlying70 rfl sizeOf68 rfl rfl rfl rfl rfl ?_));clear F a;intro a F
 refine sIa1 underlying68 sizeOf5 F rfl rfl rfl rfl ?_ ?_
 focus (first | omega | decide | (simp;omega))
 clear F a;intro a F;refine sStB H 2 sizeOf5 F rfl rfl rfl rfl (by omega) ?_;clear H;intro w H;refine nK hK17 (cSR fun K18 hK18=>sLrB underlying70 rfl sizeOf70 F rfl rfl rfl (H.whole 2 rfl) ?_);clear hK17;clear F a;intro a F;refine sSrB H 0 sizeOf70 F rfl rfl rfl rfl (by omega) ?_;clear H;intro w H;rw [lay_all] at H;refine nK hK18 ?_;clear hK18;refine wp_ret ?_;refine bRetB results111 F rfl underlying70 rfl sizeOf70 H 0 rfl ?_
 refine ⟨?_,H.below⟩
 clear F H
 rw [add_form ht hn ha,addP,hs]
 first
   | rw [addAt_stop (fun _ h=>h19 h.1)]
   | rw [addAt_stop (fun h=>absurd h (by omega))]
   | rw [addAt_stop (fun _ h=>h35 h.2)]
theorem drainN_go {m:UInt8} {s:By} {t:Nat} {loc:UInt8} {f i:Nat} (h:m=3∧bLoc s t i ≠ loc):drainN m s t loc (f+1) i=drainN m s t loc f (i+1):=by rw [drainN,if_pos h]
theorem drainN_stop {m:UInt8} {s:By} {t:Nat} {loc:UInt8} {f i:Nat} (h:¬ (m=3∧bLoc s t i ≠ loc)):drainN m s t loc f i=i:=by
 cases f with
 | zero=>rfl
 | succ f=>rw [drainN,if_neg h]
theorem drain_form {s:By} {t a:Nat} (ht:t < 4) (hn:manyB s t≤12) (ha:a < manyB s t) :
   put (put (lay (lay s (42+t * 24+offA a 12 2) (((s (138+t)).toNat - 1 - a) * 2) (cut s (42+t * 24+offA (a+1) 12 2))) (42+t * 24+((s (138+t)).toNat - 1) * 2) 2 zb) (138+t)
     (lay (lay s (42+t * 24+offA a 12 2) (((s (138+t)).toNat - 1 - a) * 2) (cut s (42+t * 24+offA (a+1) 12 2))) (42+t * 24+((s (138+t)).toNat - 1) * 2) 2 zb (138+t) - 1))
     (36+(cut s (42+t * 24+a * 2) 0).toNat) (cut s (42+t * 24+a * 2) 1)=drainR s t a:=by
 have hme:manyB s t=(s (138+t)).toNat:=rfl
 rw [lay_off (by omega),lay_away (by omega),lay_away (by omega)]
 rfl
set_option maxHeartbeats 2000000 in
theorem drain_any (mc:UInt8) (s:By) (x:Pss) (t:Nat) (w0:World) (hx:x.t.toNat=t) (ht:t < 4) (hn0:0 < manyB s t) (hn:manyB s t≤12) (hlo:∀ i,i < manyB s t→(bLoc s t i).toNat < 6) (hex:mc=3→∃ i,i < manyB s t∧bLoc s t i=x.l) :
   Calls Tryz.prog 108 #[Go.Proofs.YtbgnapmaimkpkaaGreatDoor.b8 mc,.agg (bs 142 s).toArray,.agg x.cells.toArray] w0 fun e w'=>e = .returned (.agg (bs 142 (drainP mc s t x.l)).toArray)∧Below w0.heap.size w0 w':=by
 subst hx
 have hme:manyB s x.t.toNat=(s (138+x.t.toNat)).toNat:=rfl
 have H:=Own.start w0 none
 refine enterF func108 rfl ntmps108 rfl (fun a F=>?_);refine cSR fun K1 hK1=>?_;refine sBxB H F rfl rfl rfl ?_;clear F a H;intro b4 a w F H;refine sBx H F rfl rfl rfl ?_;clear F a H;intro b5 a w F H;refine sAlB H zB70 F rfl rfl ?_;clear F a H;intro b6 a w F H;refine nK hK1 (cSR fun K2 hK2=>sFa (f:=0) (k:=0) underlying86 rfl sizeOf5 rfl rfl F rfl rfl rfl (qLd isAgg5 rfl rfl rfl (H.cell 1 rfl rfl) (qAs rfl rfl rfl (qNK hK2 (qSR fun K3 hK3=>qMv rfl rfl rfl (qFa (f:=3) (k:=138) underlying70 rfl sizeOf68 rfl rfl rfl rfl rfl ?_))))));clear hK1 hK2;clear F a;intro a F
 refine sIa1 underlying68 sizeOf5 F rfl rfl rfl rfl ?_ ?_
 focus (first | omega | decide | (simp;omega))
 clear F a;intro a F;refine sLd isAgg5 F rfl rfl rfl (H.cellB 2 rfl (by omega)) (qCv underlying5 underlying3 rfl rfl rfl (wrapB _) (qAs rfl rfl rfl (qAs rfl rfl rfl (qNK hK3 ?_))));clear hK3;clear F a;intro a F;refine cSeq (fun K4 hK4=>?_);refine wp_block ?_
 refine cLoopR [0,4,5,6,7,8] (fun m ups w=>∃ (a f:Nat),m=manyB s x.t.toNat - a∧ups=[(9,.int .i64 ((a:Nat):Int))]∧a < manyB s x.t.toNat∧a+f=manyB s x.t.toNat∧drainI mc s x.t.toNat x.l=drainN mc s x.t.toNat x.l f a∧(mc=3→∃ i,a≤i∧i < manyB s x.t.toNat∧bLoc s x.t.toNat i=x.l)∧Own w0 none w [.blk b6 (bs 142 zb) 70,.blk b5 x.cells 86,.blk b4 (bs 142 s) 70]) F (manyB s x.t.toNat) [(9,.int .i64 ((0:Nat):Int))] (by repeat (first | exact SubR.nil | (apply SubR.cons;· rfl))) ?_ ?_ ?_
 · exact ⟨0,manyB s x.t.toNat,rfl,rfl,hn0,by omega,rfl,fun h=>by obtain ⟨i,h1,h2⟩:=hex h;exact ⟨i,by omega,h1,h2⟩,H.sel [0,1,2] rfl rfl⟩
 · repeat (first | exact trivial | refine Le.cons rfl ?_)
 clear F
 clear H
 intro m ups a w hI F
 obtain ⟨a',f,rfl,rfl,ha,hf,hs,hx3,H⟩:=hI
 obtain ⟨f,rfl⟩:∃ q,f=q+1:=⟨f - 1,by omega⟩
 have hla:=hlo a' ha
 have hlc:(cut s (42+x.t.toNat * 24+a' * 2) 0).toNat < 6:=hla
 refine cSeq (fun K5 hK5=>?_);refine cSeq (fun K6 hK6=>?_);refine cRegRO (by kernel_rfl) H ?_;replace H:=H.drew;refine eTF 0 rfl (by kernel_rfl) F rfl rfl rfl (fun w=>rMv F rfl) H qq0 (qTF 1 rfl (by kernel_rfl) rfl rfl rfl (fun a F w=>rBin F rfl rfl (bEqlB (y:=3))) H qq0 (qTF 2 rfl (by kernel_rfl) rfl rfl rfl (fun a F w=>rMv F rfl) H qq0 ?_));clear F a;intro a F
 refine F.split 20 rfl ?_ ?_ <;> (clear F;intro h20 F)
 ·
  replace h20:=beqT h20;refine eTF 3 rfl (by kernel_rfl) F rfl rfl rfl (fun w=>rMv F rfl) H qq0 (qTF 4 rfl (by kernel_rfl) rfl rfl rfl (fun a F w=>rMv F rfl) H qq0 (qTF 5 rfl (by kernel_rfl) rfl rfl rfl (fun a F w=>rFa (f:=2) (k:=42) underlying70 rfl sizeOf67 rfl rfl F rfl) H qq0 ?_));clear F a;intro a F
  refine eTakeF (k:=6) (i:=6) rfl (by kernel_rfl) F rfl rfl rfl (fun w=>rIa underlying67 sizeOf66 F rfl rfl ?_) H (fun _ _ _ h=>h) ?_
  focus (first | omega | decide | (simp;omega))
  clear F a;intro a F
  refine eTakeF (k:=7) (i:=7) rfl (by kernel_rfl) F rfl rfl rfl (fun w=>rIa underlying66 sizeOf65 F rfl rfl ?_) H (fun _ _ _ h=>h) ?_
  focus (first | omega | decide | (simp;omega))
  clear F a;intro a F;refine eTF 8 rfl (by kernel_rfl) F rfl rfl rfl (fun w=>rFaZ (f:=0) underlying65 rfl sizeOf5 rfl rfl F rfl) H qq0 (qT 9 rfl (by kernel_rfl) rfl rfl rfl rfl (fun a F w H=>rLd isAgg5 F rfl (H.cellB 2 rfl (by omega))) H qq0 (qTF 10 rfl (by kernel_rfl) rfl rfl rfl (fun a F w=>rFa (f:=2) (k:=2) underlying86 rfl sizeOf5 rfl rfl F rfl) H qq0 (qT 11 rfl (by kernel_rfl) rfl rfl rfl rfl (fun a F w H=>rLd isAgg5 F rfl (H.cell 1 rfl rfl)) H qq0 (qTF 12 rfl (by kernel_rfl) rfl rfl rfl (fun a F w=>rBin F rfl rfl bNeqB) H qq0 (qTF 13 rfl (by kernel_rfl) rfl rfl rfl (fun a F w=>rPk F rfl rfl) H qq0 ?_)))));clear F a;intro a F;refine eNil (k:=14) (by kernel_rfl) ?_;refine hK6 _ _ ?_;clear hK6
  refine cIf F rfl (fun h31=>?_) (fun h31=>?_)
  ·
   replace h31:=bneT h31;refine wp_skip (hK5 _ _ ?_);clear hK5;refine wp_block ?_;refine cReg (sMv F rfl rfl rfl ?_);clear F a;intro a F
   refine sBin F rfl rfl rfl rfl (bAddN (j:=1) ?_) ?_
   focus omega
   clear F a;intro a F;refine sAs F rfl rfl rfl ?_;clear F a;intro a F;refine sNil ?_
   (have hne:mc=3∧bLoc s x.t.toNat a' ≠ x.l:=⟨by assumption,by assumption⟩
    have hnx:∃ i,a'+1≤i∧i < manyB s x.t.toNat∧bLoc s x.t.toNat i=x.l:=by
     obtain ⟨i,h1,h2,h3⟩:=hx3 hne.1
     rcases Nat.eq_or_lt_of_le h1 with e | e
     · subst e;exact absurd h3 hne.2
     · exact ⟨i,e,h2,h3⟩
    have hlt:a'+1 < manyB s x.t.toNat:=by obtain ⟨i,h1,h2,_⟩:=hnx;omega
    exact ⟨_,by omega,_,⟨a'+1,f,rfl,rfl,hlt,by omega,by rw [hs,drainN_go hne],fun _=>hnx,H.sel [0,1,2] rfl rfl⟩,F.to (by repeat (first | exact trivial | refine Le.cons rfl ?_))⟩)
  replace h31:=bneF h31;refine wp_exit ?_;refine hK4 _ _ (cSR fun K7 hK7=>sMv F rfl rfl rfl (qMv rfl rfl rfl (qFa (f:=2) (k:=42) underlying70 rfl sizeOf67 rfl rfl rfl rfl rfl ?_)));clear hK4;clear F a;intro a F
  refine sIa underlying67 sizeOf66 F rfl rfl rfl rfl ?_ ?_
  focus (first | omega | decide | (simp;omega))
  clear F a;intro a F
  refine sIa underlying66 sizeOf65 F rfl rfl rfl rfl ?_ ?_
  focus (first | omega | decide | (simp;omega))
  clear F a;intro a F;refine sLrB underlying65 rfl sizeOf65 F rfl rfl rfl (H.rangeB 2 _ 2 rfl (by omega)) ?_;clear F a;intro a F;refine sAlB H zB65 F rfl rfl ?_;clear F a H;intro b10 a w F H;refine sSrB H 0 sizeOf65 F rfl rfl rfl rfl (by omega) ?_;clear H;intro w H;rw [lay_all] at H;refine nK hK7 ?_;clear hK7;refine cSeq (fun K8 hK8=>?_);refine cRegRO (by kernel_rfl) H ?_;replace H:=H.drew;refine eTF 0 rfl (by kernel_rfl) F rfl rfl rfl (fun w=>rMv F rfl) H qq0 (qTF 1 rfl (by kernel_rfl) rfl rfl rfl (fun a F w=>rFa (f:=2) (k:=42) underlying70 rfl sizeOf67 rfl rfl F rfl) H qq0 ?_);clear F a;intro a F
  refine eTakeF (k:=2) (i:=2) rfl (by kernel_rfl) F rfl rfl rfl (fun w=>rIa underlying67 sizeOf66 F rfl rfl ?_) H (fun _ _ _ h=>h) ?_
  focus (first | omega | decide | (simp;omega))
  clear F a;intro a F;refine eTF 3 rfl (by kernel_rfl) F rfl rfl rfl (fun w=>rMv F rfl) H qq0 (qTF 4 rfl (by kernel_rfl) rfl rfl rfl (fun a F w=>rMv F rfl) H qq0 ?_);clear F a;intro a F
  refine eTakeF (k:=5) (i:=5) rfl (by kernel_rfl) F rfl rfl rfl (fun w=>rBin F rfl rfl (bSubN (j:=1) ?_ ?_)) H (fun _ _ _ h=>h) ?_
  focus omega
  focus omega
  clear F a;intro a F
  refine eTake (k:=6) (i:=6) rfl (by kernel_rfl) F rfl rfl rfl rfl (fun w H=>rSlALH underlying66 sizeOf65 F rfl rfl rfl ?_ ?_) H (fun _ _ _ h=>h) ?_
  focus (first | omega | decide | (simp;omega))
  focus (first | omega | decide | (simp;omega))
  clear F a;intro a F;refine eTF 7 rfl (by kernel_rfl) F rfl rfl rfl (fun w=>rMv F rfl) H qq0 (qTF 8 rfl (by kernel_rfl) rfl rfl rfl (fun a F w=>rFa (f:=2) (k:=42) underlying70 rfl sizeOf67 rfl rfl F rfl) H qq0 ?_);clear F a;intro a F
  refine eTakeF (k:=9) (i:=9) rfl (by kernel_rfl) F rfl rfl rfl (fun w=>rIa underlying67 sizeOf66 F rfl rfl ?_) H (fun _ _ _ h=>h) ?_
  focus (first | omega | decide | (simp;omega))
  clear F a;intro a F;refine eTF 10 rfl (by kernel_rfl) F rfl rfl rfl (fun w=>rMv F rfl) H qq0 ?_;clear F a;intro a F
  refine eTakeF (k:=11) (i:=11) rfl (by kernel_rfl) F rfl rfl rfl (fun w=>rBin F rfl rfl (bAddN (j:=1) ?_)) H (fun _ _ _ h=>h) ?_
  focus omega
  clear F a;intro a F;refine eTF 12 rfl (by kernel_rfl) F rfl rfl rfl (fun w=>rMv F rfl) H qq0 ?_;clear F a;intro a F
  refine eTake (k:=13) (i:=13) rfl (by kernel_rfl) F rfl rfl rfl rfl (fun w H=>rSlALH underlying66 sizeOf65 F rfl rfl rfl ?_ ?_) H (fun _ _ _ h=>h) ?_
  focus (first | omega | decide | (simp;omega))
  focus (first | omega | decide | (simp;omega))
  clear F a;intro a F;refine eOne (k:=14) (i:=14) rfl (by kernel_rfl) F rfl (oCpBB H 3 underlying143 sizeOf65 F rfl rfl rfl rfl ?hm ?hd ?hs ?_)
  case hm=>first | omega | (unfold offA;split <;> omega)
  case hd=>first | omega | (unfold offA;split <;> omega)
  case hs=>first | omega | (unfold offA;split <;> omega)
  clear F a H;intro a w F H;refine ePartO (by kernel_rfl) H ?_;refine eNil (k:=15) (by kernel_rfl) ?_;refine hK8 _ _ (cSR fun K9 hK9=>sMv F rfl rfl rfl (qMv rfl rfl rfl ?_));clear hK8;clear F a;intro a F
  refine sBin F rfl rfl rfl rfl (bSubN (j:=1) ?_ ?_) ?_
  focus omega
  focus omega
  clear F a;intro a F;refine sBdB (places:=[(0,1),(1,1)]) zB65 underlying65 (by kernel_rfl) F rfl rfl rfl FillB.nil (qFa (f:=2) (k:=42) underlying70 rfl sizeOf67 rfl rfl rfl rfl rfl ?_);clear F a;intro a F
  refine sIa underlying67 sizeOf66 F rfl rfl rfl rfl ?_ ?_
  focus (first | omega | decide | (simp;omega))
  clear F a;intro a F
  refine sIa underlying66 sizeOf65 F rfl rfl rfl rfl ?_ ?_
  focus (first | omega | decide | (simp;omega))
  clear F a;intro a F;refine sSrB H 3 sizeOf65 F rfl rfl rfl rfl (by omega) ?_;clear H;intro w H;refine nK hK9 (cSR fun K10 hK10=>sMv F rfl rfl rfl (qFa (f:=3) (k:=138) underlying70 rfl sizeOf68 rfl rfl rfl rfl rfl ?_));clear hK9;clear F a;intro a F
  refine sIa1 underlying68 sizeOf5 F rfl rfl rfl rfl ?_ ?_
  focus (first | omega | decide | (simp;omega))
  clear F a;intro a F;refine sLd isAgg5 F rfl rfl rfl (H.cellB 3 rfl (by omega)) (qBin rfl rfl rfl rfl (bSubB (y:=1)) (qFa (f:=3) (k:=138) underlying70 rfl sizeOf68 rfl rfl rfl rfl rfl ?_));clear F a;intro a F
  refine sIa1 underlying68 sizeOf5 F rfl rfl rfl rfl ?_ ?_
  focus (first | omega | decide | (simp;omega))
  clear F a;intro a F;refine sStB H 3 sizeOf5 F rfl rfl rfl rfl (by omega) ?_;clear H;intro w H;refine nK hK10 (cSR fun K11 hK11=>sFa (f:=0) (k:=0) underlying65 rfl sizeOf5 rfl rfl F rfl rfl rfl (qLd isAgg5 rfl rfl rfl (H.cellB 0 rfl (by omega)) (qFa (f:=1) (k:=1) underlying65 rfl sizeOf5 rfl rfl rfl rfl rfl (qLd isAgg5 rfl rfl rfl (H.cellB 0 rfl (by omega)) (qFa (f:=1) (k:=36) underlying70 rfl sizeOf45 rfl rfl rfl rfl rfl ?_)))));clear hK10;clear F a;intro a F
  refine sIa1 underlying45 sizeOf5 F rfl rfl rfl rfl ?_ ?_
  focus exact hla
  clear F a;intro a F;refine sStB H 3 sizeOf5 F rfl rfl rfl rfl (by omega) ?_;clear H;intro w H;refine nK hK11 (cSR fun K12 hK12=>sLrB underlying70 rfl sizeOf70 F rfl rfl rfl (H.whole 3 rfl) ?_);clear hK11;clear F a;intro a F;refine sSrB H 1 sizeOf70 F rfl rfl rfl rfl (by omega) ?_;clear H;intro w H;rw [lay_all] at H;refine nK hK12 ?_;clear hK12;refine wp_ret ?_;refine bRetB results108 F rfl underlying70 rfl sizeOf70 H 1 rfl ?_
  refine ⟨?_,H.below⟩
  clear F H
  rw [drain_form ht hn ha,drainP,hs]
  first
    | rw [drainN_stop (fun h=>h20 h.1)]
    | rw [drainN_stop (fun h=>h.2 h31)]
 replace h20:=beqF h20;refine eSF 3 rfl (by kernel_rfl) F rfl rfl rfl H qq0 (qSF 4 rfl (by kernel_rfl) rfl rfl rfl H qq0 (qSF 5 rfl (by kernel_rfl) rfl rfl rfl H qq0 (qSF 6 rfl (by kernel_rfl) rfl rfl rfl H qq0 (qSF 7 rfl (by kernel_rfl) rfl rfl rfl H qq0 (qSF 8 rfl (by kernel_rfl) rfl rfl rfl H qq0 (qSF 9 rfl (by kernel_rfl) rfl rfl rfl H qq0 (qSF 10 rfl (by kernel_rfl) rfl rfl rfl H qq0 (qSF 11 rfl (by kernel_rfl) rfl rfl rfl H qq0 (qSF 12 rfl (by kernel_rfl) rfl rfl rfl H qq0 (qTF 13 rfl (by kernel_rfl) rfl rfl rfl (fun a F w=>rPk F rfl rfl) H qq0 ?_))))))))));clear F a;intro a F;refine eNil (k:=14) (by kernel_rfl) ?_;refine hK6 _ _ ?_;clear hK6;refine cIfF F rfl ?_;refine wp_exit ?_;refine hK4 _ _ (cSR fun K13 hK13=>sMv F rfl rfl rfl (qMv rfl rfl rfl (qFa (f:=2) (k:=42) underlying70 rfl sizeOf67 rfl rfl rfl rfl rfl ?_)));clear hK4;clear F a;intro a F
 refine sIa underlying67 sizeOf66 F rfl rfl rfl rfl ?_ ?_
 focus (first | omega | decide | (simp;omega))
 clear F a;intro a F
 refine sIa underlying66 sizeOf65 F rfl rfl rfl rfl ?_ ?_
 focus (first | omega | decide | (simp;omega))
 clear F a;intro a F;refine sLrB underlying65 rfl sizeOf65 F rfl rfl rfl (H.rangeB 2 _ 2 rfl (by omega)) ?_;clear F a;intro a F;refine sAlB H zB65 F rfl rfl ?_;clear F a H;intro b10 a w F H;refine sSrB H 0 sizeOf65 F rfl rfl rfl rfl (by omega) ?_;clear H;intro w H;rw [lay_all] at H;refine nK hK13 ?_;clear hK13;refine cSeq (fun K14 hK14=>?_);refine cRegRO (by kernel_rfl) H ?_;replace H:=H.drew;refine eTF 0 rfl (by kernel_rfl) F rfl rfl rfl (fun w=>rMv F rfl) H qq0 (qTF 1 rfl (by kernel_rfl) rfl rfl rfl (fun a F w=>rFa (f:=2) (k:=42) underlying70 rfl sizeOf67 rfl rfl F rfl) H qq0 ?_);clear F a;intro a F
 refine eTakeF (k:=2) (i:=2) rfl (by kernel_rfl) F rfl rfl rfl (fun w=>rIa underlying67 sizeOf66 F rfl rfl ?_) H (fun _ _ _ h=>h) ?_
 focus (first | omega | decide | (simp;omega))
 clear F a;intro a F;refine eTF 3 rfl (by kernel_rfl) F rfl rfl rfl (fun w=>rMv F rfl) H qq0 (qTF 4 rfl (by kernel_rfl) rfl rfl rfl (fun a F w=>rMv F rfl) H qq0 ?_);clear F a;intro a F
 refine eTakeF (k:=5) (i:=5) rfl (by kernel_rfl) F rfl rfl rfl (fun w=>rBin F rfl rfl (bSubN (j:=1) ?_ ?_)) H (fun _ _ _ h=>h) ?_
 focus omega
 focus omega
 clear F a;intro a F
 refine eTake (k:=6) (i:=6) rfl (by kernel_rfl) F rfl rfl rfl rfl (fun w H=>rSlALH underlying66 sizeOf65 F rfl rfl rfl ?_ ?_) H (fun _ _ _ h=>h) ?_
 focus (first | omega | decide | (simp;omega))
 focus (first | omega | decide | (simp;omega))
 clear F a;intro a F;refine eTF 7 rfl (by kernel_rfl) F rfl rfl rfl (fun w=>rMv F rfl) H qq0 (qTF 8 rfl (by kernel_rfl) rfl rfl rfl (fun a F w=>rFa (f:=2) (k:=42) underlying70 rfl sizeOf67 rfl rfl F rfl) H qq0 ?_);clear F a;intro a F
 refine eTakeF (k:=9) (i:=9) rfl (by kernel_rfl) F rfl rfl rfl (fun w=>rIa underlying67 sizeOf66 F rfl rfl ?_) H (fun _ _ _ h=>h) ?_
 focus (first | omega | decide | (simp;omega))
 clear F a;intro a F;refine eTF 10 rfl (by kernel_rfl) F rfl rfl rfl (fun w=>rMv F rfl) H qq0 ?_;clear F a;intro a F
 refine eTakeF (k:=11) (i:=11) rfl (by kernel_rfl) F rfl rfl rfl (fun w=>rBin F rfl rfl (bAddN (j:=1) ?_)) H (fun _ _ _ h=>h) ?_
 focus omega
 clear F a;intro a F;refine eTF 12 rfl (by kernel_rfl) F rfl rfl rfl (fun w=>rMv F rfl) H qq0 ?_;clear F a;intro a F
 refine eTake (k:=13) (i:=13) rfl (by kernel_rfl) F rfl rfl rfl rfl (fun w H=>rSlALH underlying66 sizeOf65 F rfl rfl rfl ?_ ?_) H (fun _ _ _ h=>h) ?_
 focus (first | omega | decide | (simp;omega))
 focus (first | omega | decide | (simp;omega))
 clear F a;intro a F;refine eOne (k:=14) (i:=14) rfl (by kernel_rfl) F rfl (oCpBB H 3 underlying143 sizeOf65 F rfl rfl rfl rfl ?hm ?hd ?hs ?_)
 case hm=>first | omega | (unfold offA;split <;> omega)
 case hd=>first | omega | (unfold offA;split <;> omega)
 case hs=>first | omega | (unfold offA;split <;> omega)
 clear F a H;intro a w F H;refine ePartO (by kernel_rfl) H ?_;refine eNil (k:=15) (by kernel_rfl) ?_;refine hK14 _ _ (cSR fun K15 hK15=>sMv F rfl rfl rfl (qMv rfl rfl rfl ?_));clear hK14;clear F a;intro a F
 refine sBin F rfl rfl rfl rfl (bSubN (j:=1) ?_ ?_) ?_
 focus omega
 focus omega
 clear F a;intro a F;refine sBdB (places:=[(0,1),(1,1)]) zB65 underlying65 (by kernel_rfl) F rfl rfl rfl FillB.nil (qFa (f:=2) (k:=42) underlying70 rfl sizeOf67 rfl rfl rfl rfl rfl ?_);clear F a;intro a F
 refine sIa underlying67 sizeOf66 F rfl rfl rfl rfl ?_ ?_
 focus (first | omega | decide | (simp;omega))
 clear F a;intro a F
 refine sIa underlying66 sizeOf65 F rfl rfl rfl rfl ?_ ?_
 focus (first | omega | decide | (simp;omega))
 clear F a;intro a F;refine sSrB H 3 sizeOf65 F rfl rfl rfl rfl (by omega) ?_;clear H;intro w H;refine nK hK15 (cSR fun K16 hK16=>sMv F rfl rfl rfl (qFa (f:=3) (k:=138) underlying70 rfl sizeOf68 rfl rfl rfl rfl rfl ?_));clear hK15;clear F a;intro a F
 refine sIa1 underlying68 sizeOf5 F rfl rfl rfl rfl ?_ ?_
 focus (first | omega | decide | (simp;omega))
 clear F a;intro a F;refine sLd isAgg5 F rfl rfl rfl (H.cellB 3 rfl (by omega)) (qBin rfl rfl rfl rfl (bSubB (y:=1)) (qFa (f:=3) (k:=138) underlying70 rfl sizeOf68 rfl rfl rfl rfl rfl ?_));clear F a;intro a F
 refine sIa1 underlying68 sizeOf5 F rfl rfl rfl rfl ?_ ?_
 focus (first | omega | decide | (simp;omega))
 clear F a;intro a F;refine sStB H 3 sizeOf5 F rfl rfl rfl rfl (by omega) ?_;clear H;intro w H;refine nK hK16 (cSR fun K17 hK17=>sFa (f:=0) (k:=0) underlying65 rfl sizeOf5 rfl rfl F rfl rfl rfl (qLd isAgg5 rfl rfl rfl (H.cellB 0 rfl (by omega)) (qFa (f:=1) (k:=1) underlying65 rfl sizeOf5 rfl rfl rfl rfl rfl (qLd isAgg5 rfl rfl rfl (H.cellB 0 rfl (by omega)) (qFa (f:=1) (k:=36) underlying70 rfl sizeOf45 rfl rfl rfl rfl rfl ?_)))));clear hK16;clear F a;intro a F
 refine sIa1 underlying45 sizeOf5 F rfl rfl rfl rfl ?_ ?_
 focus exact hla
 clear F a;intro a F;refine sStB H 3 sizeOf5 F rfl rfl rfl rfl (by omega) ?_;clear H;intro w H;refine nK hK17 (cSR fun K18 hK18=>sLrB underlying70 rfl sizeOf70 F rfl rfl rfl (H.whole 3 rfl) ?_);clear hK17;clear F a;intro a F;refine sSrB H 1 sizeOf70 F rfl rfl rfl rfl (by omega) ?_;clear H;intro w H;rw [lay_all] at H;refine nK hK18 ?_;clear hK18;refine wp_ret ?_;refine bRetB results108 F rfl underlying70 rfl sizeOf70 H 1 rfl ?_
 refine ⟨?_,H.below⟩
 clear F H
 rw [drain_form ht hn ha,drainP,hs]
 first
   | rw [drainN_stop (fun h=>h20 h.1)]
   | rw [drainN_stop (fun h=>h.2 h31)]
end Go.Proofs.YtbgnapmaimkpkaaGreatDoor
