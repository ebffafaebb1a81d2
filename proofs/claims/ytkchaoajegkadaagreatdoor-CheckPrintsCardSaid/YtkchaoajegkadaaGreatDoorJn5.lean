/-
  WALK2. Calls that may end by a panic; a panic; an interface's value. Conditions: none.
-/
import Derived.Test.YtkchaoajegkadaaGreatDoorVcL
import Derived.Deep.OwnRows
import Derived.Laws.OwnMore
import Derived.Laws.IdiomCopy
import Derived.Lib.BufferMore
set_option linter.unusedSimpArgs false
set_option linter.unusedVariables false
namespace Go.Proofs.YtkchaoajegkadaaGreatDoor
-- VcH
open Go.RowKit
variable {P:Program} {l:List Oper} {Q:Exit→Act→World→Prop} {N:Nat} {a:Act} {env:List (Nat × Value)} {rest:List Oper} {d:Tmp} {ty:TypeId} {pos:String} {af:Array Edge} {g:Option (Nat × Bool)}
 {w0 w:World} {row:Option Nat} {rs:List Res} {Kt:Act→World→Prop}
theorem sCallP {f:FuncId} {xs:List Operand} {ts:Array TypeId} {vs:List Value} {R:Ending→World→Prop} (hcall:∀ (args:Array Value) (w:World),(callFunc f args).run P w = .ok (.enter f args) w)
   (F:Has N a env) (hg:wants l env g=true) (hN:Nat.blt d N=true) (hv:evL env xs=some vs) (hc:Calls P f vs.toArray w R)
   (K:∀ e w,R e w→(∃ ch,e = .panicked ch∧Q (.panic ch) a w)∨∃ v,e = .returned v∧∀ a,Has N a ((d,v) :: env)→wpList P l.toArray Q rest a w):wpList P l.toArray Q (⟨some d,.call ⟨.value (.func f),xs.toArray,ts⟩,ty,pos,af,g⟩ :: rest) a w:=by
 unfold wpList
 rw [if_pos (wanted_of (o:=⟨some d,.call ⟨.value (.func f),xs.toArray,ts⟩,ty,pos,af,g⟩) F hg)];refine .inl ?_
 unfold Oper.wp
 have hr:(execOp a.eval ⟨some d,.call ⟨.value (.func f),xs.toArray,ts⟩,ty,pos,af,g⟩).run P w = .ok (.enter f vs.toArray) w:=by
   simp only [execOp,resolve,List.map_toArray,F.evals hv,Act.eval]
   simp [Deferred.ofValue,invoke,hcall,go_sem]
 rw [hr,Oper.upon_enter]
 refine hc.mono fun e w' he=>?_
 rcases K e w' he with ⟨ch,rfl,hk⟩ | ⟨v,rfl,hk⟩
 · exact hk
 · exact hk _ (F.put hN)
theorem sCallFP {x:Operand} {f:FuncId} {xs:List Operand} {ts:Array TypeId} {vs:List Value} {fi ca:List Value} {R:Ending→World→Prop} (F:Has N a env) (hg:wants l env g=true) (hN:Nat.blt d N=true)
   (hx:ev env x=some (.func (.func f) fi.toArray ca.toArray)) (hcall:∀ (args:Array Value) (w:World),(callFunc f args).run P w = .ok (.enter f args) w)
   (hv:evL env xs=some vs) (hc:Calls P f (fi++vs++ca).toArray w R)
   (K:∀ e w,R e w→(∃ ch,e = .panicked ch∧Q (.panic ch) a w)∨∃ v,e = .returned v∧∀ a,Has N a ((d,v) :: env)→wpList P l.toArray Q rest a w):wpList P l.toArray Q (⟨some d,.call ⟨.value x,xs.toArray,ts⟩,ty,pos,af,g⟩ :: rest) a w:=by
 unfold wpList
 rw [if_pos (wanted_of (o:=⟨some d,.call ⟨.value x,xs.toArray,ts⟩,ty,pos,af,g⟩) F hg)];refine .inl ?_
 unfold Oper.wp
 have hr:(execOp a.eval ⟨some d,.call ⟨.value x,xs.toArray,ts⟩,ty,pos,af,g⟩).run P w = .ok (.enter f (fi++vs++ca).toArray) w:=by
   simp only [execOp,resolve,List.map_toArray,F.evals hv,F.eval hx]
   simp [Deferred.ofValue,invoke,hcall,go_sem]
 rw [hr,Oper.upon_enter]
 refine hc.mono fun e w' he=>?_
 rcases K e w' he with ⟨ch,rfl,hk⟩ | ⟨v,rfl,hk⟩
 · exact hk
 · exact hk _ (F.put hN)
theorem sCallVP {x:Operand} {xs:List Operand} {ts:Array TypeId} {vs:List Value} {v:Value} {R:Ending→World→Prop} (F:Has N a env) (hg:wants l env g=true) (hN:Nat.blt d N=true)
   (hx:ev env x=some v) (hv:evL env xs=some vs) (hc:CallsF P v vs w R)
   (K:∀ e w,R e w→(∃ ch,e = .panicked ch∧Q (.panic ch) a w)∨∃ v,e = .returned v∧∀ a,Has N a ((d,v) :: env)→wpList P l.toArray Q rest a w):wpList P l.toArray Q (⟨some d,.call ⟨.value x,xs.toArray,ts⟩,ty,pos,af,g⟩ :: rest) a w:=by
 obtain ⟨f,fi,ca,rfl,h1,h2⟩:=hc
 exact sCallFP F hg hN hx h1 hv h2 K
theorem oCallP {f:FuncId} {xs:List Operand} {ts:Array TypeId} {vs:List Value} {R:Ending→World→Prop} (hcall:∀ (args:Array Value) (w:World),(callFunc f args).run P w = .ok (.enter f args) w)
   (F:Has N a env) (hN:Nat.blt d N=true) (hv:evL env xs=some vs) (hc:Calls P f vs.toArray w R)
   (K:∀ e w,R e w→(∃ ch,e = .panicked ch∧Q (.panic ch) a w)∨∃ v,e = .returned v∧∀ a,Has N a ((d,v) :: env)→Kt a w):(Oper.mk (some d) (.call ⟨.value (.func f),xs.toArray,ts⟩) ty pos af g).wp P a w Kt Q:=by
 unfold Oper.wp
 have hr:(execOp a.eval ⟨some d,.call ⟨.value (.func f),xs.toArray,ts⟩,ty,pos,af,g⟩).run P w = .ok (.enter f vs.toArray) w:=by
   simp only [execOp,resolve,List.map_toArray,F.evals hv,Act.eval]
   simp [Deferred.ofValue,invoke,hcall,go_sem]
 rw [hr,Oper.upon_enter]
 refine hc.mono fun e w' he=>?_
 rcases K e w' he with ⟨ch,rfl,hk⟩ | ⟨v,rfl,hk⟩
 · exact hk
 · exact hk _ (F.put hN)
theorem oCallVP {x:Operand} {xs:List Operand} {ts:Array TypeId} {vs:List Value} {v:Value} {R:Ending→World→Prop} (F:Has N a env) (hN:Nat.blt d N=true)
   (hx:ev env x=some v) (hv:evL env xs=some vs) (hc:CallsF P v vs w R)
   (K:∀ e w,R e w→(∃ ch,e = .panicked ch∧Q (.panic ch) a w)∨∃ v,e = .returned v∧∀ a,Has N a ((d,v) :: env)→Kt a w):(Oper.mk (some d) (.call ⟨.value x,xs.toArray,ts⟩) ty pos af g).wp P a w Kt Q:=by
 obtain ⟨f,fi,ca,rfl,hcall,hc⟩:=hc
 unfold Oper.wp
 have hr:(execOp a.eval ⟨some d,.call ⟨.value x,xs.toArray,ts⟩,ty,pos,af,g⟩).run P w = .ok (.enter f (fi++vs++ca).toArray) w:=by
   simp only [execOp,resolve,List.map_toArray,F.evals hv,F.eval hx]
   simp [Deferred.ofValue,invoke,hcall,go_sem]
 rw [hr,Oper.upon_enter]
 refine hc.mono fun e w' he=>?_
 rcases K e w' he with ⟨ch,rfl,hk⟩ | ⟨v,rfl,hk⟩
 · exact hk
 · exact hk _ (F.put hN)
theorem sPanic {x:Operand} {t:TypeId} {v:Value} (F:Has N a env) (hg:wants l env g=true) (hx:ev env x=some (.iface t v)) (K:Q (.panic [{ v:=.iface t v,recovered:=false }]) a w):wpList P l.toArray Q (⟨none,.panic x,ty,pos,af,g⟩ :: rest) a w:=by
 unfold wpList
 rw [if_pos (wanted_of (o:=⟨none,.panic x,ty,pos,af,g⟩) F hg)];refine .inl ?_
 unfold Oper.wp
 have hr:(execOp a.eval ⟨none,.panic x,ty,pos,af,g⟩).run P w = .halt (.panic (.iface t v)) w:=by
   simp only [execOp,F.eval hx]
   simp [Instr.panic,goPanic,go_sem]
 rw [hr,Oper.upon_panic]
 exact K
/-! ### Maps from strings, by their entries -/
def Res.mpT (b:Nat) (kv:List (ByteArray × Value)):Res where
 foot:=(· = b)
 pred:=fun w=>∃ es clock,w.heap[b]? = some (.map es clock)∧es.toList.map (fun e=>(e.key,e.val))=kv.map fun p=>(.string p.1,p.2)
 loc:=fun _ _ h hp=>by
   obtain ⟨es,c,h1,h2⟩:=hp
   exact ⟨es,c,(h b rfl).trans h1,h2⟩
def findT (k:ByteArray) (kv:List (ByteArray × Value)):Option (ByteArray × Value):=kv.find? fun p=>k == p.1
theorem findNow_T (k:ByteArray):∀ (es:List MapEntry) (kv:List (ByteArray × Value)) (i:Nat),es.map (fun e=>(e.key,e.val))=kv.map (fun p=>(.string p.1,p.2)) →
   ∃ j,Instr.findNow .string (.string k) es i=some ((findT k kv).map fun p=>(j,p.2))
 | [],[],i,_=>⟨0,rfl⟩
 | e :: es,p :: kv,i,h=>by
   simp only [List.map_cons,List.cons.injEq,Prod.mk.injEq] at h
   obtain ⟨⟨h1,h2⟩,h3⟩:=h
   unfold Instr.findNow
   have hs:Instr.sameNow .string (.string k) e.key=some (k == p.1):=by rw [h1];rfl
   rw [hs]
   cases hk:k == p.1 with
   | true=>exact ⟨i,by simp [findT,hk,h2]⟩
   | false=>
     obtain ⟨j,hj⟩:=findNow_T k es kv (i+1) h3
     refine ⟨j,?_⟩
     simp only [findT,List.find?_cons,hk]
     exact hj
 | [],_ :: _,_,h=>by simp at h
 | _ :: _,[],_,h=>by simp at h
theorem checkKey_T {t:TypeId} (ht:P.underlying t=some .string) (e:Bool) (n:Nat) (v:Value) (w:World):(Instr.checkKey e (n+1) t v).run P w = .ok () w:=by
 unfold Instr.checkKey
 simp [run_underlying ht]
theorem findKey_T {t:TypeId} (ht:P.underlying t=some .string) {k:ByteArray} {es:List MapEntry} {kv:List (ByteArray × Value)} (h:es.map (fun e=>(e.key,e.val))=kv.map (fun p=>(.string p.1,p.2))) (w:World) :
   ∃ j,(Instr.findKey t (.string k) es).run P w = .ok ((findT k kv).map fun p=>(j,p.2)) w:=by
 obtain ⟨j,hj⟩:=findNow_T k es kv 0 h
 exact ⟨j,by unfold Instr.findKey;simp [run_underlying ht,hj]⟩
theorem sMkT {t:TypeId} (H:Own w0 row w rs) (F:Has N a env) (hg:wants l env g=true) (hN:Nat.blt d N=true)
   (K:∀ b a w,Has N a ((d,.map (some b)) :: env)→Own w0 row w (.mpT b [] :: rs)→wpList P l.toArray Q rest a w):wpList P l.toArray Q (⟨some d,.makeMap t none,ty,pos,af,g⟩ :: rest) a w:=
 stepV F hg rfl hN (v:=.map (some w.heap.size)) (w':=w.alloc (.map #[] 0)) (by simp [execOp,run_makeMap]) (fun a' F'=>K _ _ _ F' (H.add (.mpT w.heap.size []) ((Below.refl _ _).alloc (Nat.le_refl _) _)
   ⟨#[],0,heap_alloc_new w _,rfl⟩ (fun b hb=>by cases hb;exact ⟨Nat.le_refl _,by simp⟩)))
theorem sInsT {t kt et:TypeId} {m x y:Operand} {b:Nat} {k:ByteArray} {v:Value} {kv:List (ByteArray × Value)} (H:Own w0 row w rs) (i:Nat) (ht:P.underlying t=some (.map kt et)) (hk:P.underlying kt=some .string) (F:Has N a env) (hg:wants l env g=true)
   (hm:ev env m=some (.map (some b))) (hx:ev env x=some (.string k)) (hy:ev env y=some v) (hi:rs[i]? = some (.mpT b kv)) (hn:(findT k kv).isNone=true)
   (K:∀ w,Own w0 row w (rs.set i (.mpT b (kv++[(k,v)])))→wpList P l.toArray Q rest a w):wpList P l.toArray Q (⟨none,.insert t m x y,ty,pos,af,g⟩ :: rest) a w:=by
 obtain ⟨es,clock,h1,h2⟩:=H.pred i _ hi
 obtain ⟨j,hj⟩:=findKey_T (P:=P) hk (k:=k) h2 w
 rw [Option.isNone_iff_eq_none.1 hn] at hj
 have hbs:b < w.heap.size:=by
   rcases Nat.lt_or_ge b w.heap.size with h | h
   · exact h
   · rw [Array.getElem?_eq_none h] at h1;cases h1
 refine stepU F hg rfl (w':={ w with heap:=w.heap.setIfInBounds b (.map (es.push { key:=.string k,val:=v,born:=clock }) (clock+1)) }) ?_ (K _ ?_)
 · simp only [execOp,F.eval hm,F.eval hx,F.eval hy,Instr.mapUpdate,Sem.run_bind,run_underlying ht,Result.andThen_ok]
   have hgo:(getObj b).run P w = .ok (.map es clock) w:=MapKept.run_getObj_map h1
   simp only [hgo,Result.andThen_ok,Sem.run_bind,checkKey_T hk,hj,Option.map_none]
   simp only [MapKept.run_setObj_map _ h1,Result.andThen_ok,Sem.run_pure]
 · refine H.turn i hi _ ?_ (by simp) (fun c hc hne=>by simp [Ne.symm hne]) ⟨es.push { key:=.string k,val:=v,born:=clock },clock+1,by simp [hbs],by simp [h2]⟩ (fun c hc=>⟨.inl hc,by cases hc;simpa using hbs⟩)
   refine ⟨H.grown.os,H.grown.tape,H.grown.output,by simpa using H.grown.size,fun c hc hne=>?_⟩
   have hcb:c ≠ b:=by
     rintro rfl
     rcases (H.foot i _ hi c rfl).1 with h | h
     · omega
     · exact hne h
   rw [← H.grown.block c hc hne]
   simp [Ne.symm hcb]
theorem rLkT {t kt et:TypeId} {m x:Operand} {b:Nat} {k:ByteArray} {z:Value} {kv:List (ByteArray × Value)} (H:Own w0 row w rs) (i:Nat) (ht:P.underlying t=some (.map kt et)) (hk:P.underlying kt=some .string) (hz:∀ w,(zeroValue et).run P w = .ok z w) (F:Has N a env)
   (hm:ev env m=some (.map (some b))) (hx:ev env x=some (.string k)) (hi:rs[i]? = some (.mpT b kv)) :
   (execOp a.eval ⟨some d,.lookup t m x true,ty,pos,af,g⟩).run P w = .ok (.value (.tuple #[((findT k kv).map (·.2)).getD z,.bool (findT k kv).isSome])) w:=by
 obtain ⟨es,clock,h1,h2⟩:=H.pred i _ hi
 obtain ⟨j,hj⟩:=findKey_T (P:=P) hk (k:=k) h2 w
 have hgo:(getObj b).run P w = .ok (.map es clock) w:=MapKept.run_getObj_map h1
 cases hf:findT k kv with
 | some p=>
   rw [hf] at hj
   simp only [execOp,F.eval hm,F.eval hx,Instr.lookup,Sem.run_bind,run_underlying ht,Result.andThen_ok,hgo,Sem.run_pure,checkKey_T hk,hj,Option.map_some,if_true]
   rfl
 | none=>
   rw [hf] at hj
   simp only [execOp,F.eval hm,F.eval hx,Instr.lookup,Sem.run_bind,run_underlying ht,Result.andThen_ok,hgo,Sem.run_pure,checkKey_T hk,hj,Option.map_none,hz,if_true]
   rfl
-- VcP
open Go.RowKit
variable {P:Program} {l:List Oper} {Q:Exit→Act→World→Prop} {N:Nat} {a:Act} {env:List (Nat × Value)} {rest:List Oper} {d:Tmp} {ty:TypeId} {pos:String} {af:Array Edge} {g:Option (Nat × Bool)} {w:World}
theorem rFd {t:TypeId} {x:Operand} {f:Nat} {fs:Array Field} {fd:Field} {cs:List Value} {v:Value} (hs:P.underlying t=some (.struct fs)) (hf:fs[f]? = some fd) (ha:∀ w,(isAgg fd.type).run P w = .ok false w) (F:Has N a env)
   (hx:ev env x=some (.agg cs.toArray)) (hv:cs[fd.offset]? = some v):(execOp a.eval ⟨some d,.field t x f,ty,pos,af,g⟩).run P w = .ok (.value v) w:=by
 simp only [execOp,F.eval hx]
 simp [Instr.field,run_underlying hs,hf,part,ha,hv,asAgg,go_sem]
theorem sFd {t:TypeId} {x:Operand} {f:Nat} {fs:Array Field} {fd:Field} {cs:List Value} {v:Value} (hs:P.underlying t=some (.struct fs)) (hf:fs[f]? = some fd) (ha:∀ w,(isAgg fd.type).run P w = .ok false w) (F:Has N a env) (hg:wants l env g=true) (hN:Nat.blt d N=true)
   (hx:ev env x=some (.agg cs.toArray)) (hv:cs[fd.offset]? = some v)
   (K:∀ a,Has N a ((d,v) :: env)→wpList P l.toArray Q rest a w):wpList P l.toArray Q (⟨some d,.field t x f,ty,pos,af,g⟩ :: rest) a w:=
 stepV F hg rfl hN (rFd hs hf ha F hx hv) K
theorem rMi {t:TypeId} {x:Operand} {fs:Array Field} {v:Value} (hs:P.underlying t=some (.struct fs)) (F:Has N a env) (hx:ev env x=some v):(execOp a.eval ⟨some d,.makeInterface t x,ty,pos,af,g⟩).run P w = .ok (.value (.iface t v)) w:=by
 simp only [execOp,F.eval hx]
 simp [Instr.makeInterface,run_underlying hs,go_sem]
theorem sMi {t:TypeId} {x:Operand} {fs:Array Field} {v:Value} (hs:P.underlying t=some (.struct fs)) (F:Has N a env) (hg:wants l env g=true) (hN:Nat.blt d N=true) (hx:ev env x=some v)
   (K:∀ a,Has N a ((d,.iface t v) :: env)→wpList P l.toArray Q rest a w):wpList P l.toArray Q (⟨some d,.makeInterface t x,ty,pos,af,g⟩ :: rest) a w:=
 stepV F hg rfl hN (rMi hs F hx) K
theorem qMi {t:TypeId} {x:Operand} {fs:Array Field} {v:Value} (hs:P.underlying t=some (.struct fs)) (hg:wants l env g=true) (hN:Nat.blt d N=true) (hx:ev env x=some v) (K:∀ a,Has N a ((d,.iface t v) :: env)→wpList P l.toArray Q rest a w):∀ a,Has N a env→wpList P l.toArray Q (⟨some d,.makeInterface t x,ty,pos,af,g⟩ :: rest) a w:=fun a F=>sMi hs F hg hN hx K
/-! ### Some of the first n parts, in another order, ahead of the rest -/
theorem selT_at {rs:List Res} {n:Nat} {is:List Nat} {qs:List Res} (hs:pickL (rs.take n) is=some qs) {j:Nat} {r:Res} (hj:(qs++rs.drop n)[j]? = some r) :
   ∃ i,rs[i]? = some r∧(j < qs.length∧is[j]? = some i∧i < n∨qs.length≤j∧i=n+(j - qs.length)):=by
 rcases Nat.lt_or_ge j qs.length with h | h
 · rw [List.getElem?_append_left h] at hj
   obtain ⟨i,h1,h2⟩:=pickL_at hs j r hj
   rw [List.getElem?_take] at h2
   split at h2
   · exact ⟨i,h2,.inl ⟨h,h1,‹_›⟩⟩
   · cases h2
 · rw [List.getElem?_append_right h,List.getElem?_drop] at hj
   exact ⟨_,hj,.inr ⟨h,rfl⟩⟩
theorem Own.selT {w0 w:World} {row:Option Nat} {rs:List Res} (H:Own w0 row w rs) (n:Nat) (is:List Nat) {qs:List Res} (hs:pickL (rs.take n) is=some qs) (hn:apartL is=true):Own w0 row w (qs++rs.drop n) where
 grown:=H.grown
 pred:=fun j r hj=>by obtain ⟨i,h1,_⟩:=selT_at hs hj;exact H.pred i r h1
 foot:=fun j r hj=>by obtain ⟨i,h1,_⟩:=selT_at hs hj;exact H.foot i r h1
 apart:=fun j k r u hj hk hjk=>by
   obtain ⟨i,h1,h2⟩:=selT_at hs hj
   obtain ⟨i',h3,h4⟩:=selT_at hs hk
   refine H.apart i i' r u h1 h3 (fun e=>hjk ?_);subst e
   rcases h2 with ⟨a1,a2,a3⟩ | ⟨a1,a2⟩ <;> rcases h4 with ⟨b1,b2,b3⟩ | ⟨b1,b2⟩
   · exact apartL_at hn a2 b2
   · omega
   · omega
   · omega
-- VcX
open Go.RowKit
section
variable {P:Program} {l:List Oper} {Q:Exit→Act→World→Prop} {N:Nat} {a:Act} {env:List (Nat × Value)} {rest:List Oper} {d:Tmp} {ty:TypeId} {pos:String} {af:Array Edge} {g:Option (Nat × Bool)} {w:World}
theorem rBa {t e:TypeId} {n size:Nat} {parts:List (Nat × Operand)} {ps:List (Nat × Value)} {zs:Array Value} {cs:List Value} (hz:∀ w,(zeroValue t).run P w = .ok (.agg zs) w) (hu:P.underlying t=some (.array n e)) (hs:∀ w,(sizeOf e).run P w = .ok size w)
   (F:Has N a env) (he:evP env parts=some ps) (hf:fillL (fun i=>some (i * size,size)) zs.toList ps=some cs) :
   (execOp a.eval ⟨some d,.build t parts.toArray,ty,pos,af,g⟩).run P w = .ok (.value (.agg cs.toArray)) w:=by
 have h1:=fill_of_fillL _ _ _ _ hf
 have h2:(Instr.build t (parts.toArray.map fun (i,x)=>(i,a.eval x))).run P w = .ok (.agg cs.toArray) w:=by
   rw [List.map_toArray,F.parts he]
   have h1':Instr.fill (fun i=>some (i * size,size)) zs ps=some cs.toArray:=by simpa using h1
   simp [Instr.build,run_underlying hu,hz,hs,h1',Value.cells,go_sem]
 simp only [execOp,Sem.run_bind,h2]
 rfl
theorem rMaxN {x y:Operand} {ts:Array TypeId} {i j:Nat} {k k':IntKind} (F:Has N a env) (hx:ev env x=some (.int k (i:Int))) (hy:ev env y=some (.int k' (j:Int))) :
   (execOp a.eval ⟨some d,.call ⟨.builtin .max,#[x,y],ts⟩,ty,pos,af,g⟩).run P w = .ok (.value (.int k ((max i j:Nat):Int))) w:=by
 simp only [execOp,resolve,invoke,builtin,Sem.run_bind,Sem.run_pure,Result.andThen_ok,List.map_toArray,List.map_cons,List.map_nil,F.eval hx,F.eval hy,Builtin.max_,List.foldlM,Builtin.max2]
 congr 4
 split <;> omega
theorem sMaxN {x y:Operand} {ts:Array TypeId} {i j:Nat} {k k':IntKind} (F:Has N a env) (hg:wants l env g=true) (hN:Nat.blt d N=true) (hx:ev env x=some (.int k (i:Int))) (hy:ev env y=some (.int k' (j:Int)))
   (K:∀ a,Has N a ((d,.int k ((max i j:Nat):Int)) :: env)→wpList P l.toArray Q rest a w):wpList P l.toArray Q (⟨some d,.call ⟨.builtin .max,#[x,y],ts⟩,ty,pos,af,g⟩ :: rest) a w:=
 stepV F hg rfl hN (rMaxN F hx hy) K
end
theorem splice_mid (s:List Value):∀ (r z p:List Value),z.length=r.length→splice (p++(z++s)) p.length r=p++(r++s)
 | [],[],p,_=>by simp [splice]
 | v :: r,y :: z,p,h=>by
   have e1:(p++(y :: z++s)).set p.length v=(p++[v])++(z++s):=by simp
   have e2:p.length+1=(p++[v]).length:=by simp
   rw [splice,e1,e2,splice_mid s r z (p++[v]) (by simpa using h)]
   simp
def numP:List (List Value)→Nat→List (Nat × Value)
 | [],_=>[]
 | r :: rs,k=>(k,.agg r.toArray) :: numP rs (k+1)
theorem fill_rows {size:Nat} {zs:List Value} (hz:zs.length=size):∀ (rows:List (List Value)) (k:Nat) (p:List Value),p.length=k * size→(∀ r ∈ rows,r.length=size) →
   fillL (fun i=>some (i * size,size)) (p++rep rows.length zs) (numP rows k)=some (p++rows.flatten)
 | [],k,p,_,_=>by simp [numP,fillL,rep]
 | r :: rs,k,p,hp,hr=>by
   have h1:=hr r (by simp)
   unfold numP fillL
   have e1:(Value.cells (.agg r.toArray)).toList=r:=rfl
   simp only [e1]
   have e2:(Nat.beq r.length size && Nat.ble (k * size+r.length) (p++rep (r :: rs).length zs).length)=true:=by
     rw [h1,Bool.and_eq_true]
     refine ⟨Nat.beq_refl _,Nat.ble_eq_true_of_le ?_⟩
     rw [List.length_append,hp,rep_length,hz,List.length_cons,Nat.add_mul,Nat.one_mul];omega
   rw [e2]
   simp only [cond_true]
   have e3:splice (p++rep (r :: rs).length zs) (k * size) r=(p++r)++rep rs.length zs:=by
     rw [List.length_cons,rep,← hp,splice_mid _ r zs p (by rw [hz,h1]),List.append_assoc]
   rw [e3,fill_rows hz rs (k+1) (p++r) (by rw [List.length_append,hp,h1,Nat.add_mul,Nat.one_mul]) (fun q hq=>hr q (by simp [hq]))]
   simp
section
variable {P:Program} {l:List Oper} {Q:Exit→Act→World→Prop} {N:Nat} {a:Act} {env:List (Nat × Value)} {rest:List Oper} {d:Tmp} {ty:TypeId} {pos:String} {af:Array Edge} {g:Option (Nat × Bool)} {w0 w:World} {row:Option Nat} {rs:List Res}
end
-- VcY
open Go.RowKit
section
variable {P:Program} {l:List Oper} {Q:Exit→Act→World→Prop} {N:Nat} {a:Act} {env:List (Nat × Value)} {rest:List Oper} {d:Tmp} {ty:TypeId} {pos:String} {af:Array Edge} {g:Option (Nat × Bool)}
 {w0 w:World} {row:Option Nat} {rs:List Res} {Kt:Act→World→Prop}
theorem sMk {t e:TypeId} {x y:Operand} {n bytes:Nat} {z:Value} {k k':IntKind} (H:Own w0 row w rs) (ht:P.underlying t=some (.slice e)) (hinfo:(P.info? e).map (fun i=>(i.zero,i.size,i.bytes))=some (some z,1,bytes)) (hz1:z.cells = #[z])
   (F:Has N a env) (hg:wants l env g=true) (hN:Nat.blt d N=true) (hx:ev env x=some (.int k (n:Int))) (hy:ev env y=some (.int k' (n:Int))) (hb:bytes * n≤281474976710656) (h63:n≤9223372036854775807)
   (K:∀ b a w,Has N a ((d,.slice (some ⟨b,0,none⟩) n n) :: env)→Own w0 row w (.blk b (List.replicate n z) e :: rs)→wpList P l.toArray Q rest a w):wpList P l.toArray Q (⟨some d,.makeSlice t x y,ty,pos,af,g⟩ :: rest) a w:=by
 have h2:=run_make_row' (P:=P) t e z bytes ht hinfo hz1 k k' n hb h63 w
 have h3:(execOp a.eval ⟨some d,.makeSlice t x y,ty,pos,af,g⟩).run P w = .ok (.value (.slice (some ⟨w.heap.size,0,none⟩) n n)) (w.alloc (.cells (madeCells #[z] n) e)):=by
   simp only [execOp,F.eval hx,F.eval hy,Sem.run_bind,h2]
   rfl
 refine stepV F hg rfl hN h3 (fun _ F'=>K _ _ _ F' ?_)
 have:=H.alloc (madeCells #[z] n) e
 rw [toList_madeCells_one] at this
 exact this
theorem cpL_run {t e:TypeId} {b o b2 o2 dLen dCap sLen sCap:Nat} {cs news:List Value} {bt:TypeId} (H:Own w0 row w rs) (i:Nat) (ht:P.underlying t=some (.slice e)) (hz:∀ w,(sizeOf e).run P w = .ok 1 w)
   (hr:rs[i]? = some (.blk b cs bt)) (hnews:w.rangeAt b2 o2 news) (hl:news.length=min sLen dLen) (h1:news.all (·.oneCell')=true) (hfit:o+news.length≤cs.length) (ty:TypeId) :
   ∃ w',(Builtin.copy_ #[t,t] ty #[.slice (some ⟨b,o,none⟩) dLen dCap,.slice (some ⟨b2,o2,none⟩) sLen sCap]).run P w = .ok (goInt ((min sLen dLen:Nat):Int)) w'∧Own w0 row w' (rs.set i (.blk b (splice cs o news) bt)):=by
 have hs:(P.info? e).map (·.size)=some 1:=info_size hz
 have hrun:=run_copy_cells (P:=P) w t t ty e b o dLen dCap ⟨b2,o2,none⟩ sLen sCap news ht hs (hl.trans rfl)
   (fun j v hv=>by rw [Addr.add_mid];exact hnews j v hv)
   (fun j hj=>by rw [H.cell i hr (List.getElem?_eq_getElem (by omega))];exact Option.isSome_some) (fun j hj=>(H.blk i hr).frozen _) (fun v hv=>List.all_eq_true.1 h1 v hv)
 rw [hl] at hrun
 exact ⟨_,hrun,H.setCells i news o w rs cs hr⟩
theorem sCpL {t e:TypeId} {x y:Operand} {b o b2 o2 dLen dCap sLen sCap:Nat} {cs news:List Value} {bt:TypeId} (H:Own w0 row w rs) (i:Nat) (ht:P.underlying t=some (.slice e)) (hz:∀ w,(sizeOf e).run P w = .ok 1 w)
   (F:Has N a env) (hg:wants l env g=true) (hN:Nat.blt d N=true) (hx:ev env x=some (.slice (some ⟨b,o,none⟩) dLen dCap)) (hy:ev env y=some (.slice (some ⟨b2,o2,none⟩) sLen sCap))
   (hr:rs[i]? = some (.blk b cs bt)) (hnews:w.rangeAt b2 o2 news) (hl:news.length=min sLen dLen) (h1:news.all (·.oneCell')=true) (hfit:o+news.length≤cs.length)
   (K:∀ a w,Has N a ((d,goInt ((min sLen dLen:Nat):Int)) :: env)→Own w0 row w (rs.set i (.blk b (splice cs o news) bt))→wpList P l.toArray Q rest a w) :
   wpList P l.toArray Q (⟨some d,.call ⟨.builtin .copy,#[x,y],#[t,t]⟩,ty,pos,af,g⟩ :: rest) a w:=by
 obtain ⟨w',h2,h3⟩:=cpL_run (P:=P) (dCap:=dCap) (sCap:=sCap) H i ht hz hr hnews hl h1 hfit ty
 exact stepV F hg rfl hN (cp_exec F hx hy h2) (fun a F'=>K a w' F' h3)
theorem oCpL {t e:TypeId} {x y:Operand} {b o b2 o2 dLen dCap sLen sCap:Nat} {cs news:List Value} {bt:TypeId} (H:Own w0 row w rs) (i:Nat) (ht:P.underlying t=some (.slice e)) (hz:∀ w,(sizeOf e).run P w = .ok 1 w)
   (F:Has N a env) (hN:Nat.blt d N=true) (hx:ev env x=some (.slice (some ⟨b,o,none⟩) dLen dCap)) (hy:ev env y=some (.slice (some ⟨b2,o2,none⟩) sLen sCap))
   (hr:rs[i]? = some (.blk b cs bt)) (hnews:w.rangeAt b2 o2 news) (hl:news.length=min sLen dLen) (h1:news.all (·.oneCell')=true) (hfit:o+news.length≤cs.length)
   (K:∀ a w,Has N a ((d,goInt ((min sLen dLen:Nat):Int)) :: env)→Own w0 row w (rs.set i (.blk b (splice cs o news) bt))→Kt a w) :
   (Oper.mk (some d) (.call ⟨.builtin .copy,#[x,y],#[t,t]⟩) ty pos af g).wp P a w (fun a w=>Kt a w) Q:=by
 obtain ⟨w',h2,h3⟩:=cpL_run (P:=P) (dCap:=dCap) (sCap:=sCap) H i ht hz hr hnews hl h1 hfit ty
 exact oV F rfl hN (cp_exec F hx hy h2) (fun a F'=>K a w' F' h3)
theorem rSlL {t e:TypeId} {x lo:Operand} {b o n c i sz:Nat} {k':IntKind} (ht:P.underlying t=some (.slice e)) (hz:∀ w,(sizeOf e).run P w = .ok sz w) (F:Has N a env) (hx:ev env x=some (.slice (some ⟨b,o,none⟩) n c)) (hl:ev env lo=some (.int k' (i:Int))) (hi:i≤n) (hc:i < c) :
   (execOp a.eval ⟨some d,.slice t x (some lo) none none,ty,pos,af,g⟩).run P w = .ok (.value (.slice (some ⟨b,o+i * sz,none⟩) (n - i) (c - i))) w:=by
 have he:P.elem t=e:=by simp [Program.elem,ht]
 have h1:=run_slice_l (P:=P) w t (some ⟨b,o,none⟩) n c (elem_of ht) k' (i:Int) (by omega) (by omega)
 rw [he,hz] at h1
 have h3:(Instr.slice t (.slice (some ⟨b,o,none⟩) n c) (some (.int k' (i:Int))) none none).run P w = .ok (.slice (some ⟨b,o+i * sz,none⟩) (n - i) (c - i)) w:=by
   rw [h1]
   simp only [Result.andThen_ok,sliced,Int.toNat_natCast]
   rw [if_neg (by omega)]
   simp [Addr.add_mid]
 simp only [execOp,Option.map_some,Option.map_none,F.eval hx,F.eval hl,Sem.run_bind,run_sliceAt_slice w t _ _ _ none (elem_of ht),h3]
 rfl
end
section
variable {P:Program} {t:TypeId} {x y:Operand} {n m:Nat}
theorem u64wrap (n:Int):IntKind.u64.wrap n=n % 18446744073709551616:=by simp [IntKind.wrap,IntKind.signed,IntKind.bits]
theorem wrapU (h:n < 18446744073709551616):IntKind.u64.wrap (n:Int)=(n:Int):=by rw [u64wrap];omega
theorem bMulU (h:n * m < 18446744073709551616):BinR P .mul t x y (.int .u64 (n:Int)) (.int .u64 (m:Int)) (.int .u64 ((n * m:Nat):Int)):=fun w=>by
 have:(do eqGuard .mul t x y (.int .u64 (n:Int)) (.int .u64 (m:Int));binOp .mul t (.int .u64 (n:Int)) (.int .u64 (m:Int)):Sem Value).run P w = .ok (.int .u64 (IntKind.u64.wrap ((n:Int) * (m:Int)))) w:=by simp [eqGuard,binOp,Op.intArith,go_sem]
 rw [this,← Int.natCast_mul,wrapU h]
theorem bAddU (h:n+m < 18446744073709551616):BinR P .add t x y (.int .u64 (n:Int)) (.int .u64 (m:Int)) (.int .u64 ((n+m:Nat):Int)):=fun w=>by
 rw [bAdd w,← Int.natCast_add,wrapU h]
theorem bShrU (h:n < 4294967296):BinR P .shr t x y (.int .u64 (n:Int)) (.int .u64 32) (.int .u64 ((0:Nat):Int)):=fun w=>by
 have h2:Op.shift .shr .u64 (n:Int) .u64 32=pure (.int .u64 ((n:Int) / 2 ^ (32:Int).toNat)):=shift_shr .u64 .u64 (n:Int) 32 (by omega) (by decide)
 simp only [eqGuard_shr,binOp_shr,h2]
 show Result.ok (Value.int .u64 ((n:Int) / 2 ^ (32:Int).toNat)) w=_
 have e:(n:Int) / 2 ^ (32:Int).toNat=((0:Nat):Int):=by
   show (n:Int) / 4294967296=((0:Nat):Int)
   omega
 rw [e]
theorem bAndU (h:n < 4294967296):BinR P .and t x y (.int .u64 (n:Int)) (.int .u64 4294967295) (.int .u64 (n:Int)):=fun w=>by
 simp only [eqGuard,binOp,Op.intBits,go_sem]
 show Result.ok (Value.int .u64 (IntKind.u64.wrap ((BitVec.ofInt 64 (n:Int) &&& BitVec.ofInt 64 4294967295).toNat:Int))) w=_
 have e1:(BitVec.ofInt 64 (n:Int) &&& BitVec.ofInt 64 4294967295).toNat=n:=by
   rw [BitVec.toNat_and,BitVec.ofInt_natCast,BitVec.toNat_ofNat]
   have:(BitVec.ofInt 64 4294967295).toNat=2 ^ 32 - 1:=by decide
   rw [this,Nat.and_two_pow_sub_one_eq_mod]
   omega
 rw [e1,wrapU (by omega)]
end
theorem Own.turned {w0 w w':World} {row:Option Nat} {rs:List Res} {b:Nat} {cs cs':List Value} {t:TypeId} (H:Own w0 row w rs) (i:Nat) (hi:rs[i]? = some (.blk b cs t)) (H2:Own w (some b) w' [.blk b cs' t]):Own w0 row w' (rs.set i (.blk b cs' t)) where
 grown:=by
   have hb:=H.foot i _ hi b rfl
   refine ⟨?_,?_,?_,Nat.le_trans H.grown.size H2.grown.size,fun j hj hne=>?_⟩
   · rw [H2.grown.os,H.grown.os]
   · rw [H2.grown.tape,H.grown.tape]
   · rw [H2.grown.output,H.grown.output]
   · rw [H2.grown.block j (Nat.lt_of_lt_of_le hj H.grown.size) (fun e=>by
       cases e
       rcases hb.1 with h | h
       · omega
       · exact hne h),H.grown.block j hj hne]
 pred:=fun j r hj=>by
   rw [List.getElem?_set] at hj
   split at hj
   · split at hj
     · cases hj;exact H2.pred 0 _ rfl
     · cases hj
   · rename_i hne
     refine r.loc w w' (fun c hc=>?_) (H.pred j r hj)
     have hcb:=H.foot j r hj c hc
     refine H2.grown.block c hcb.2 (fun e=>?_)
     have e:c=b:=Option.some.inj e
     exact H.apart j i r _ hj hi (fun e=>hne e.symm) c hc e
 foot:=fun j r hj c hc=>by
   rw [List.getElem?_set] at hj
   split at hj
   · split at hj
     · cases hj
       exact ⟨(H.foot i _ hi c hc).1,Nat.lt_of_lt_of_le (H.foot i _ hi c hc).2 H2.grown.size⟩
     · cases hj
   · exact ⟨(H.foot j r hj c hc).1,Nat.lt_of_lt_of_le (H.foot j r hj c hc).2 H2.grown.size⟩
 apart:=fun j k r s hj hk hjk c hc hs=>by
   have key:∀ (j:Nat) (r:Res),(rs.set i (.blk b cs' t))[j]? = some r→∃ r',rs[j]? = some r'∧∀ c,r.foot c ↔ r'.foot c:=fun j r hj=>by
     rw [List.getElem?_set] at hj
     split at hj
     · rename_i e
       split at hj
       · cases hj;subst e;exact ⟨_,hi,fun c=>Iff.rfl⟩
       · cases hj
     · exact ⟨r,hj,fun c=>Iff.rfl⟩
   obtain ⟨r',h1,h2⟩:=key j r hj
   obtain ⟨s',h3,h4⟩:=key k s hk
   exact H.apart j k r' s' h1 h3 hjk c ((h2 c).1 hc) ((h4 c).1 hs)
-- VcZ
open Go.RowKit
section
variable {P:Program} {l:List Oper} {Q:Exit→Act→World→Prop} {N:Nat} {a:Act} {env:List (Nat × Value)} {rest:List Oper} {d:Tmp} {ty:TypeId} {pos:String} {af:Array Edge} {g:Option (Nat × Bool)}
 {w0 w:World} {row:Option Nat} {rs:List Res} {Kt:Act→World→Prop}
theorem Own.fuse {r s:Res} (H:Own w0 row w (r :: s :: rs)) (r':Res) (hp:r'.pred w) (hf:∀ b,r'.foot b→r.foot b∨s.foot b):Own w0 row w (r' :: rs) where
 grown:=H.grown
 pred:=fun i q hi=>by
   cases i with
   | zero=>cases hi;exact hp
   | succ i=>exact H.pred (i+2) q hi
 foot:=fun i q hi b hb=>by
   cases i with
   | zero=>
     cases hi
     rcases hf b hb with h | h
     · exact H.foot 0 r rfl b h
     · exact H.foot 1 s rfl b h
   | succ i=>exact H.foot (i+2) q hi b hb
 apart:=fun i j q u hi hj hij b h1 h2=>by
   cases i with
   | zero=>
     cases hi
     cases j with
     | zero=>exact hij rfl
     | succ j=>
       rcases hf b h1 with h | h
       · exact H.apart 0 (j+2) r u rfl hj (by omega) b h h2
       · exact H.apart 1 (j+2) s u rfl hj (by omega) b h h2
   | succ i=>
     cases j with
     | zero=>
       cases hj
       rcases hf b h2 with h | h
       · exact H.apart 0 (i+2) r q rfl hi (by omega) b h h1
       · exact H.apart 1 (i+2) s q rfl hi (by omega) b h h1
     | succ j=>exact H.apart (i+2) (j+2) q u hi hj (by omega) b h1 h2
theorem Own.void (H:Own w0 row w rs) (r:Res) (hp:r.pred w) (hf:∀ b,¬ r.foot b):Own w0 row w (r :: rs):=
 H.add r (Below.refl _ _) hp (fun b hb=>absurd hb (hf b))
theorem Own.seen {r:Res} (H:Own w0 row w (r :: rs)) (r':Res) (hp:r'.pred w) (hf:∀ b,r'.foot b→r.foot b):Own w0 row w (r' :: rs):=
 (H.void ⟨fun _=>False,fun _=>True,fun _ _ _ _=>trivial⟩ trivial (fun _ h=>h)).fuse r' hp (fun b hb=>.inr (hf b hb))
theorem Own.emptyRws {b:Nat} {e:TypeId} (H:Own w0 row w (.blk b [] e :: rs)) (sz:Nat):Own w0 row w (.rws e sz (.slice (some ⟨b,0,.none⟩) 0 0) [] :: rs):=
 H.seen _ (show w.ownsRow 0 e sz (.slice (some ⟨b,0,.none⟩) 0 0) 0 [] from ⟨by simp,.inr ⟨b,0,#[],rfl,Nat.zero_le _,H.blk 0 rfl,Nat.le_refl _,Nat.zero_le _,by simp,by simp⟩⟩)
   (fun c hc=>by
     have:b=c:=by simpa [Res.rws,Res.arr,Value.ownBlock] using hc
     exact this.symm)
theorem appM_run {t e:TypeId} {v:Value} {rows news:List (List Value)} {ad:Addr} {m c:Nat} {ti:TypeInfo} {z:Value} {sz bytes:Nat} (H:Own w0 row w rs) (i:Nat) (ht:P.underlying t=some (.slice e))
   (hi:∀ w,(typeInfo e).run P w = .ok ti w) (hz:ti.zero=some z) (hsize:ti.size=sz) (hby:ti.bytes=bytes) (hzs:z.cells.size=sz) (hsz:Nat.blt 0 sz=true) (hb1:Nat.blt 0 bytes=true)
   (hr:rs[i]? = some (.rws e sz v rows)) (hm:news.length=m) (hnews:∀ j u,news.flatten[j]? = some u→w.cell? (ad.add j)=some u) (hl:∀ r ∈ news,r.length=sz) (h1:∀ r ∈ news,r.all (·.oneCell')=true) (hb:(rows.length+m) * bytes≤140737488355328) (ty:TypeId) :
   ∃ A c' w',(Builtin.append_ #[t,t] ty #[v,.slice (some ad) m c]).run P w = .ok (.slice A (rows++news).length c') w'∧Own w0 row w' (rs.set i (.rws e sz (.slice A (rows++news).length c') (rows++news))):=by
 have hsz':=Nat.blt_eq.mp hsz
 have hb1':=Nat.blt_eq.mp hb1
 have hfl:∀ (q:List (List Value)),(∀ r ∈ q,r.length=sz)→q.flatten.length=q.length * sz:=by
   intro q hq
   induction q with
   | nil=>simp
   | cons r0 rest ih=>rw [List.flatten_cons,List.length_append,ih (fun r hm=>hq r (by simp [hm])),hq r0 (by simp),List.length_cons,Nat.add_mul];omega
 have hlen:rows.length+m≤140737488355328:=Nat.le_trans (Nat.le_mul_of_pos_right _ hb1') hb
 obtain ⟨v',w',hrun,hown,hgr,_,hat⟩:=run_append_own_at (P:=P) w 0 t ty e ti z sz bytes ht (info_of hi) hz hsize hby hzs hsz' v rows.length rows.flatten (H.arr i hr) ad m c news.flatten (by rw [hfl news hl,hm])
   hnews (fun u hu=>by
     obtain ⟨r,hr1,hr2⟩:=List.mem_flatten.1 hu
     exact (List.all_eq_true.1 (h1 r hr1)) u hr2) (by simp only [maxLen];omega) hb (Nat.zero_le _)
 have e1:(rows++news).length=rows.length+m:=by rw [List.length_append,hm]
 obtain ⟨A,c',rfl⟩:∃ A c',v' = .slice A (rows++news).length c':=by
   rcases hown.2 with ⟨h2,h3⟩ | ⟨g,cap,cur,h2,_⟩
   · exact ⟨none,0,by rw [e1,h3];exact h2⟩
   · exact ⟨_,cap,by rw [e1];exact h2⟩
 refine ⟨A,c',w',hrun,?_⟩
 have hlt:∀ k,(Value.slice A (rows++news).length c').ownBlock=some k→k < w'.heap.size:=fun k hk=>(hown.lt k hk).2
 refine H.turn i hr _ ?_ hgr.size (fun b hb hnb=>hgr.block b hb (fun e=>hnb (show v.ownBlock=some b from e.symm))) ?_ ?_
 · refine ⟨hgr.os.trans H.grown.os,hgr.tape.trans H.grown.tape,hgr.output.trans H.grown.output,Nat.le_trans H.grown.size hgr.size,fun k hk hne=>?_⟩
   refine (hgr.block k (Nat.lt_of_lt_of_le hk H.grown.size) (fun e=>?_)).trans (H.grown.block k hk hne)
   rcases (H.foot i _ hr k (show v.ownBlock=some k from e.symm)).1 with h | h
   · exact absurd hk (by omega)
   · exact hne h
 · show w'.ownsRow 0 e sz _ (rows++news).length (rows++news).flatten
   rw [List.flatten_append];rw [e1] at hown ⊢
   exact hown
 · intro b hb
   have hb:(Value.slice A (rows++news).length c').ownBlock=some b:=hb
   refine ⟨?_,hlt b hb⟩
   rcases hat with h | h
   · exact .inl (show v.ownBlock=some b from h ▸ hb)
   · rw [hb] at h
     cases h
     exact .inr (Nat.le_refl _)
theorem sAppM {t e:TypeId} {s x:Operand} {v:Value} {rows news:List (List Value)} {ad:Addr} {m c:Nat} {ti:TypeInfo} {z:Value} {sz bytes:Nat} (H:Own w0 row w rs) (i:Nat) (ht:P.underlying t=some (.slice e))
   (hi:∀ w,(typeInfo e).run P w = .ok ti w) (hz:ti.zero=some z) (hsize:ti.size=sz) (hby:ti.bytes=bytes) (hzs:z.cells.size=sz) (hsz:Nat.blt 0 sz=true) (hb1:Nat.blt 0 bytes=true)
   (F:Has N a env) (hg:wants l env g=true) (hN:Nat.blt d N=true) (hs:ev env s=some v) (hx:ev env x=some (.slice (some ad) m c))
   (hr:rs[i]? = some (.rws e sz v rows)) (hm:news.length=m) (hnews:∀ j u,news.flatten[j]? = some u→w.cell? (ad.add j)=some u) (hl:∀ r ∈ news,r.length=sz) (h1:∀ r ∈ news,r.all (·.oneCell')=true) (hb:(rows.length+m) * bytes≤140737488355328)
   (K:∀ A c a w,Has N a ((d,.slice A (rows++news).length c) :: env)→Own w0 row w (rs.set i (.rws e sz (.slice A (rows++news).length c) (rows++news)))→wpList P l.toArray Q rest a w) :
   wpList P l.toArray Q (⟨some d,.call ⟨.builtin .append,#[s,x],#[t,t]⟩,ty,pos,af,g⟩ :: rest) a w:=by
 obtain ⟨A,c',w',h2,h3⟩:=appM_run (P:=P) (c:=c) H i ht hi hz hsize hby hzs hsz hb1 hr hm hnews hl h1 hb ty
 exact stepV F hg rfl hN (app_exec (ty':=ty) F hs hx h2) (fun a F'=>K A c' a w' F' h3)
theorem bNil {t e:TypeId} {x y:Operand} {A:Option Addr} {n c:Nat} (ht:P.underlying t=some (.slice e)):BinR P .eql t x y (.slice A n c) (.slice none 0 0) (.bool A.isNone):=fun w=>by
 have h0:(eqGuard .eql t x y (.slice A n c) (.slice none 0 0)).run P w = .ok () w:=by
   simp [eqGuard,run_underlying ht,go_sem]
 cases A with
 | none=>simp only [Sem.run_bind,h0,Result.andThen_ok];exact Lib.run_eql_slice_nil_nil w _ _ ht
 | some a=>simp only [Sem.run_bind,h0,Result.andThen_ok];exact Lib.run_eql_slice_some_nil w a _ _ ht
theorem oBsR {t e:TypeId} {size:Nat} {parts:List (Nat × Operand)} {rows:List (List Value)} {z:Value} (H:Own w0 row w rs) (ht:P.underlying t=some (.slice e)) (hs:∀ w,(sizeOf e).run P w = .ok size w) (hz:∀ w,(zeroValue e).run P w = .ok z w) (hzs:z.cells.size=size)
   (F:Has N a env) (hN:Nat.blt d N=true) (he:evP env parts=some (numP rows 0)) (hn:Nat.ble (rows.length * size) 16777216=true) (hr:(rows.all fun r=>Nat.beq r.length size)=true)
   (K:∀ b a w,Has N a ((d,.slice (some ⟨b,0,.none⟩) rows.length rows.length) :: env)→Own w0 row w (.blk b rows.flatten e :: rs)→Kt a w):(Oper.mk (some d) (.buildSlice t rows.length parts.toArray) ty pos af g).wp P a w Kt Q:=
 oBs H ht hs hz hzs F hN he hn (fill_rows (size:=size) (by rw [Array.length_toList];exact hzs) rows 0 [] (by simp) (fun r hm=>Nat.eq_of_beq_eq_true (List.all_eq_true.1 hr r hm))) K
theorem bRetC1 {fn:Func} {R:Ending→World→Prop} {t u:Tmp} {st:TypeId} {b n:Nat} {cs:List Value} {bt:TypeId} {dd:TypeDesc} {y:Value} (hres:fn.results = #[.cell t st,.tmp u]) (F:Has N a env) (hv:lk env t=some (.pointer (some ⟨b,0,.none⟩))) (hy:lk env u=some y)
   (hu:P.underlying st=some dd) (hdd:dd.isRow=true) (H:Own w0 row w rs) (i:Nat) (hi:rs[i]? = some (.blk b cs bt)) (hz:∀ w,(sizeOf st).run P w = .ok n w) (hn:Nat.beq cs.length n=true) (h:R (.returned (.tuple #[.agg cs.toArray,y])) w):bodyPost P fn R .ret a w:=
 bodyPost_ret (results_own_tmp hres F hv hy hu hdd (by rw [Nat.eq_of_beq_eq_true hn];exact info_size hz) (H.blk i hi)) F.nod h
theorem RowsAt.flat {w:World} {A:Addr} {sz:Nat} {rows:List (List Value)} (h:RowsAt w (some A) sz rows) (hl:∀ r ∈ rows,r.length=sz):∀ j u,rows.flatten[j]? = some u→w.cell? (A.add j)=some u:=by
 have key:∀ (rows:List (List Value)) (o:Nat),(∀ r ∈ rows,r.length=sz)→(∀ (j:Nat) (cs:List Value),rows[j]? = some cs→∃ b off,A=⟨b,off,none⟩∧w.rangeAt b (off+(o+j) * sz) cs)→∀ j u,rows.flatten[j]? = some u→w.cell? (A.add (o * sz+j))=some u:=by
   intro rows
   induction rows with
   | nil=>intro o _ _ j u hu;simp at hu
   | cons r rest ih=>
     intro o hl h j u hu
     have hr:r.length=sz:=hl r (by simp)
     rw [List.flatten_cons] at hu
     rcases Nat.lt_or_ge j r.length with hj | hj
     · rw [List.getElem?_append_left hj] at hu
       obtain ⟨b,off,rfl,h2⟩:=h 0 r rfl
       have:=h2 j u hu
       rw [Addr.add_mid,← Nat.add_assoc]
       simpa using this
     · rw [List.getElem?_append_right hj] at hu
       have:=ih (o+1) (fun r hm=>hl r (by simp [hm])) (fun k cs hk=>by
         obtain ⟨b,off,h1,h2⟩:=h (k+1) cs hk
         exact ⟨b,off,h1,by rw [show o+1+k=o+(k+1) by omega];exact h2⟩) (j - r.length) u hu
       rw [Nat.add_mul,Nat.one_mul,← hr,Nat.add_assoc,show r.length+(j - r.length)=j by omega] at this;rw [← hr]
       exact this
 intro j u hu
 have:=key rows 0 hl (fun k cs hk=>by
   obtain ⟨b,off,h1,h2⟩:=h k cs hk
   exact ⟨b,off,Option.some.inj h1,by rw [Nat.zero_add];exact h2⟩) j u hu
 simpa using this
end
end Go.Proofs.YtkchaoajegkadaaGreatDoor
