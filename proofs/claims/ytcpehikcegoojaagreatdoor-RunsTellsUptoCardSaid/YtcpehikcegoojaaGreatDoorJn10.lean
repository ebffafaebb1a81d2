/-
  WALK2. Maps whose keys are structs of bytes. Conditions: none.
-/
import Derived.Test.YtcpehikcegoojaaGreatDoorVcL
import Derived.Shelf.GgSortFunc.InsertionK
import Derived.Test.YtcpehikcegoojaaGreatDoorJn1
import Derived.Deep.OwnRows
import Derived.Laws.OwnMore
import Derived.Laws.IdiomCopy
import Derived.Lib.BufferMore
import Derived.Test.YtcpehikcegoojaaGreatDoorJn9
import Derived.Shelf.SlSortCmp.WholeK
import Derived.Shelf.SlicesQ.Reverse
import Derived.Test.YtcpehikcegoojaaGreatDoorProg
set_option linter.unusedSimpArgs false
set_option linter.unusedVariables false
namespace Go.Proofs.YtcpehikcegoojaaGreatDoor
-- VcI
open Go.RowKit
section
variable {P:Program} {l:List Oper} {Q:Exit→Act→World→Prop} {N:Nat} {a:Act} {env:List (Nat × Value)} {rest:List Oper} {d:Tmp} {ty:TypeId} {pos:String} {af:Array Edge} {g:Option (Nat × Bool)}
 {w0 w:World} {row:Option Nat} {rs:List Res} {Kt:Act→World→Prop}
def CkT (P:Program) (D:Nat) (t:TypeId) (n:Nat) (ag:Bool):Prop:=∀ (em:Bool) (d:Nat) (w:World) (vs:List Value),vs.length=n→(Instr.checkKey em (d+D) t (pk ag vs)).run P w = .ok () w
theorem CkT.up {D n:Nat} {t:TypeId} {ag:Bool} (h:CkT P D t n ag) (m:Nat):CkT P (D+m) t n ag:=fun em d w vs hl=>by
 have:=h em (d+m) w vs hl
 rwa [show d+(D+m)=d+m+D by omega]
theorem XeV {t:TypeId} {k:IntKind} (hu:P.underlying t=some (.int k)):CkT P 1 t 1 false:=fun em d w vs _=>by
 unfold Instr.checkKey
 simp [run_underlying hu]
theorem XeW {D n m:Nat} {t e:TypeId} {ag:Bool} (hu:P.underlying t=some (.array m e)) (hs:∀ w,(sizeOf e).run P w = .ok n w) (ha:∀ w,(isAgg e).run P w = .ok ag w) (h1:ag=false→n=1) (h:CkT P D e n ag):CkT P (D+1) t (m * n) true:=fun em d w vs hl=>by
 show (Instr.checkKey em (d+D+1) t (.agg vs.toArray)).run P w=_
 rw [Instr.checkKey]
 simp only [Sem.run_bind,run_underlying hu,Result.andThen_ok]
 simp only [Std.Legacy.Range.forIn_eq_forIn_range',Std.Legacy.Range.size,Nat.sub_zero,Nat.add_one_sub_one,Nat.div_one]
 have each:∀ j ∈ List.range' 0 m,j < m:=fun j hj=>by simpa using hj
 generalize List.range' 0 m=is at each
 induction is with
 | nil=>simp
 | cons j is ih=>
   have hj:=each j (by simp)
   have hle:j * n+n≤vs.length:=by
     have:=Nat.mul_le_mul_right n (show j+1≤m from hj)
     rw [Nat.add_mul] at this
     omega
   have p1:=Mv (P:=P) (vs:=vs) (off:=j * n) w hs ha h1 hle
   have p2:=h em d w ((vs.drop (j * n)).take n) (by rw [List.length_take,List.length_drop];omega)
   simp only [List.forIn_cons,Sem.run_bind,hs,Result.andThen_ok,p1,p2,Sem.run_pure]
   exact ih (fun y hy=>each y (by simp [hy]))
def CkF (P:Program) (D n:Nat):List Field→Prop
 | []=>True
 | f :: r => (f.name != "_") = true ∧ (∃ m ag, (∀ w, (sizeOf f.type).run P w = .ok m w) ∧ (∀ w, (isAgg f.type).run P w = .ok ag w) ∧ (ag = false → m = 1) ∧ f.offset + m ≤ n ∧ CkT P D f.type m ag) ∧ CkF P D n r
theorem Xa4 {D n:Nat} {t:TypeId} {fs:Array Field} (hu:P.underlying t=some (.struct fs)) (h:CkF P D n fs.toList):CkT P (D+1) t n true:=fun em d w vs hl=>by
 show (Instr.checkKey em (d+D+1) t (.agg vs.toArray)).run P w=_
 rw [Instr.checkKey]
 simp only [Sem.run_bind,run_underlying hu,Result.andThen_ok]
 rw [← Array.forIn_toList]
 generalize fs.toList=L at h
 induction L with
 | nil=>simp
 | cons f L ih=>
   obtain ⟨hn,⟨m,ag,hs,ha,h1,hle,hc⟩,hr⟩:=h
   have hn : f.name ≠ "_" := by simpa using hn
   have p1:=Mv (P:=P) (vs:=vs) (off:=f.offset) w hs ha h1 (by omega)
   have p2:=hc em d w ((vs.drop f.offset).take m) (by rw [List.length_take,List.length_drop];omega)
   simp only [List.forIn_cons,Sem.run_bind,hn,ne_eq,not_false_eq_true,if_true,Result.andThen_ok,p1,p2,Sem.run_pure]
   exact ih hr
def Res.mpS (b n:Nat) (ks:List By):Res where
 foot:=(· = b)
 pred:=fun w=>∃ es clock,w.heap[b]? = some (.map es clock)∧es.toList.map (fun e=>(e.key,e.val))=ks.map fun s=>(.agg (bs n s).toArray,.bool true)
 loc:=fun _ _ h hp=>by
   obtain ⟨es,c,h1,h2⟩:=hp
   exact ⟨es,c,(h b rfl).trans h1,h2⟩
structure KeyS (P:Program) (t:TypeId) (n:Nat):Prop where
 wide:∃ fs,P.underlying t=some (.struct fs)
 eq:∀ (w:World) (u v:By),(Op.equal t (.agg (bs n u).toArray) (.agg (bs n v).toArray)).run P w = .ok (same n u v) w
 ck:∀ (em:Bool) (w:World) (u:By),(Instr.checkKey em 10000 t (.agg (bs n u).toArray)).run P w = .ok () w
theorem keyS {D D2 n:Nat} {t:TypeId} {fs:Array Field} (hu:P.underlying t=some (.struct fs)) (h:EqT P D t (List.replicate n .u8) true) (hD:Nat.ble D 10000=true) (hc:CkT P D2 t n true) (hD2:Nat.ble D2 10000=true):KeyS P t n where
 wide:=⟨fs,hu⟩
 eq:=fun w u v=>by
   have hD:=Nat.le_of_ble_eq_true hD
   have:=h (10000 - D) w (bs n u) (bs n v) (by rw [Ln];have:=NL ((List.range n).map u);simpa using this) (by rw [Ln];have:=NL ((List.range n).map v);simpa using this)
   rw [show 10000 - D+D=10000 by omega,Ln,Ln,E2] at this;rw [Ln,Ln]
   exact this
 ck:=fun em w u=>by
   have hD:=Nat.le_of_ble_eq_true hD2
   have:=hc em (10000 - D2) w (bs n u) (bs_length _ _)
   rwa [show 10000 - D2+D2=10000 by omega] at this
theorem Xb5 {t:TypeId} {n:Nat} (hk:KeyS P t n) (u:By):∀ (es:List MapEntry) (ks:List By) (i:Nat),es.map (fun e=>(e.key,e.val))=ks.map (fun s=>(.agg (bs n s).toArray,.bool true)) →
   ∃ r,(Instr.findAsking t (.agg (bs n u).toArray) es i).run P w = .ok r w∧(ks.any (fun y=>same n u y)=true→∃ j,r=some (j,.bool true))∧(ks.any (fun y=>same n u y)=false→r=none)
 | [],[],i,_=>⟨none,by simp [Instr.findAsking],fun h=>by simp at h,fun _=>rfl⟩
 | e :: es,y :: ks,i,h=>by
   simp only [List.map_cons,List.cons.injEq,Prod.mk.injEq] at h
   obtain ⟨⟨h1,h2⟩,h3⟩:=h
   have he:=hk.eq w u y
   rw [← h1] at he
   cases hs:same n u y with
   | true=>
     rw [hs] at he
     refine ⟨some (i,.bool true),by simp [Instr.findAsking,he,h2],fun _=>⟨i,rfl⟩,fun hh=>by simp [hs] at hh⟩
   | false=>
     rw [hs] at he
     obtain ⟨r,hr,hr1,hr2⟩:=Xb5 hk u es ks (i+1) h3
     refine ⟨r,by simp [Instr.findAsking,he,hr],fun hh=>hr1 (by simpa [hs] using hh),fun hh=>hr2 (by simpa [hs] using hh)⟩
 | [],_ :: _,_,h=>by simp at h
 | _ :: _,[],_,h=>by simp at h
theorem Xb3 {t:TypeId} {n:Nat} (hk:KeyS P t n) (u:By) {es:List MapEntry} {ks:List By} (h:es.map (fun e=>(e.key,e.val))=ks.map (fun s=>(.agg (bs n s).toArray,.bool true))) (w:World) :
   ∃ r,(Instr.findKey t (.agg (bs n u).toArray) es).run P w = .ok r w∧(ks.any (fun y=>same n u y)=true→∃ j,r=some (j,.bool true))∧(ks.any (fun y=>same n u y)=false→r=none):=by
 obtain ⟨fs,hu⟩:=hk.wide
 obtain ⟨r,hr,hr1,hr2⟩:=Xb5 (w:=w) hk u es ks 0 h
 cases es with
 | nil=>
   refine ⟨none,by simp [Instr.findKey,run_underlying hu,Instr.findNow],fun hh=>?_,fun _=>rfl⟩
   cases ks with
   | nil=>simp at hh
   | cons _ _=>simp at h
 | cons e es=>
   refine ⟨r,?_,hr1,hr2⟩
   unfold Instr.findKey
   simp only [Sem.run_bind,run_underlying hu,Result.andThen_ok,Instr.findNow,Instr.sameNow]
   exact hr
theorem sMkS {t:TypeId} (n:Nat) (H:Own w0 row w rs) (F:Has N a env) (hg:JK l env g=true) (hN:Nat.blt d N=true)
   (K:∀ b a w,Has N a ((d,.map (some b)) :: env)→Own w0 row w (.mpS b n [] :: rs)→wpList P l.toArray Q rest a w):wpList P l.toArray Q (⟨some d,.makeMap t none,ty,pos,af,g⟩ :: rest) a w:=
 Q2 F hg rfl hN (v:=.map (some w.heap.size)) (w':=w.alloc (.map #[] 0)) (by simp [execOp,run_makeMap]) (fun a' F'=>K _ _ _ F' (H.add (.mpS w.heap.size n []) ((Below.refl _ _).alloc (Nat.le_refl _) _)
   ⟨#[],0,heap_alloc_new w _,rfl⟩ (fun b hb=>by cases hb;exact ⟨Nat.le_refl _,by simp⟩)))
theorem Xgk {t kt et:TypeId} {n b:Nat} {u:By} {ks:List By} (H:Own w0 row w rs) (i:Nat) (ht:P.underlying t=some (.map kt et)) (hk:KeyS P kt n) (hi:rs[i]? = some (.mpS b n ks)) (hn:ks.any (fun y=>same n u y)=false) :
   ∃ w',(Instr.mapUpdate t (.map (some b)) (.agg (bs n u).toArray) (.bool true)).run P w = .ok () w'∧Own w0 row w' (rs.set i (.mpS b n (ks++[u]))):=by
 obtain ⟨es,clock,h1,h2⟩:=H.pred i _ hi
 obtain ⟨r,hr,_,hr2⟩:=Xb3 (P:=P) hk u h2 w
 have hr2:=hr2 hn
 subst hr2
 have hbs:b < w.heap.size:=by
   rcases Nat.lt_or_ge b w.heap.size with h | h
   · exact h
   · rw [Array.getElem?_eq_none h] at h1;cases h1
 refine ⟨{ w with heap:=w.heap.setIfInBounds b (.map (es.push { key:=.agg (bs n u).toArray,val:=.bool true,born:=clock }) (clock+1)) },?_,?_⟩
 · simp only [Instr.mapUpdate,Sem.run_bind,run_underlying ht,Result.andThen_ok]
   have hgo:(getObj b).run P w = .ok (.map es clock) w:=MapKept.run_getObj_map h1
   simp only [hgo,Result.andThen_ok,Sem.run_bind,hk.ck,hr]
   simp only [MapKept.run_setObj_map _ h1]
 · refine H.turn i hi _ ?_ (by simp) (fun c hc hne=>by simp [Ne.symm hne]) ⟨es.push { key:=.agg (bs n u).toArray,val:=.bool true,born:=clock },clock+1,by simp [hbs],by simp [h2]⟩ (fun c hc=>⟨.inl hc,by cases hc;simpa using hbs⟩)
   refine ⟨H.grown.os,H.grown.tape,H.grown.output,by simpa using H.grown.size,fun c hc hne=>?_⟩
   have hcb:c ≠ b:=by
     rintro rfl
     rcases (H.foot i _ hi c rfl).1 with h | h
     · omega
     · exact hne h
   have:=H.grown.block c hc hne
   simpa [Array.getElem?_setIfInBounds,Ne.symm hcb] using this
theorem sInsS {t kt et:TypeId} {m x y:Operand} {n b:Nat} {u:By} {ks:List By} (H:Own w0 row w rs) (i:Nat) (ht:P.underlying t=some (.map kt et)) (hk:KeyS P kt n) (F:Has N a env) (hg:JK l env g=true)
   (hm:ev env m=some (.map (some b))) (hx:ev env x=some (.agg (bs n u).toArray)) (hy:ev env y=some (.bool true)) (hi:rs[i]? = some (.mpS b n ks)) (hn:ks.any (fun y=>same n u y)=false)
   (K:∀ w,Own w0 row w (rs.set i (.mpS b n (ks++[u])))→wpList P l.toArray Q rest a w):wpList P l.toArray Q (⟨none,.insert t m x y,ty,pos,af,g⟩ :: rest) a w:=by
 obtain ⟨w',h1,h2⟩:=Xgk (P:=P) H i ht hk hi hn
 exact Xem F hg rfl (w':=w') (by simp only [execOp,F.eval hm,F.eval hx,F.eval hy,Sem.run_bind,h1,Result.andThen_ok,Sem.run_pure]) (K _ h2)
theorem sUpdS {t kt et:TypeId} {m x y:Operand} {n b:Nat} {u:By} {ks:List By} (H:Own w0 row w rs) (i:Nat) (ht:P.underlying t=some (.map kt et)) (hk:KeyS P kt n) (F:Has N a env) (hg:JK l env g=true)
   (hm:ev env m=some (.map (some b))) (hx:ev env x=some (.agg (bs n u).toArray)) (hy:ev env y=some (.bool true)) (hi:rs[i]? = some (.mpS b n ks)) (hn:ks.any (fun y=>same n u y)=false)
   (K:∀ w,Own w0 row w (rs.set i (.mpS b n (ks++[u])))→wpList P l.toArray Q rest a w):wpList P l.toArray Q (⟨none,.mapUpdate t m x y,ty,pos,af,g⟩ :: rest) a w:=by
 obtain ⟨w',h1,h2⟩:=Xgk (P:=P) H i ht hk hi hn
 exact Xem F hg rfl (w':=w') (by simp only [execOp,F.eval hm,F.eval hx,F.eval hy,Sem.run_bind,h1,Result.andThen_ok,Sem.run_pure]) (K _ h2)
theorem sLkS {t kt et:TypeId} {m x:Operand} {n b:Nat} {u:By} {ks:List By} (H:Own w0 row w rs) (i:Nat) (ht:P.underlying t=some (.map kt et)) (hk:KeyS P kt n) (hz:∀ w,(zeroValue et).run P w = .ok (.bool false) w) (F:Has N a env) (hg:JK l env g=true) (hN:Nat.blt d N=true)
   (hm:ev env m=some (.map (some b))) (hx:ev env x=some (.agg (bs n u).toArray)) (hi:rs[i]? = some (.mpS b n ks))
   (K:∀ a,Has N a ((d,.bool (ks.any fun y=>same n u y)) :: env)→wpList P l.toArray Q rest a w):wpList P l.toArray Q (⟨some d,.lookup t m x false,ty,pos,af,g⟩ :: rest) a w:=
 Q2 F hg rfl hN (by
   obtain ⟨es,clock,h1,h2⟩:=H.pred i _ hi
   obtain ⟨r,hr,hr1,hr2⟩:=Xb3 (P:=P) hk u h2 w
   have hgo:(getObj b).run P w = .ok (.map es clock) w:=MapKept.run_getObj_map h1
   cases hs:ks.any (fun y=>same n u y) with
   | true=>
     obtain ⟨j,rfl⟩:=hr1 hs
     simp only [execOp,F.eval hm,F.eval hx,Instr.lookup,Sem.run_bind,run_underlying ht,Result.andThen_ok,hgo,Sem.run_pure,hk.ck,hr]
     rfl
   | false=>
     have:=hr2 hs
     subst this
     simp only [execOp,F.eval hm,F.eval hx,Instr.lookup,Sem.run_bind,run_underlying ht,Result.andThen_ok,hgo,Sem.run_pure,hk.ck,hr,hz]
     rfl) K
theorem qLkS {t kt et:TypeId} {m x:Operand} {n b:Nat} {u:By} {ks:List By} (H:Own w0 row w rs) (i:Nat) (ht:P.underlying t=some (.map kt et)) (hk:KeyS P kt n) (hz:∀ w,(zeroValue et).run P w = .ok (.bool false) w) (hg:JK l env g=true) (hN:Nat.blt d N=true) (hm:ev env m=some (.map (some b))) (hx:ev env x=some (.agg (bs n u).toArray)) (hi:rs[i]? = some (.mpS b n ks)) (K:∀ a,Has N a ((d,.bool (ks.any fun y=>same n u y)) :: env)→wpList P l.toArray Q rest a w):∀ a,Has N a env→wpList P l.toArray Q (⟨some d,.lookup t m x false,ty,pos,af,g⟩ :: rest) a w:=fun a F=>sLkS H i ht hk hz F hg hN hm hx hi K
theorem E3 {fn:Func} {R:Ending→World→Prop} {t u:Tmp} {st:TypeId} {b n:Nat} {cs:List Value} {bt:TypeId} {dd:TypeDesc} {y:Value} (hres:fn.results = #[.cell t st,.tmp u]) (F:Has N a env) (hv:lk env t=some (.pointer (some ⟨b,0,.none⟩))) (hy:lk env u=some y)
   (hu:P.underlying st=some dd) (hdd:dd.isRow=true) (H:Own w0 row w rs) (i:Nat) (hi:rs[i]? = some (.blk b cs bt)) (hz:∀ w,(sizeOf st).run P w = .ok n w) (hn:Nat.beq cs.length n=true) (h:R (.returned (.tuple #[.agg cs.toArray,y])) w):bodyPost P fn R .ret a w:=
 bodyPost_ret (Bu hres F hv hy hu hdd (by rw [Nat.eq_of_beq_eq_true hn];exact Jz hz) (H.blk i hi)) F.nod h
end
-- RnG
open Go.RowKit Go.Sort
theorem BO {sz:Nat}:∀ (rows:List (List Value)),(∀ r ∈ rows,r.length=sz)→∀ (j:Nat) (cs:List Value),rows[j]? = some cs→∀ (k:Nat) (v:Value),cs[k]? = some v→rows.flatten[j * sz+k]? = some v
 | [],_,j,cs,hj,_,_,_=>by simp at hj
 | r0 :: rest,hr,j,cs,hj,k,v,hk=>by
   have h0:r0.length=sz:=hr r0 (by simp)
   cases j with
   | zero=>
     simp at hj;subst hj
     have:k < r0.length:=(List.getElem?_eq_some_iff.1 hk).1
     rw [List.flatten_cons,List.getElem?_append_left (by omega)];simpa using hk
   | succ j=>
     rw [List.flatten_cons,List.getElem?_append_right (by rw [h0,Nat.add_mul];omega),h0]
     have e1:(j+1) * sz+k - sz=j * sz+k:=by rw [Nat.add_mul];omega
     rw [e1]
     exact BO rest (fun r hm=>hr r (by simp [hm])) j cs (by simpa using hj) k v hk
theorem EV {sz:Nat}:∀ (rows:List (List Value)),(∀ r ∈ rows,r.length=sz)→rows.flatten.length=rows.length * sz
 | [],_=>by simp
 | r0 :: rest,hr=>by rw [List.flatten_cons,List.length_append,EV rest (fun r hm=>hr r (by simp [hm])),hr r0 (by simp),List.length_cons,Nat.add_mul];omega
variable {α:Type} [Inhabited α]
theorem CZ {enc:α→List Value} {k:Nat} (hk:∀ x,(enc x).length=k) (d:Array α):(flatK enc k d).toList=(d.toList.map enc).flatten:=by
 have hr:∀ r ∈ d.toList.map enc,r.length=k:=fun r hm=>by
   obtain ⟨x,_,rfl⟩:=List.mem_map.1 hm
   exact hk x
 have hl:(d.toList.map enc).flatten.length=d.size * k:=by rw [EV _ hr];simp
 apply List.ext_getElem?
 intro t
 by_cases ht:t < d.size * k
 · have k0:0 < k:=by
     rcases Nat.eq_zero_or_pos k with h | h
     · subst h;simp at ht
     · exact h
   have hj:t / k < d.size:=Nat.div_lt_of_lt_mul (by rw [Nat.mul_comm];exact ht)
   have hm:t % k < (enc d[t / k]!).length:=by rw [hk];exact Nat.mod_lt _ k0
   have e:=BO (d.toList.map enc) hr (t / k) (enc d[t / k]!) (by
     rw [List.getElem?_map,Array.getElem?_toList,Array.getElem?_eq_getElem hj,getElem!_pos d _ hj];rfl) (t % k) ((enc d[t / k]!)[t % k]!) (by rw [List.getElem?_eq_getElem hm,getElem!_pos (enc d[t / k]!) _ hm])
   have e1:t / k * k+t % k=t:=by rw [Nat.mul_comm];exact Nat.div_add_mod t k
   rw [e1] at e;rw [e]
   have:=get_flatK enc k d t ht
   rw [← this,Array.getElem?_toList,Array.getElem?_eq_getElem (by simpa using ht),getElem!_pos _ _ (by simpa using ht)]
 · rw [List.getElem?_eq_none (by simp;omega),List.getElem?_eq_none (by omega)]
theorem Xgr {enc:α→List Value} {k:Nat} (hk:∀ x,(enc x).length=k) {w:World} {e:TypeId} {b c:Nat} {d:Array α} (h:w.ownsRow 0 e k (.slice (some ⟨b,0,none⟩) d.size c) d.size (d.toList.map enc).flatten):HoldsK enc k w b 0 d:=by
 obtain ⟨_,⟨h1,_⟩ | ⟨g,cap,cur,h1,_,hg,hc,_,hs,ht⟩⟩:=h
 · cases h1
 · simp only [Value.slice.injEq,Option.some.injEq,Addr.mk.injEq] at h1
   obtain ⟨⟨rfl,_⟩,_,rfl⟩:=h1
   intro j hj
   have hj':j < (flatK enc k d).size:=hj
   rw [size_flatK] at hj
   have hB:Blk w b cur.toList e:=by unfold Blk;simpa using hg
   refine ⟨?_,by rw [Nat.zero_add];exact hB.frozen j⟩
   rw [Nat.zero_add];refine hB.cell j ?_;rw [← CZ hk] at ht
   have:(cur.toList.take (d.size * k))[j]? = some ((flatK enc k d)[j]!):=by
     rw [ht,Array.getElem?_toList,Array.getElem?_eq_getElem hj',getElem!_pos (flatK enc k d) j hj']
   rwa [List.getElem?_take_of_lt hj] at this
theorem XaB (F c:Array Value) (h:F.size≤c.size):(putCells id 0 F c).toList.take F.size=F.toList:=by
 apply List.ext_getElem?
 intro j
 by_cases hj:j < F.size
 · rw [List.getElem?_take_of_lt hj,Array.getElem?_toList,Array.getElem?_toList]
   unfold putCells
   rw [Array.getElem?_mapIdx,Array.getElem?_eq_getElem (show j < c.size by omega),Array.getElem?_eq_getElem hj]
   simp [hj]
 · rw [List.getElem?_eq_none (by rw [List.length_take];omega),List.getElem?_eq_none (by rw [Array.length_toList];omega)]
theorem CD (enc:α→List Value) (k:Nat) (w:World) (b m:Nat) (d':Array α) (os:Array Obj) (j:Nat) (hj:j < w.heap.size):(sortWorldK enc k w b 0 m d' os).heap[j]? = (w.heap.modify b (onCells (putCells id 0 (flatK enc k d'))))[j]?:=by
 show (w.heap.modify b _++os)[j]? = _
 rw [Array.getElem?_append_left (by simpa using hj)]
theorem CC (enc:α→List Value) (k:Nat) (w:World) (b m:Nat) (d':Array α) (os:Array Obj):w.grownBy (sortWorldK enc k w b 0 m d' os) (some b) where
 os:=rfl
 tape:=rfl
 output:=rfl
 size:=by
   show _≤(w.heap.modify b _++os).size
   simp
 block:=fun j hj hne=>by
   rw [CD enc k w b m d' os j hj,Array.getElem?_modify,if_neg (fun e=>hne (by rw [e]))]
theorem Xj8 {enc:α→List Value} {k:Nat} (hk:∀ x,(enc x).length=k) {w:World} {e:TypeId} {b c:Nat} {d d':Array α} (h:w.ownsRow 0 e k (.slice (some ⟨b,0,none⟩) d.size c) d.size (d.toList.map enc).flatten) (hd:d'.size=d.size) (m:Nat) (os:Array Obj) :
   (sortWorldK enc k w b 0 m d' os).ownsRow 0 e k (.slice (some ⟨b,0,none⟩) d'.size c) d'.size (d'.toList.map enc).flatten:=by
 have hr:∀ r ∈ d'.toList.map enc,r.length=k:=fun r hm=>by
   obtain ⟨x,_,rfl⟩:=List.mem_map.1 hm
   exact hk x
 obtain ⟨_,⟨h1,_⟩ | ⟨g,cap,cur,h1,_,hg,hc,hm,hs,ht⟩⟩:=h
 · cases h1
 · simp only [Value.slice.injEq,Option.some.injEq,Addr.mk.injEq] at h1
   obtain ⟨⟨rfl,_⟩,_,rfl⟩:=h1
   have hb:b < w.heap.size:=(Array.getElem?_eq_some_iff.1 hg).1
   refine ⟨by rw [EV _ hr];simp,.inr ⟨b,c,putCells id 0 (flatK enc k d') cur,rfl,Nat.zero_le _,?_,by omega,hm,by unfold putCells;simpa using hs,?_⟩⟩
   · rw [CD enc k w b m d' os b hb,Array.getElem?_modify,if_pos rfl,hg]
     rfl
   · rw [← CZ hk,← size_flatK enc k d']
     refine XaB _ _ ?_;rw [size_flatK,hs,hd]
     exact Nat.mul_le_mul_right k hc
theorem Bl {w0 w w':World} {row:Option Nat} {rs:List Res} {e:TypeId} {k b n c n' c':Nat} {rows rows':List (List Value)} (H:Own w0 row w rs) (i:Nat) (hi:rs[i]? = some (.rws e k (.slice (some ⟨b,0,none⟩) n c) rows)) (hg:w.grownBy w' (some b))
   (h':w'.ownsRow 0 e k (.slice (some ⟨b,0,none⟩) n' c') rows'.length rows'.flatten):Own w0 row w' (rs.set i (.rws e k (.slice (some ⟨b,0,none⟩) n' c') rows')):=by
 have hb:=H.foot i _ hi b rfl
 refine H.turn i hi _ ?_ hg.size (fun j hj hn=>hg.block j hj (fun e=>hn (by cases e;rfl))) h' (fun j hj=>?_)
 · refine ⟨?_,?_,?_,Nat.le_trans H.grown.size hg.size,fun j hj hne=>?_⟩
   · rw [hg.os,H.grown.os]
   · rw [hg.tape,H.grown.tape]
   · rw [hg.output,H.grown.output]
   · rw [hg.block j (Nat.lt_of_lt_of_le hj H.grown.size) (fun e=>by
       cases e
       rcases hb.1 with h1 | h1
       · omega
       · exact hne h1),H.grown.block j hj hne]
 · have:j=b:=by
     have hj:Value.ownBlock (.slice (some ⟨b,0,none⟩) n' c')=some j:=hj
     simpa [Value.ownBlock] using hj.symm
   subst this
   exact ⟨.inl rfl,Nat.lt_of_lt_of_le hb.2 hg.size⟩
-- VcY
open Go.RowKit
section
variable {P:Program} {l:List Oper} {Q:Exit→Act→World→Prop} {N:Nat} {a:Act} {env:List (Nat × Value)} {rest:List Oper} {d:Tmp} {ty:TypeId} {pos:String} {af:Array Edge} {g:Option (Nat × Bool)}
 {w0 w:World} {row:Option Nat} {rs:List Res} {Kt:Act→World→Prop}
theorem rSlL {t e:TypeId} {x lo:Operand} {b o n c i sz:Nat} {k':IntKind} (ht:P.underlying t=some (.slice e)) (hz:∀ w,(sizeOf e).run P w = .ok sz w) (F:Has N a env) (hx:ev env x=some (.slice (some ⟨b,o,none⟩) n c)) (hl:ev env lo=some (.int k' (i:Int))) (hi:i≤n) (hc:i < c) :
   (execOp a.eval ⟨some d,.slice t x (some lo) none none,ty,pos,af,g⟩).run P w = .ok (.value (.slice (some ⟨b,o+i * sz,none⟩) (n - i) (c - i))) w:=by
 have he:P.elem t=e:=by simp [Program.elem,ht]
 have h1:=run_slice_l (P:=P) w t (some ⟨b,o,none⟩) n c (XaY ht) k' (i:Int) (by omega) (by omega)
 rw [he,hz] at h1
 have h3:(Instr.slice t (.slice (some ⟨b,o,none⟩) n c) (some (.int k' (i:Int))) none none).run P w = .ok (.slice (some ⟨b,o+i * sz,none⟩) (n - i) (c - i)) w:=by
   rw [h1]
   simp only [Result.andThen_ok,sliced,Int.toNat_natCast]
   rw [if_neg (by omega)]
   simp [Addr.add_mid]
 simp only [execOp,Option.map_some,Option.map_none,F.eval hx,F.eval hl,Sem.run_bind,run_sliceAt_slice w t _ _ _ none (XaY ht),h3]
 rfl
theorem sSlL {t e:TypeId} {x lo:Operand} {b o n c i sz:Nat} {k':IntKind} (ht:P.underlying t=some (.slice e)) (hz:∀ w,(sizeOf e).run P w = .ok sz w) (F:Has N a env) (hg:JK l env g=true) (hN:Nat.blt d N=true) (hx:ev env x=some (.slice (some ⟨b,o,none⟩) n c)) (hl:ev env lo=some (.int k' (i:Int))) (hi:i≤n) (hc:i < c)
   (K:∀ a,Has N a ((d,.slice (some ⟨b,o+i * sz,none⟩) (n - i) (c - i)) :: env)→wpList P l.toArray Q rest a w):wpList P l.toArray Q (⟨some d,.slice t x (some lo) none none,ty,pos,af,g⟩ :: rest) a w:=
 Q2 F hg rfl hN (rSlL ht hz F hx hl hi hc) K
end
section
variable {P:Program} {t:TypeId} {x y:Operand} {n m:Nat}
end
theorem Own.turned {w0 w w':World} {row:Option Nat} {rs:List Res} {b:Nat} {cs cs':List Value} {t:TypeId} (H:Own w0 row w rs) (i:Nat) (hi:rs[i]? = some (.blk b cs t)) (H2:Own w (some b) w' [.blk b cs' t]):Own w0 row w' (rs.set i (.blk b cs' t)) where
 grown:=by
   have hb:=H.foot i _ hi b rfl
   refine ⟨?_,?_,?_,Nat.le_trans H.grown.size H2.grown.size,fun j hj hne=>?_⟩
   · rw [H2.grown.os,H.grown.os]
   · rw [H2.grown.tape,H.grown.tape]
   · rw [H2.grown.output,H.grown.output]
   · rw [H2.grown.block j (Nat.lt_of_lt_of_le hj H.grown.size) (fun e=>by
       cases e
       rcases hb.1 with h | h
       · omega
       · exact hne h),H.grown.block j hj hne]
 pred:=fun j r hj=>by
   rw [List.getElem?_set] at hj
   split at hj
   · split at hj
     · cases hj;exact H2.pred 0 _ rfl
     · cases hj
   · rename_i hne
     refine r.loc w w' (fun c hc=>?_) (H.pred j r hj)
     have hcb:=H.foot j r hj c hc
     refine H2.grown.block c hcb.2 (fun e=>?_)
     have e:c=b:=Option.some.inj e
     exact H.apart j i r _ hj hi (fun e=>hne e.symm) c hc e
 foot:=fun j r hj c hc=>by
   rw [List.getElem?_set] at hj
   split at hj
   · split at hj
     · cases hj
       exact ⟨(H.foot i _ hi c hc).1,Nat.lt_of_lt_of_le (H.foot i _ hi c hc).2 H2.grown.size⟩
     · cases hj
   · exact ⟨(H.foot j r hj c hc).1,Nat.lt_of_lt_of_le (H.foot j r hj c hc).2 H2.grown.size⟩
 apart:=fun j k r s hj hk hjk c hc hs=>by
   have key:∀ (j:Nat) (r:Res),(rs.set i (.blk b cs' t))[j]? = some r→∃ r',rs[j]? = some r'∧∀ c,r.foot c ↔ r'.foot c:=fun j r hj=>by
     rw [List.getElem?_set] at hj
     split at hj
     · rename_i e
       split at hj
       · cases hj;subst e;exact ⟨_,hi,fun c=>Iff.rfl⟩
       · cases hj
     · exact ⟨r,hj,fun c=>Iff.rfl⟩
   obtain ⟨r',h1,h2⟩:=key j r hj
   obtain ⟨s',h3,h4⟩:=key k s hk
   exact H.apart j k r' s' h1 h3 hjk c ((h2 c).1 hc) ((h4 c).1 hs)
-- VcZ
open Go.RowKit
section
variable {P:Program} {l:List Oper} {Q:Exit→Act→World→Prop} {N:Nat} {a:Act} {env:List (Nat × Value)} {rest:List Oper} {d:Tmp} {ty:TypeId} {pos:String} {af:Array Edge} {g:Option (Nat × Bool)}
 {w0 w:World} {row:Option Nat} {rs:List Res} {Kt:Act→World→Prop}
theorem Own.fuse {r s:Res} (H:Own w0 row w (r :: s :: rs)) (r':Res) (hp:r'.pred w) (hf:∀ b,r'.foot b→r.foot b∨s.foot b):Own w0 row w (r' :: rs) where
 grown:=H.grown
 pred:=fun i q hi=>by
   cases i with
   | zero=>cases hi;exact hp
   | succ i=>exact H.pred (i+2) q hi
 foot:=fun i q hi b hb=>by
   cases i with
   | zero=>
     cases hi
     rcases hf b hb with h | h
     · exact H.foot 0 r rfl b h
     · exact H.foot 1 s rfl b h
   | succ i=>exact H.foot (i+2) q hi b hb
 apart:=fun i j q u hi hj hij b h1 h2=>by
   cases i with
   | zero=>
     cases hi
     cases j with
     | zero=>exact hij rfl
     | succ j=>
       rcases hf b h1 with h | h
       · exact H.apart 0 (j+2) r u rfl hj (by omega) b h h2
       · exact H.apart 1 (j+2) s u rfl hj (by omega) b h h2
   | succ i=>
     cases j with
     | zero=>
       cases hj
       rcases hf b h2 with h | h
       · exact H.apart 0 (i+2) r q rfl hi (by omega) b h h1
       · exact H.apart 1 (i+2) s q rfl hi (by omega) b h h1
     | succ j=>exact H.apart (i+2) (j+2) q u hi hj (by omega) b h1 h2
theorem Own.void (H:Own w0 row w rs) (r:Res) (hp:r.pred w) (hf:∀ b,¬ r.foot b):Own w0 row w (r :: rs):=
 H.add r (Below.refl _ _) hp (fun b hb=>absurd hb (hf b))
theorem Own.seen {r:Res} (H:Own w0 row w (r :: rs)) (r':Res) (hp:r'.pred w) (hf:∀ b,r'.foot b→r.foot b):Own w0 row w (r' :: rs):=
 (H.void ⟨fun _=>False,fun _=>True,fun _ _ _ _=>trivial⟩ trivial (fun _ h=>h)).fuse r' hp (fun b hb=>.inr (hf b hb))
theorem Own.emptyRws {b:Nat} {e:TypeId} (H:Own w0 row w (.blk b [] e :: rs)) (sz:Nat):Own w0 row w (.rws e sz (.slice (some ⟨b,0,.none⟩) 0 0) [] :: rs):=
 H.seen _ (show w.ownsRow 0 e sz (.slice (some ⟨b,0,.none⟩) 0 0) 0 [] from ⟨by simp,.inr ⟨b,0,#[],rfl,Nat.zero_le _,H.blk 0 rfl,Nat.le_refl _,Nat.zero_le _,by simp,by simp⟩⟩)
   (fun c hc=>by
     have:b=c:=by simpa [Res.rws,Res.arr,Value.ownBlock] using hc
     exact this.symm)
theorem Xim {t e:TypeId} {v:Value} {rows news:List (List Value)} {ad:Addr} {m c:Nat} {ti:TypeInfo} {z:Value} {sz bytes:Nat} (H:Own w0 row w rs) (i:Nat) (ht:P.underlying t=some (.slice e))
   (hi:∀ w,(typeInfo e).run P w = .ok ti w) (hz:ti.zero=some z) (hsize:ti.size=sz) (hby:ti.bytes=bytes) (hzs:z.cells.size=sz) (hsz:Nat.blt 0 sz=true) (hb1:Nat.blt 0 bytes=true)
   (hr:rs[i]? = some (.rws e sz v rows)) (hm:news.length=m) (hnews:∀ j u,news.flatten[j]? = some u→w.cell? (ad.add j)=some u) (hl:∀ r ∈ news,r.length=sz) (h1:∀ r ∈ news,r.all (·.oneCell')=true) (hb:(rows.length+m) * bytes≤140737488355328) (ty:TypeId) :
   ∃ A c' w',(Builtin.append_ #[t,t] ty #[v,.slice (some ad) m c]).run P w = .ok (.slice A (rows++news).length c') w'∧Own w0 row w' (rs.set i (.rws e sz (.slice A (rows++news).length c') (rows++news))):=by
 have hsz':=Nat.blt_eq.mp hsz
 have hb1':=Nat.blt_eq.mp hb1
 have hfl:∀ (q:List (List Value)),(∀ r ∈ q,r.length=sz)→q.flatten.length=q.length * sz:=by
   intro q hq
   induction q with
   | nil=>simp
   | cons r0 rest ih=>rw [List.flatten_cons,List.length_append,ih (fun r hm=>hq r (by simp [hm])),hq r0 (by simp),List.length_cons,Nat.add_mul];omega
 have hlen:rows.length+m≤140737488355328:=Nat.le_trans (Nat.le_mul_of_pos_right _ hb1') hb
 obtain ⟨v',w',hrun,hown,hgr,_,hat⟩:=run_append_own_at (P:=P) w 0 t ty e ti z sz bytes ht (Xc7 hi) hz hsize hby hzs hsz' v rows.length rows.flatten (H.arr i hr) ad m c news.flatten (by rw [hfl news hl,hm])
   hnews (fun u hu=>by
     obtain ⟨r,hr1,hr2⟩:=List.mem_flatten.1 hu
     exact (List.all_eq_true.1 (h1 r hr1)) u hr2) (by simp only [maxLen];omega) hb (Nat.zero_le _)
 have e1:(rows++news).length=rows.length+m:=by rw [List.length_append,hm]
 obtain ⟨A,c',rfl⟩:∃ A c',v' = .slice A (rows++news).length c':=by
   rcases hown.2 with ⟨h2,h3⟩ | ⟨g,cap,cur,h2,_⟩
   · exact ⟨none,0,by rw [e1,h3];exact h2⟩
   · exact ⟨_,cap,by rw [e1];exact h2⟩
 refine ⟨A,c',w',hrun,?_⟩
 have hlt:∀ k,(Value.slice A (rows++news).length c').ownBlock=some k→k < w'.heap.size:=fun k hk=>(hown.lt k hk).2
 refine H.turn i hr _ ?_ hgr.size (fun b hb hnb=>hgr.block b hb (fun e=>hnb (show v.ownBlock=some b from e.symm))) ?_ ?_
 · refine ⟨hgr.os.trans H.grown.os,hgr.tape.trans H.grown.tape,hgr.output.trans H.grown.output,Nat.le_trans H.grown.size hgr.size,fun k hk hne=>?_⟩
   refine (hgr.block k (Nat.lt_of_lt_of_le hk H.grown.size) (fun e=>?_)).trans (H.grown.block k hk hne)
   rcases (H.foot i _ hr k (show v.ownBlock=some k from e.symm)).1 with h | h
   · exact absurd hk (by omega)
   · exact hne h
 · show w'.ownsRow 0 e sz _ (rows++news).length (rows++news).flatten
   rw [List.flatten_append];rw [e1] at hown ⊢
   exact hown
 · intro b hb
   have hb:(Value.slice A (rows++news).length c').ownBlock=some b:=hb
   refine ⟨?_,hlt b hb⟩
   rcases hat with h | h
   · exact .inl (show v.ownBlock=some b from h ▸ hb)
   · rw [hb] at h
     cases h
     exact .inr (Nat.le_refl _)
theorem RowsAt.flat {w:World} {A:Addr} {sz:Nat} {rows:List (List Value)} (h:RowsAt w (some A) sz rows) (hl:∀ r ∈ rows,r.length=sz):∀ j u,rows.flatten[j]? = some u→w.cell? (A.add j)=some u:=by
 have key:∀ (rows:List (List Value)) (o:Nat),(∀ r ∈ rows,r.length=sz)→(∀ (j:Nat) (cs:List Value),rows[j]? = some cs→∃ b off,A=⟨b,off,none⟩∧w.rangeAt b (off+(o+j) * sz) cs)→∀ j u,rows.flatten[j]? = some u→w.cell? (A.add (o * sz+j))=some u:=by
   intro rows
   induction rows with
   | nil=>intro o _ _ j u hu;simp at hu
   | cons r rest ih=>
     intro o hl h j u hu
     have hr:r.length=sz:=hl r (by simp)
     rw [List.flatten_cons] at hu
     rcases Nat.lt_or_ge j r.length with hj | hj
     · rw [List.getElem?_append_left hj] at hu
       obtain ⟨b,off,rfl,h2⟩:=h 0 r rfl
       have:=h2 j u hu
       rw [Addr.add_mid,← Nat.add_assoc]
       simpa using this
     · rw [List.getElem?_append_right hj] at hu
       have:=ih (o+1) (fun r hm=>hl r (by simp [hm])) (fun k cs hk=>by
         obtain ⟨b,off,h1,h2⟩:=h (k+1) cs hk
         exact ⟨b,off,h1,by rw [show o+1+k=o+(k+1) by omega];exact h2⟩) (j - r.length) u hu
       rw [Nat.add_mul,Nat.one_mul,← hr,Nat.add_assoc,show r.length+(j - r.length)=j by omega] at this;rw [← hr]
       exact this
 intro j u hu
 have:=key rows 0 hl (fun k cs hk=>by
   obtain ⟨b,off,h1,h2⟩:=h k cs hk
   exact ⟨b,off,Option.some.inj h1,by rw [Nat.zero_add];exact h2⟩) j u hu
 simpa using this
end
-- KtB
open Go.RowKit
variable {P:Program} {l:List Oper} {Q:Exit→Act→World→Prop} {N:Nat} {a:Act} {env:List (Nat × Value)} {rest:List Oper} {d:Tmp} {ty:TypeId} {pos:String} {af:Array Edge} {g:Option (Nat × Bool)}
 {w0 w:World} {row:Option Nat} {rs:List Res} {Kt:Act→World→Prop}
theorem Xil {t e ty:TypeId} {i:TypeInfo} {size n c:Nat} {v:Value} {xs:List Value} (ht:P.underlying t=some (.slice e)) (hi:P.info? e=some i) (ho:w.ownsRow 0 e size v n xs) :
   (Builtin.append_ #[t,t] ty #[v,.slice none 0 c]).run P w = .ok v w:=by
 rcases ho.2 with ⟨h1,h2⟩ | ⟨g,cap,cur,h1,_,_,hnc,_⟩
 · subst h1
   simp [Builtin.append_,run_underlying ht,sizeOf,typeInfo,hi,Builtin.lenOf,Builtin.firstCells]
 · subst h1
   simp [Builtin.append_,run_underlying ht,sizeOf,typeInfo,hi,Builtin.lenOf,Builtin.firstCells,hnc,storeCells]
theorem Xec {t e:TypeId} {v:Value} {rows news:List (List Value)} {A0:Option Addr} {m c:Nat} {ti:TypeInfo} {z:Value} {sz bytes:Nat} (H:Own w0 row w rs) (i:Nat) (ht:P.underlying t=some (.slice e))
   (hi:∀ w,(typeInfo e).run P w = .ok ti w) (hz:ti.zero=some z) (hsize:ti.size=sz) (hby:ti.bytes=bytes) (hzs:z.cells.size=sz) (hsz:Nat.blt 0 sz=true) (hb1:Nat.blt 0 bytes=true)
   (hr:rs[i]? = some (.rws e sz v rows)) (hm:news.length=m) (hnews:RowsAt w A0 sz news) (hl:∀ r ∈ news,r.length=sz) (h1:∀ r ∈ news,r.all (·.oneCell')=true) (hb:(rows.length+m) * bytes≤140737488355328) (ty:TypeId) :
   ∃ A c' w',(Builtin.append_ #[t,t] ty #[v,.slice A0 m c]).run P w = .ok (.slice A (rows++news).length c') w'∧Own w0 row w' (rs.set i (.rws e sz (.slice A (rows++news).length c') (rows++news))):=by
 cases A0 with
 | some ad=>exact Xim H i ht hi hz hsize hby hzs hsz hb1 hr hm (hnews.flat hl) hl h1 hb ty
 | none=>
   obtain rfl:news=[]:=by
     cases news with
     | nil=>rfl
     | cons r rs=>
       obtain ⟨b,o,he,_⟩:=hnews 0 r rfl
       cases he
   obtain rfl:0=m:=hm
   have ho:=H.arr i hr
   have h2:=Xil (ty:=ty) (c:=c) ht (Xc7 hi) ho
   obtain ⟨A,c',rfl⟩:∃ A c',v = .slice A rows.length c':=by
     rcases ho.2 with ⟨h2,h3⟩ | ⟨g,cap,cur,h2,_⟩
     · exact ⟨none,0,by rw [h3];exact h2⟩
     · exact ⟨_,cap,h2⟩
   have e2:rs.set i (.rws e sz (.slice A rows.length c') rows)=rs:=by
     obtain ⟨hi2,he⟩:=List.getElem?_eq_some_iff.1 hr
     rw [← he]
     exact List.set_getElem_self hi2
   refine ⟨A,c',w,?_,?_⟩
   · rw [List.append_nil];exact h2
   · rw [List.append_nil,e2];exact H
theorem sAppO {t e:TypeId} {s x:Operand} {v:Value} {rows news:List (List Value)} {A0:Option Addr} {m c:Nat} {ti:TypeInfo} {z:Value} {sz bytes:Nat} (H:Own w0 row w rs) (i:Nat) (ht:P.underlying t=some (.slice e))
   (hi:∀ w,(typeInfo e).run P w = .ok ti w) (hz:ti.zero=some z) (hsize:ti.size=sz) (hby:ti.bytes=bytes) (hzs:z.cells.size=sz) (hsz:Nat.blt 0 sz=true) (hb1:Nat.blt 0 bytes=true)
   (F:Has N a env) (hg:JK l env g=true) (hN:Nat.blt d N=true) (hs:ev env s=some v) (hx:ev env x=some (.slice A0 m c))
   (hr:rs[i]? = some (.rws e sz v rows)) (hm:news.length=m) (hnews:RowsAt w A0 sz news) (hl:∀ r ∈ news,r.length=sz) (h1:∀ r ∈ news,r.all (·.oneCell')=true) (hb:(rows.length+m) * bytes≤140737488355328)
   (K:∀ A c a w,Has N a ((d,.slice A (rows++news).length c) :: env)→Own w0 row w (rs.set i (.rws e sz (.slice A (rows++news).length c) (rows++news)))→wpList P l.toArray Q rest a w) :
   wpList P l.toArray Q (⟨some d,.call ⟨.builtin .append,#[s,x],#[t,t]⟩,ty,pos,af,g⟩ :: rest) a w:=by
 obtain ⟨A,c',w',h2,h3⟩:=Xec (P:=P) (c:=c) H i ht hi hz hsize hby hzs hsz hb1 hr hm hnews hl h1 hb ty
 exact Q2 F hg rfl hN (Bc (ty':=ty) F hs hx h2) (fun a F'=>K A c' a w' F' h3)
theorem XhD {t e:TypeId} {s x:Operand} {v:Value} {rows news:List (List Value)} {A0:Option Addr} {m c:Nat} {ti:TypeInfo} {z:Value} {sz bytes:Nat} (H:Own w0 row w rs) (i:Nat) (ht:P.underlying t=some (.slice e))
   (hi:∀ w,(typeInfo e).run P w = .ok ti w) (hz:ti.zero=some z) (hsize:ti.size=sz) (hby:ti.bytes=bytes) (hzs:z.cells.size=sz) (hsz:Nat.blt 0 sz=true) (hb1:Nat.blt 0 bytes=true)
   (F:Has N a env) (hN:Nat.blt d N=true) (hs:ev env s=some v) (hx:ev env x=some (.slice A0 m c))
   (hr:rs[i]? = some (.rws e sz v rows)) (hm:news.length=m) (hnews:RowsAt w A0 sz news) (hl:∀ r ∈ news,r.length=sz) (h1:∀ r ∈ news,r.all (·.oneCell')=true) (hb:(rows.length+m) * bytes≤140737488355328)
   (K:∀ A c a w,Has N a ((d,.slice A (rows++news).length c) :: env)→Own w0 row w (rs.set i (.rws e sz (.slice A (rows++news).length c) (rows++news)))→Kt a w) :
   (Oper.mk (some d) (.call ⟨.builtin .append,#[s,x],#[t,t]⟩) ty pos af g).wp P a w Kt Q:=by
 obtain ⟨A,c',w',h2,h3⟩:=Xec (P:=P) (c:=c) H i ht hi hz hsize hby hzs hsz hb1 hr hm hnews hl h1 hb ty
 exact oV F rfl hN (Bc (ty':=ty) F hs hx h2) (fun a F'=>K A c' a w' F' h3)
-- RnJ
open Go.Proofs.Tryz
open Go.RowKit
set_option maxRecDepth 100000
theorem Bs {P:Program} {w:World} (t ti ty e:TypeId) (i:TypeInfo) (z:Value) (k:IntKind) (ht:P.underlying t=some (.slice e)) (hu:P.underlying ti=some (.int k)) (hi:∀ w,(typeInfo e).run P w = .ok i w) (hz:i.zero=some z) (n:Nat) (hs:i.size ≠ 0) (h0:0 < n) (h63:(n:Int)≤9223372036854775807) (h48:n * i.bytes≤281474976710656) :
   (Builtin.append_ #[t,ti] ty #[.slice none 0 0,.int .i64 (n:Int)]).run P w = .ok (.slice (some ⟨w.heap.size,0,none⟩) n (grownCap w n 0 e)) (w.drew.alloc (.cells (Builtin.zeroCells z.cells n++Builtin.zeroCells z.cells (grownCap w n 0 e - n)) e)):=by
 have hn:n ≠ 0:=by omega
 have h63':¬ (9223372036854775807 < (n:Int)):=by omega
 have h48':¬ (281474976710656 < Builtin.nextslicecap n 0 * i.bytes):=by rw [nextslicecap_zero h0];omega
 have h48i:¬ (281474976710656 < (n:Int) * (i.bytes:Int)):=by
   have:((n * i.bytes:Nat):Int)≤281474976710656:=by omega
   rw [Int.natCast_mul] at this;omega
 have hw:IntKind.i64.wrap (n:Int)=n:=by simp [IntKind.wrap,IntKind.bits,IntKind.signed];omega
 have hmax:max (n:Int) 0=n:=by omega
 have hle:¬ ((n:Int)≤0):=by omega
 have hneg:¬ ((n:Int) < 0):=by omega
 have hns:n * i.size ≠ 0:=by
   intro h
   rcases Nat.mul_eq_zero.1 h with h | h
   · exact hn h
   · exact hs h
 simp [Builtin.append_,run_underlying ht,run_underlying hu,sizeOf,zeroValue,hi,hz,Builtin.lenOf,hn,h63',h48',h48i,hw,hneg,hns,hs,Question.forced,run_firstCells_none,newRow,grownCap,asInt,asIntOf,hmax,hle]
theorem Mt (z:Array Value) (n:Nat):(Builtin.zeroCells z n).size=n * z.size:=by simp [Builtin.zeroCells]
theorem XhB {w0 w:World} {row:Option Nat} {rs:List Res} {e:TypeId} {sz c:Nat} {arr:Array Value} (H:Own w0 row w rs) (hc:c≤maxLen) (ha:arr.size=c * sz):Own w0 row (w.drew.alloc (.cells arr e)) (.rws e sz (.slice (some ⟨w.heap.size,0,none⟩) 0 c) [] :: rs):=by
 have H0:Own w0 row w.drew rs:=⟨Nh H.grown,fun i r h=>r.loc w w.drew (fun _ _=>rfl) (H.pred i r h),H.foot,H.apart⟩
 refine H0.add _ ((Below.refl _ _).alloc (Nat.le_refl _) _) ?_ ?_
 · exact World.ownsRow_made (w:=w.drew) (e:=e) (size:=sz) (base:=0) arr c (Nat.zero_le _) hc ha
 · intro b hb
   have hb:Value.ownBlock (.slice (some ⟨w.heap.size,0,none⟩) 0 c)=some b:=hb
   simp only [Value.ownBlock,Option.some.injEq] at hb
   subst hb
   exact ⟨Nat.le_refl _,by simp⟩
section
variable {P:Program} {l:List Oper} {Q:Exit→Act→World→Prop} {N:Nat} {a:Act} {env:List (Nat × Value)} {rest:List Oper} {d:Tmp} {ty:TypeId} {pos:String} {af:Array Edge} {g:Option (Nat × Bool)} {w0 w:World} {row:Option Nat} {rs:List Res}
theorem rCap {t:TypeId} {x:Operand} {A:Option Addr} {n c:Nat} {e:TypeId} (ht:P.underlying t=some (.slice e)) (F:Has N a env) (hx:ev env x=some (.slice A n c)):(execOp a.eval ⟨some d,.call ⟨.builtin .cap,#[x],#[t]⟩,ty,pos,af,g⟩).run P w = .ok (.value (.int .i64 (c:Int))) w:=
 (by
   simp only [execOp,resolve,List.map_toArray,List.map_cons,List.map_nil,F.eval hx]
   simp [invoke,builtin,Builtin.cap_,run_underlying ht,goInt,go_sem])
theorem Xbh {t:TypeId} {x:Operand} {A:Option Addr} {n c:Nat} {e:TypeId} (ht:P.underlying t=some (.slice e)) (F:Has N a env) (hg:JK l env g=true) (hN:Nat.blt d N=true) (hx:ev env x=some (.slice A n c))
   (K:∀ a,Has N a ((d,.int .i64 (c:Int)) :: env)→wpList P l.toArray Q rest a w):wpList P l.toArray Q (⟨some d,.call ⟨.builtin .cap,#[x],#[t]⟩,ty,pos,af,g⟩ :: rest) a w:=
 Q2 F hg rfl hN (rCap ht F hx) K
theorem qCap {t:TypeId} {x:Operand} {A:Option Addr} {n c:Nat} {e:TypeId} (ht:P.underlying t=some (.slice e)) (hg:JK l env g=true) (hN:Nat.blt d N=true) (hx:ev env x=some (.slice A n c)) (K:∀ a,Has N a ((d,.int .i64 (c:Int)) :: env)→wpList P l.toArray Q rest a w):∀ a,Has N a env→wpList P l.toArray Q (⟨some d,.call ⟨.builtin .cap,#[x],#[t]⟩,ty,pos,af,g⟩ :: rest) a w:=fun a F=>Xbh ht F hg hN hx K
theorem Xj2 {t tx e:TypeId} {s x:Operand} {n:Nat} {ti:TypeInfo} {z:Value} {k:IntKind} {sz bytes:Nat} (H:Own w0 row w rs) (ht:P.underlying t=some (.slice e)) (hu:P.underlying tx=some (.int k)) (hi:∀ w,(typeInfo e).run P w = .ok ti w) (hz:ti.zero=some z) (hsize:ti.size=sz) (hby:ti.bytes=bytes) (hzs:z.cells.size=sz) (hsz:Nat.blt 0 sz=true)
   (F:Has N a env) (hg:JK l env g=true) (hN:Nat.blt d N=true) (hs:ev env s=some (.slice none 0 0)) (hx:ev env x=some (.int .i64 (n:Int))) (h0:0 < n) (h63:(n:Int)≤9223372036854775807) (h48:n * bytes≤281474976710656)
   (K:∀ b c a w,n≤c→Has N a ((d,.slice (some ⟨b,0,none⟩) n c) :: env)→Own w0 row w (.rws e sz (.slice (some ⟨b,0,none⟩) 0 c) [] :: rs)→wpList P l.toArray Q rest a w) :
   wpList P l.toArray Q (⟨some d,.call ⟨.builtin .append,#[s,x],#[t,tx]⟩,ty,pos,af,g⟩ :: rest) a w:=by
 subst hsize hby
 have hap:=Bs (P:=P) (w:=w) t tx ty e ti z k ht hu hi hz n (by have h1:=hsz;rw [Nat.blt_eq] at h1;omega) h0 h63 h48
 have hge:=grownCap_ge w n 0 e
 have hcm:=grownCap_le_maxLen w n 0 e (by simp only [maxLen];omega)
 have hr:(execOp a.eval ⟨some d,.call ⟨.builtin .append,#[s,x],#[t,tx]⟩,ty,pos,af,g⟩).run P w = .ok (.value (.slice (some ⟨w.heap.size,0,none⟩) n (grownCap w n 0 e))) (w.drew.alloc (.cells (Builtin.zeroCells z.cells n++Builtin.zeroCells z.cells (grownCap w n 0 e - n)) e)):=by
   simp only [execOp,resolve,invoke,builtin,Sem.run_bind,Sem.run_pure,Result.andThen_ok,List.map_toArray,List.map_cons,List.map_nil,F.eval hs,F.eval hx,hap]
 refine Q2 F hg rfl hN hr (fun a F'=>K _ _ a _ hge F' (XhB H hcm ?_));rw [Array.size_append,Mt,Mt,hzs,← Nat.add_mul]
 congr 1
 omega
end
theorem XhY (n:Nat) (hn:n≤65536) (w0:World) :
   Calls Tryz.prog 74 #[.slice none 0 0,.int .i64 (n:Int)] w0 fun e w'=>∃ A c,e = .returned (.slice A 0 c)∧Own w0 none w' [.rws 34 38 (.slice A 0 c) []]:=by
 have H:=Own.start w0 none
 refine JF func74 rfl ntmps74 rfl (fun a F=>?_);refine cSR fun K1 hK1=>Xa F rfl (qNK hK1 ?_);clear hK1;clear F a;intro a F;refine JD (fun K2 hK2=>?_);refine cSR fun K3 hK3=>Xf F rfl (Xe rfl rfl QF (qNK hK3 ?_));clear hK3;clear F a;intro a F
 refine cIf F rfl (fun h6=>?_) (fun h6=>?_)
 ·
  replace h6:=of_decide_eq_true h6
  exact absurd h6 (by omega)
 replace h6:=of_decide_eq_false h6;refine wp_skip (hK2 _ _ ?_);clear hK2;refine JD (fun K4 hK4=>?_);refine cSR fun K5 hK5=>Xf F rfl (Xh rfl (qCap XU rfl rfl rfl (Xh rfl (Xx XU rfl ?_))));clear F a;intro a F
 refine Xg F rfl rfl (Ca ?_) ?_
 focus omega
 clear F a;intro a F
 refine Xg F rfl rfl (Ca ?_) ?_
 focus omega
 clear F a;intro a F;refine Xa F rfl (qNK hK5 (qSR fun K6 hK6=>Xh rfl (Xe rfl rfl L3 (qNK hK6 ?_))));clear hK5 hK6;clear F a;intro a F
 refine cIf F rfl (fun h16=>?_) (fun h16=>?_)
 ·
  replace h16:=of_decide_eq_true h16;refine JY (Xf F rfl (Xh rfl (qCap XU rfl rfl rfl ?_)));clear F a;intro a F
  refine sSlH XU (fun w=>⟨_,X0 w⟩) F rfl rfl rfl rfl ?_ ?_
  focus (omega)
  clear F a;intro a F;refine Xf F rfl ?_;clear F a;intro a F;refine Xj2 (n:=n) (bytes:=38) H XU XT Zg rfl rfl rfl rfl rfl F rfl rfl rfl rfl (by omega) (by omega) (by omega) ?_;clear F a H;intro A22 c22 a w hc22 F H;refine Xf F rfl (Xx XU rfl ?_);clear F a;intro a F
  refine sSlH XU (fun w=>⟨_,X0 w⟩) F rfl rfl rfl rfl ?_ ?_
  focus (omega)
  clear F a;intro a F;refine Xa F rfl (qNK hK4 (qSR fun K7 hK7=>Xh rfl (Xd rfl (qNK hK7 ?_))));clear hK4 hK7;clear F a;intro a F;refine wp_ret ?_;refine JI results74 F rfl ?_
  exact ⟨_,_,rfl,H.pick 0 rfl⟩
 replace h16:=of_decide_eq_false h16;refine wp_skip (hK4 _ _ (cSR fun K8 hK8=>Xf F rfl (Xd rfl (qNK hK8 ?_))));clear hK4 hK8;clear F a;intro a F;refine wp_ret ?_;refine JI results74 F rfl ?_
 exact ⟨none,0,rfl,(H.nilRws 34 38).pick 0 rfl⟩
theorem Xa6 (l:List By):∀ r ∈ l.map (bs 38),r.all (·.oneCell')=true:=fun r hr=>by
 obtain ⟨s,_,rfl⟩:=List.mem_map.1 hr
 rw [Ln,List.all_eq_true]
 intro v hv
 obtain ⟨x,_,rfl⟩:=List.mem_map.1 hv
 rfl
theorem Ld (l:List By):∀ r ∈ l.map (bs 38),r.length=38:=fun r hr=>by
 obtain ⟨s,_,rfl⟩:=List.mem_map.1 hr
 exact bs_length _ _
theorem XeU (bx ox cx:Nat) (A0:Option Addr) (C0:Nat) (l:List By) (w0:World) (hx:w0.rangeAt bx ox [.slice A0 l.length C0]) (hR:RowsAt w0 A0 38 (l.map (bs 38))) (hl:l.length≤65536) :
   Calls Tryz.prog 50 #[.slice (some ⟨bx,ox,none⟩) 1 cx] w0 fun e w'=>∃ A c,e = .returned (.slice A l.length c)∧Own w0 none w' [.rws 34 38 (.slice A l.length c) (l.map (bs 38))]:=by
 have H:=Own.start w0 none
 have hx0:w0.cell? ⟨bx,ox,none⟩=some (.slice A0 l.length C0):=by simpa using hx 0 _ rfl
 refine JF func50 rfl ntmps50 rfl (fun a F=>?_);refine cSR fun K1 hK1=>Xa F rfl (qNK hK1 (qSR fun K2 hK2=>Xd rfl (qNK hK2 ?_)));clear hK1 hK2;clear F a;intro a F;refine JD (fun K3 hK3=>?_);refine cSR fun K4 hK4=>Xf F rfl (Xx Y1 rfl (Xh rfl (qNK hK4 ?_)));clear hK4;clear F a;intro a F;refine wp_block ?_
 refine JN [0,9,10] (fun m ups w=>∃ (j:Nat) (v:Int),m=1 - j∧ups=[(3,.int .i64 v),(11,.int .i64 ((j:Nat):Int))]∧j≤1∧(j=0→v=0)∧(1≤j→v=(l.length:Int))∧Own w0 none w []) F (1) [(3,.int .i64 0),(11,.int .i64 ((0:Nat):Int))] ?_ ?_
 · exact ⟨0,0,rfl,rfl,by omega,fun _=>rfl,fun h=>absurd h (by omega),H⟩
 clear F
 clear H
 intro m ups a w hI F
 obtain ⟨j,v,rfl,rfl,hj,hv0,hv1,H⟩:=hI
 refine cSR fun K5 hK5=>Xg F rfl rfl QF (qNK hK5 ?_);clear hK5;clear F a;intro a F;refine JD (fun K6 hK6=>?_)
 refine cIf F rfl (fun h12=>?_) (fun h12=>?_)
 ·
  replace h12:=of_decide_eq_true h12
  obtain rfl:j=0:=by omega
  have hv:=hv0 rfl
  refine wp_skip (hK6 _ _ ?_);clear hK6;refine JD (fun K7 hK7=>?_);refine wp_block ?_;refine cSR fun K8 hK8=>?_
  refine sIx Y1 sizeOf43 F rfl rfl rfl rfl ?_ ?_
  focus (omega)
  clear F a;intro a F;refine sLd isAgg43 F rfl rfl rfl (by simpa using H.arg hx0) (Xd rfl (qNK hK8 (qSR fun K9 hK9=>Xh rfl (Xh rfl (Xx XU rfl ?_)))));clear hK8;clear F a;intro a F
  refine Xg F rfl rfl (XjG ?_) ?_
  focus omega
  clear F a;intro a F;refine Xa F rfl (qNK hK9 (qSR fun K10 hK10=>Xh rfl (Xe rfl rfl QF (qNK hK10 ?_))));clear hK9 hK10;clear F a;intro a F
  refine cIf F rfl (fun h20=>?_) (fun h20=>?_)
  ·
   replace h20:=of_decide_eq_true h20
   exact absurd h20 (by omega)
  replace h20:=of_decide_eq_false h20;refine wp_skip (hK7 _ _ (JY ?_));clear hK7
  refine Xg F rfl rfl (JJ (j:=1) ?_) ?_
  focus omega
  clear F a;intro a F;refine Xf F rfl ?_;clear F a;intro a F;refine J4 ?_
  exact ⟨_,by omega,_,⟨1,v+(l.length:Int),rfl,rfl,by omega,fun h=>absurd h (by omega),fun _=>by omega,H.sel [] rfl rfl⟩,F.tt⟩
 replace h12:=of_decide_eq_false h12
 obtain rfl:j=1:=by omega
 obtain rfl:=hv1 (by omega)
 refine wp_exit ?_;refine hK3 _ _ (cSR fun K11 hK11=>Xf F rfl ?_);clear hK3;clear F a;intro a F;refine Xu call74 F rfl (XhY l.length hl _) ?_;rintro e w ⟨AG,cG,rfl,H2⟩;replace H:=H.join H2;clear H2;refine ⟨_,rfl,?_⟩;clear F a;intro a F;refine Xa F rfl (qNK hK11 ?_);clear hK11;clear F a;intro a F;refine JD (fun K12 hK12=>?_);refine cSR fun K13 hK13=>Xf F rfl (Xx Y1 rfl (Xh rfl (qNK hK13 ?_)));clear hK13;clear F a;intro a F;refine wp_block ?_
 refine JN [25,26] (fun m ups w=>∃ (j:Nat) (A:Option Addr) (c:Nat) (rows:List (List Value)),m=1 - j∧ups=[(6,.slice A rows.length c),(27,.int .i64 ((j:Nat):Int))]∧j≤1∧(j=0→rows=[])∧(1≤j→rows=l.map (bs 38))∧Own w0 none w [.rws 34 38 (.slice A rows.length c) rows]) F (1) [(6,.slice AG 0 cG),(27,.int .i64 ((0:Nat):Int))] ?_ ?_
 · exact ⟨0,AG,cG,[],rfl,rfl,by omega,fun _=>rfl,fun h=>absurd h (by omega),H.sel [0] rfl rfl⟩
 clear F
 clear H
 intro m ups a w hI F
 obtain ⟨j,A,c,rows,rfl,rfl,hj,hr0,hr1,H⟩:=hI
 refine cSR fun K14 hK14=>Xg F rfl rfl QF (qNK hK14 ?_);clear hK14;clear F a;intro a F;refine JD (fun K15 hK15=>?_)
 refine cIf F rfl (fun h28=>?_) (fun h28=>?_)
 ·
  replace h28:=of_decide_eq_true h28
  obtain rfl:j=0:=by omega
  obtain rfl:=hr0 rfl
  refine wp_skip (hK15 _ _ ?_);clear hK15;refine JD (fun K16 hK16=>?_);refine wp_block ?_;refine cSR fun K17 hK17=>?_
  refine sIx Y1 sizeOf43 F rfl rfl rfl rfl ?_ ?_
  focus (omega)
  clear F a;intro a F;refine sLd isAgg43 F rfl rfl rfl (by simpa using H.arg hx0) (Xd rfl (qNK hK17 (Ef (Xh rfl (Xh rfl ?_)))));clear hK17;clear F a;intro a F;refine sAppO (bytes:=38) (sz:=38) H 0 XU Zg rfl rfl rfl rfl rfl rfl F rfl rfl rfl rfl rfl ?hm (hR.own H) (Ld l) (Xa6 l) ?hb ?_
  case hm=>(simp;done)
  case hb=>exact ((by simp;omega))
  clear F a H;intro A33 c33 a w F H;refine Xa F rfl (qNK hK16 (Ef ?_));clear hK16;clear F a;intro a F
  refine Xg F rfl rfl (JJ (j:=1) ?_) ?_
  focus omega
  clear F a;intro a F;refine Xf F rfl ?_;clear F a;intro a F;refine J4 ?_
  exact ⟨_,by omega,_,⟨1,A33,c33,_,rfl,rfl,by omega,fun h=>absurd h (by omega),fun _=>by simp,H.sel [0] rfl rfl⟩,F.tt⟩
 replace h28:=of_decide_eq_false h28
 obtain rfl:j=1:=by omega
 obtain rfl:=hr1 (by omega)
 rw [List.length_map] at F H;refine wp_exit ?_;refine hK12 _ _ (cSR fun K18 hK18=>Xf F rfl (Xd rfl (qNK hK18 ?_)));clear hK12 hK18;clear F a;intro a F;refine wp_ret ?_;refine JI results50 F rfl ?_
 exact ⟨_,_,rfl,H.pick 0 rfl⟩
-- RnZ
open Go.Proofs.Tryz
open Go.Shelf
def XcJ:Go.Shelf.Ren:=⟨fun | 6=>51 | 15=>76 | 14=>75 | 28=>103 | 29=>104 | 20=>95 | 21=>96 | 22=>97 | 23=>98 | 24=>99 | 25=>100 | 26=>101 | 27=>102 | 46=>123 | 47=>124 | 48=>125 | 49=>126 | 50=>127 | 57=>136 | n=>n,fun | 22=>43 | 24=>34 | 25=>120 | 3=>3 | 39=>143 | 0=>0 | 53=>167 | 55=>169 | 4=>4 | 46=>160 | 45=>159 | 50=>164 | 5=>5 | 9=>9 | 66=>176 | 70=>180 | 76=>198 | 77=>199 | n=>n,fun | n=>n⟩
theorem XiX:Go.Proofs.SlLaysF0.n6 Tryz.prog XcJ:={
 mixed:=by kernel_rfl
 f6:=⟨Tryz.f51.name,by decide,func51.trans (congrArg some (by kernel_rfl))⟩
 f14:=⟨Tryz.f75.name,by decide,func75.trans (congrArg some (by kernel_rfl))⟩
 f15:=func76.trans (congrArg some (by kernel_rfl))
 f20:=⟨Tryz.f95.name,by decide,func95.trans (congrArg some (by kernel_rfl))⟩
 f21:=⟨Tryz.f96.name,by decide,func96.trans (congrArg some (by kernel_rfl))⟩
 f22:=⟨Tryz.f97.name,by decide,func97.trans (congrArg some (by kernel_rfl))⟩
 f23:=⟨Tryz.f98.name,by decide,func98.trans (congrArg some (by kernel_rfl))⟩
 f24:=⟨Tryz.f99.name,by decide,func99.trans (congrArg some (by kernel_rfl))⟩
 f25:=⟨Tryz.f100.name,by decide,func100.trans (congrArg some (by kernel_rfl))⟩
 f26:=⟨Tryz.f101.name,by decide,func101.trans (congrArg some (by kernel_rfl))⟩
 f27:=⟨Tryz.f102.name,by decide,func102.trans (congrArg some (by kernel_rfl))⟩
 f28:=func103.trans (congrArg some (by kernel_rfl))
 f29:=func104.trans (congrArg some (by kernel_rfl))
 f46:=⟨Tryz.f123.name,by decide,func123.trans (congrArg some (by kernel_rfl))⟩
 f47:=func124.trans (congrArg some (by kernel_rfl))
 f48:=func125.trans (congrArg some (by kernel_rfl))
 f49:=⟨Tryz.f126.name,by decide,func126.trans (congrArg some (by kernel_rfl))⟩
 f50:=⟨Tryz.f127.name,by decide,func127.trans (congrArg some (by kernel_rfl))⟩
 f57:=⟨Tryz.f136.name,by decide,func136.trans (congrArg some (by kernel_rfl))⟩
 t0:=underlying0
 a0:=isAgg0
 z0:=sizeOf0
 v0:=zeroValue0
 t3:=XT
 a3:=isAgg3
 z3:=YW
 v3:=zeroValue3
 t4:=Za
 a4:=Y6
 z4:=YQ
 v4:=zeroValue4
 t5:=XO
 a5:=XJ
 z5:=XH
 v5:=zeroValue5
 t9:=underlying9
 a9:=YY
 z9:=YL
 v9:=zeroValue9
 t22:=XU
 a22:=isAgg43
 z22:=sizeOf43
 v22:=zeroValue43
 t25:=underlying120
 a25:=isAgg120
 z25:=sizeOf120
 v25:=zeroValue120
 t39:=underlying143
 a39:=isAgg143
 z39:=sizeOf143
 v39:=zeroValue143
 t45:=underlying159
 a45:=isAgg159
 z45:=sizeOf159
 v45:=zeroValue159
 t46:=underlying160
 a46:=isAgg160
 z46:=sizeOf160
 v46:=zeroValue160
 t50:=underlying164
 a50:=isAgg164
 z50:=sizeOf164
 v50:=zeroValue164
 t53:=underlying167
 a53:=isAgg167
 z53:=sizeOf167
 v53:=zeroValue167
 t55:=underlying169
 a55:=isAgg169
 z55:=sizeOf169
 v55:=zeroValue169
 t66:=underlying176
 a66:=isAgg176
 z66:=sizeOf176
 v66:=zeroValue176
 t70:=underlying180
 a70:=isAgg180
 z70:=sizeOf180
 v70:=zeroValue180
 t76:=underlying198
 a76:=isAgg198
 z76:=sizeOf198
 v76:=zeroValue198
 t77:=underlying199
 a77:=isAgg199
 z77:=sizeOf199
 v77:=zeroValue199 }
def XcP:Go.Shelf.Ren:=⟨fun | 35=>54 | n=>n,fun | 22=>48 | 23=>73 | 3=>3 | 4=>4 | 0=>0 | n=>n,fun | n=>n⟩
theorem XfB:Go.Proofs.SlLaysE0.n35 Tryz.prog XcP:={
 mixed:=by kernel_rfl
 f35:=⟨Tryz.f54.name,by decide,func54.trans (congrArg some (by kernel_rfl))⟩
 t0:=underlying0
 a0:=isAgg0
 z0:=sizeOf0
 v0:=zeroValue0
 t3:=XT
 a3:=isAgg3
 z3:=YW
 v3:=zeroValue3
 t4:=Za
 a4:=Y6
 z4:=YQ
 v4:=zeroValue4
 t22:=XX
 a22:=isAgg48
 z22:=sizeOf48
 v22:=zeroValue48 }
-- RnK
open Go.RowKit Go.Sort
set_option maxRecDepth 100000
def cfF (x y:By):Int:=Nb (toL 38 x) (toL 38 y)
theorem XhK (x y:By):ltOf cfF x y=decide (Nb (toL 38 x) (toL 38 y) < 0):=rfl
theorem Xkm {a b c:List UInt8} (h1:¬ Nb a b < 0) (h2:¬ Nb b c < 0):¬ Nb a c < 0:=by
 have e1:=Ly a b
 have e2:=Ly b c
 have e3:=Ly a c
 by_cases z1:Nb a b=0
 · rw [CW z1];exact h2
 · by_cases z2:Nb b c=0
   · rw [← CW z2];exact h1
   · have:=MI (l:=c) (q:=b) (s:=a) (by omega) (by omega)
     omega
theorem swoF:SWO (ltOf cfF) where
 irrefl x:=by rw [XhK,N9];rfl
 trans x y z h1 h2:=by
   rw [XhK] at h1 h2 ⊢
   simp only [decide_eq_true_eq] at h1 h2 ⊢
   exact MI h1 h2
 ntrans x y z h1 h2:=by
   rw [XhK] at h1 h2 ⊢
   simp only [decide_eq_false_iff_not] at h1 h2 ⊢
   exact Xkm h1 h2
theorem one38 (x:By):∀ v ∈ bs 38 x,v.oneCell'=true:=fun v hv=>by
 have:=Xa6 [x] (bs 38 x) (by simp)
 exact List.all_eq_true.1 this v hv
theorem Xhj {w0 w:World} {row:Option Nat} {rs:List Res} {A:Option Addr} {c:Nat} {l:List By} (H:Own w0 row w rs) (i:Nat) (hi:rs[i]? = some (.rws 34 38 (.slice A l.length c) (l.map (bs 38)))) (hn:l.length≤65536) (h0:l ≠ []) :
   Calls Tryz.prog 51 #[.slice A l.length c,.func (.func 52) #[] #[]] w fun e w'=>e = .returned (.tuple #[])∧∃ l':List By,l'.length=l.length∧(∀ x,x ∈ l' ↔ x ∈ l)∧(l'.Pairwise fun x y=>¬ Nb (toL 38 y) (toL 38 x) < 0)∧Own w0 row w' (rs.set i (.rws 34 38 (.slice A l'.length c) (l'.map (bs 38)))):=by
 have hw:w.ownsRow 0 34 38 (.slice A l.length c) (l.map (bs 38)).length (l.map (bs 38)).flatten:=H.pred i _ hi
 rw [List.length_map] at hw
 have hw2:=hw
 obtain ⟨_,⟨h1,h2⟩ | ⟨g,cap,cur,h1,_,hg,_⟩⟩:=hw2
 · exact absurd (List.eq_nil_of_length_eq_zero h2) h0
 · have hA:A=some ⟨g,0,none⟩:=by simp only [Value.slice.injEq] at h1;exact h1.1
   subst hA
   have hk:∀ x:By,(bs 38 x).length=38:=fun x=>bs_length _ _
   have hH:=Xgr (enc:=bs 38) hk (d:=l.toArray) (by simpa using hw)
   have hb:g < w.heap.size:=(Array.getElem?_eq_some_iff.1 hg).1
   have eg:∀ args w,(callFunc 52 args).run Tryz.prog w = .ok (.enter 52 args) w:=Tryz.call52
   have hcon:=AnyQ.slices_SortFunc XiX 38 Tryz.isAgg34 Tryz.sizeOf34 (bs 38) hk one38 cfF swoF 52 #[] g 0 c l.toArray w eg (fun m os dk hs x y=>by simpa [cfF] using XfP x y _) hH hb (by simp;omega)
   change Calls Tryz.prog 51 _ _ _ at hcon
   rw [List.size_toArray] at hcon;refine hcon.mono ?_;rintro e w' ⟨rfl,d',n,os,hp,hs,rfl⟩
   obtain ⟨p1,_,p3⟩:=hp
   have p1:d'.size=l.length:=by simpa using p1
   have hperm:d'.toList.Perm l:=by
     have e1:d'.extract 0 l.length=d':=by rw [← p1];simp
     have e2:l.toArray.extract 0 l.length=l.toArray:=by simp
     rw [e1,e2] at p3
     simpa using p3
   have hp:=Xj8 (enc:=bs 38) hk (d:=l.toArray) (d':=d') (by simpa using hw) (by rw [List.size_toArray];exact p1) n os
   refine ⟨rfl,d'.toList,by simpa using p1,fun x=>hperm.mem_iff,?_,Bl H i hi (CC (bs 38) 38 w g n d' os) (by simpa using hp)⟩
   rw [List.pairwise_iff_getElem]
   intro i j hi hj hij
   have hi':i < d'.size:=by simpa using hi
   have hj':j < d'.size:=by simpa using hj
   have:=hs i j (Nat.zero_le _) hij (by omega)
   rw [getElem!_pos d' j hj',getElem!_pos d' i hi',XhK] at this
   simp only [decide_eq_false_iff_not] at this
   simpa using this
-- RnL
open Go.RowKit
set_option maxRecDepth 100000
theorem Xiv {w0 w:World} {row:Option Nat} {rs:List Res} {e:TypeId} {sz n c g:Nat} {rows:List (List Value)} (H:Own w0 row w rs) (i:Nat) (hi:rs[i]? = some (.rws e sz (.slice (some ⟨g,0,none⟩) n c) rows)) :
   ∃ cur:List Value,n=rows.length∧n≤c∧c≤maxLen∧cur.length=c * sz∧cur.take (n * sz)=rows.flatten∧rows.flatten.length=n * sz∧Own w0 row w (rs.set i (.blk g cur e)):=by
 have h:w.ownsRow 0 e sz (.slice (some ⟨g,0,none⟩) n c) rows.length rows.flatten:=H.pred i _ hi
 have hf:=H.foot i _ hi g rfl
 obtain ⟨h0,⟨h1,_⟩ | ⟨g',cap,cur,h1,_,h2,h3,h4,h5,h6⟩⟩:=h
 · cases h1
 · obtain ⟨⟨rfl⟩,hn,rfl⟩:(g=g')∧n=rows.length∧c=cap:=by
     simp only [Value.slice.injEq,Option.some.injEq,Addr.mk.injEq] at h1
     exact ⟨h1.1.1,h1.2.1,h1.2.2⟩
   subst hn
   refine ⟨cur.toList,rfl,h3,h4,by simpa using h5,h6,h0,H.turn i hi _ H.grown (Nat.le_refl _) (fun _ _ _=>rfl) (by show Blk w g cur.toList e;unfold Blk;simpa using h2) (fun b hb=>?_)⟩
   have hb:b=g:=hb
   subst hb
   exact ⟨.inl rfl,hf.2⟩
theorem blkRws {w0 w:World} {row:Option Nat} {rs:List Res} {e:TypeId} {sz n c g:Nat} {cur:List Value} {rows:List (List Value)} (H:Own w0 row w rs) (i:Nat) (hi:rs[i]? = some (.blk g cur e)) (hn:n=rows.length) (hc:n≤c) (hm:c≤maxLen) (hl:cur.length=c * sz) (ht:cur.take (n * sz)=rows.flatten) (hf:rows.flatten.length=n * sz) :
   Own w0 row w (rs.set i (.rws e sz (.slice (some ⟨g,0,none⟩) n c) rows)):=by
 have hB:=H.blk i hi
 subst hn;refine H.turn i hi _ H.grown (Nat.le_refl _) (fun _ _ _=>rfl) ⟨hf,.inr ⟨g,c,cur.toArray,rfl,Nat.zero_le _,hB,hc,hm,by simpa using hl,by simpa using ht⟩⟩ (fun b hb=>?_)
 have hb:Value.ownBlock (.slice (some ⟨g,0,none⟩) rows.length c)=some b:=hb
 simp only [Value.ownBlock,Option.some.injEq] at hb
 subst hb
 exact ⟨.inl rfl,(H.foot i _ hi g rfl).2⟩
theorem LH:∀ (vs cs:List Value) (o:Nat),(Qn cs o vs).length=cs.length
 | [],_,_=>rfl
 | v :: r,cs,o=>by rw [Qn,LH r,List.length_set]
theorem Bp:∀ (vs cs:List Value) (o m:Nat),(Qn cs o vs).take m=Qn (cs.take m) o vs
 | [],_,_,_=>rfl
 | v :: r,cs,o,m=>by rw [Qn,Qn,Bp r,List.take_set]
theorem Cz:∀ (vs cs:List Value) (o m:Nat),m≤o→(Qn cs o vs).take m=cs.take m
 | [],_,_,_,_=>rfl
 | v :: r,cs,o,m,h=>by
   rw [Qn,Cz r _ _ _ (by omega),List.take_set]
   exact List.set_eq_of_length_le (by rw [List.length_take];omega)
theorem Xhl {sz:Nat} {rows:List (List Value)} (hr:∀ r ∈ rows,r.length=sz) {j:Nat} (hj:j < rows.length) {cs:List Value} (hc:cs.length=sz):(rows.set j cs).flatten=Qn rows.flatten (j * sz) cs:=by
 have hr2:∀ r ∈ rows.set j cs,r.length=sz:=fun r hm=>by
   rcases List.mem_or_eq_of_mem_set hm with h | h
   · exact hr r h
   · rw [h];exact hc
 have hl:=EV rows hr
 have hb:j * sz+cs.length≤rows.flatten.length:=by
   rw [hl,hc]
   have:=Nat.mul_le_mul_right sz (show j+1≤rows.length from hj)
   rw [Nat.add_mul] at this;omega
 apply List.ext_getElem?
 intro t
 rw [MB _ _ _ _ hb,hc]
 by_cases ht:t < rows.length * sz
 · have k0:0 < sz:=by
     rcases Nat.eq_zero_or_pos sz with h | h
     · subst h;simp at ht
     · exact h
   have hq:t / sz < rows.length:=Nat.div_lt_of_lt_mul (by rw [Nat.mul_comm];exact ht)
   have hm:t % sz < sz:=Nat.mod_lt _ k0
   have e1:t / sz * sz+t % sz=t:=by rw [Nat.mul_comm];exact Nat.div_add_mod t sz
   have a1:=BO rows hr (t / sz) rows[t / sz] (List.getElem?_eq_getElem hq) (t % sz) (rows[t / sz][t % sz]'(by rw [hr _ (List.getElem_mem _)];exact hm)) (List.getElem?_eq_getElem _)
   rw [e1] at a1
   by_cases hjt:t / sz=j
   · have a2:=BO (rows.set j cs) hr2 (t / sz) cs (by rw [hjt,List.getElem?_set,if_pos rfl,if_pos hj]) (t % sz) (cs[t % sz]'(by omega)) (List.getElem?_eq_getElem _)
     rw [e1] at a2;subst hjt;rw [a2,if_pos (by omega),List.getElem?_eq_getElem (by omega)]
     congr 2
     omega
   · have a2:=BO (rows.set j cs) hr2 (t / sz) rows[t / sz] (by rw [List.getElem?_set,if_neg (Ne.symm hjt)];exact List.getElem?_eq_getElem hq) (t % sz) (rows[t / sz][t % sz]'(by rw [hr _ (List.getElem_mem _)];exact hm)) (List.getElem?_eq_getElem _)
     rw [e1] at a2;rw [a2,a1,if_neg];rintro ⟨h1,h2⟩
     exact hjt (Nat.div_eq_of_lt_le h1 (by rw [Nat.add_mul];omega))
 · rw [List.getElem?_eq_none (by rw [EV _ hr2,List.length_set];omega),if_neg (by
     rw [hl,hc] at hb;omega),List.getElem?_eq_none (by rw [hl];omega)]
theorem Xbp {sz:Nat}:∀ (rows:List (List Value)),(∀ r ∈ rows,r.length=sz)→∀ k,k≤rows.length→(rows.take k).flatten=rows.flatten.take (k * sz)
 | [],_,k,hk=>by
   have:k=0:=by simpa using hk
   subst this;simp
 | r0 :: rest,hr,0,_=>by simp
 | r0 :: rest,hr,k+1,hk=>by
   have h0:r0.length=sz:=hr r0 (by simp)
   rw [List.take_succ_cons,List.flatten_cons,List.flatten_cons,Xbp rest (fun r hm=>hr r (by simp [hm])) k (by simpa using hk),List.take_append,List.take_of_length_le (l:=r0) (by rw [h0,Nat.add_mul];omega),h0]
   congr 2
   rw [Nat.add_mul];omega
section
variable {P:Program} {l:List Oper} {Q:Exit→Act→World→Prop} {N:Nat} {a:Act} {env:List (Nat × Value)} {rest:List Oper} {d:Tmp} {ty:TypeId} {pos:String} {af:Array Edge} {g:Option (Nat × Bool)} {w0 w:World} {row:Option Nat} {rs:List Res}
theorem sStR {t e:TypeId} {x y:Operand} {sz n c gb o j:Nat} {rows:List (List Value)} {cs:List Value} (H:Own w0 row w rs) (i:Nat) (hz:∀ w,(sizeOf t).run P w = .ok sz w) (F:Has N a env) (hg:JK l env g=true)
   (hx:ev env x=some (.pointer (some ⟨gb,o,none⟩))) (hy:ev env y=some (.agg cs.toArray)) (hi:rs[i]? = some (.rws e sz (.slice (some ⟨gb,0,none⟩) n c) rows)) (ho:o=j * sz) (hj:j < rows.length) (hr:∀ r ∈ rows,r.length=sz) (hc:cs.length=sz) (h1:cs.all (·.oneCell')=true)
   (K:∀ w,Own w0 row w (rs.set i (.rws e sz (.slice (some ⟨gb,0,none⟩) n c) (rows.set j cs)))→wpList P l.toArray Q rest a w):wpList P l.toArray Q (⟨none,.store t x y,ty,pos,af,g⟩ :: rest) a w:=by
 subst ho
 obtain ⟨cur,hn,hnc,hm,hl,ht,hf,H2⟩:=Xiv H i hi
 have hi2:(rs.set i (.blk gb cur e))[i]? = some (.blk gb cur e):=by
   rw [List.getElem?_set,if_pos rfl,if_pos (List.getElem?_eq_some_iff.1 hi).1]
 have hb:j * sz+cs.length≤n * sz:=by
   rw [hc,hn]
   have:=Nat.mul_le_mul_right sz (show j+1≤rows.length from hj)
   rw [Nat.add_mul] at this;omega
 have hb2:n * sz≤c * sz:=Nat.mul_le_mul_right _ hnc
 have H3:=Own.setCells i cs (j * sz) w _ cur H2 hi2
 rw [List.set_set] at H3
 have hi3:(rs.set i (.blk gb (Qn cur (j * sz) cs) e))[i]? = some (.blk gb (Qn cur (j * sz) cs) e):=by
   rw [List.getElem?_set,if_pos rfl,if_pos (List.getElem?_eq_some_iff.1 hi).1]
 have hset:=Xhl hr hj hc
 have H4:=blkRws (sz:=sz) (n:=n) (c:=c) (rows:=rows.set j cs) H3 i hi3 (by rw [List.length_set];exact hn) hnc hm (by rw [LH];exact hl) (by rw [Bp,ht,hset]) (by rw [hset,LH];exact hf)
 rw [List.set_set] at H4
 exact Xem F hg rfl (w':=w.setCells gb (j * sz) cs) (by
   simp only [execOp,F.eval hx,F.eval hy]
   have h2:=run_storeAt_mid (P:=P) w gb (j * sz) t cs.toArray (by simpa using H2.there i hi2 (j * sz) cs.length (Nat.ble_eq_true_of_le (by omega))) (by rw [Jz hz,List.size_toArray,hc]) (by simpa using h1)
   simp only [Sem.run_bind,h2,Result.andThen_ok,Sem.run_pure]) (K _ H4)
theorem stepN {o:Oper} {v:Value} {w':World} (F:Has N a env) (hg:JK l env o.guard=true) (hd:o.dst=none)
   (hr:(execOp a.eval o).run P w = .ok (.value v) w') (K:wpList P l.toArray Q rest a w'):wpList P l.toArray Q (o :: rest) a w:=by
 unfold wpList
 rw [if_pos (Nf F hg)];refine .inl ?_
 unfold Oper.wp
 rw [hr,Oper.upon_value,hd]
 exact K
theorem sClr {t e:TypeId} {x:Operand} {z:Array Value} {sz n c gb o k m c':Nat} {rows:List (List Value)} (H:Own w0 row w rs) (i:Nat) (ht:P.underlying t=some (.slice e)) (hz:∀ w,(zeroValue e).run P w = .ok (.agg z) w) (hzs:z.size=sz) (hz1:z.toList.all (·.oneCell')=true) (F:Has N a env) (hg:JK l env g=true)
   (hx:ev env x=some (.slice (some ⟨gb,o,none⟩) m c')) (hi:rs[i]? = some (.rws e sz (.slice (some ⟨gb,0,none⟩) n c) rows)) (ho:o=k * sz) (hm:k+m=n) (hr:∀ r ∈ rows,r.length=sz)
   (K:∀ w,Own w0 row w (rs.set i (.rws e sz (.slice (some ⟨gb,0,none⟩) k c) (rows.take k)))→wpList P l.toArray Q rest a w):wpList P l.toArray Q (⟨none,.call ⟨.builtin .clear,#[x],#[t]⟩,ty,pos,af,g⟩ :: rest) a w:=by
 subst ho
 obtain ⟨cur,hn,hnc,hmx,hl,htk,hf,H2⟩:=Xiv H i hi
 have hi2:(rs.set i (.blk gb cur e))[i]? = some (.blk gb cur e):=by
   rw [List.getElem?_set,if_pos rfl,if_pos (List.getElem?_eq_some_iff.1 hi).1]
 have hzl:(Builtin.zeroCells z m).toList.length=m * sz:=by rw [Array.length_toList,Mt,hzs]
 have hb:k * sz+m * sz=n * sz:=by rw [← Nat.add_mul,hm]
 have hb2:n * sz≤c * sz:=Nat.mul_le_mul_right _ hnc
 have hones:∀ v ∈ (Builtin.zeroCells z m).toList,v.oneCell'=true:=fun v hv=>by
   unfold Builtin.zeroCells at hv
   rw [Array.toList_map] at hv
   obtain ⟨q,hq,rfl⟩:=List.mem_map.1 hv
   have hq:q < m * z.size:=by simpa using hq
   have hp:0 < z.size:=by
     rcases Nat.eq_zero_or_pos z.size with h | h
     · rw [h] at hq;simp at hq
     · exact h
   have hlt:q % z.size < z.size:=Nat.mod_lt _ hp
   rw [getElem!_pos z _ hlt]
   exact List.all_eq_true.1 hz1 _ (Array.getElem_mem_toList hlt)
 have H3:=Own.setCells i (Builtin.zeroCells z m).toList (k * sz) w _ cur H2 hi2
 rw [List.set_set] at H3
 have hi3:(rs.set i (.blk gb (Qn cur (k * sz) (Builtin.zeroCells z m).toList) e))[i]? = some (.blk gb (Qn cur (k * sz) (Builtin.zeroCells z m).toList) e):=by
   rw [List.getElem?_set,if_pos rfl,if_pos (List.getElem?_eq_some_iff.1 hi).1]
 have hkt:(rows.take k).flatten=rows.flatten.take (k * sz):=Xbp rows hr k (by omega)
 have H4:=blkRws (sz:=sz) (n:=k) (c:=c) (rows:=rows.take k) H3 i hi3 (by rw [List.length_take];omega) (by omega) hmx (by rw [LH];exact hl) (by rw [Cz _ _ _ _ (Nat.le_refl _),hkt,← htk,List.take_take,Nat.min_eq_left (by omega)]) (by rw [hkt,List.length_take,hf];omega)
 rw [List.set_set] at H4
 refine stepN (v:=.tuple #[]) F hg rfl (w':=w.setCells gb (k * sz) (Builtin.zeroCells z m).toList) ?_ (K _ H4)
 have hth:=H2.there i hi2 (k * sz) (m * sz) (Nat.ble_eq_true_of_le (by omega))
 have hst:=run_storeCells_cells (P:=P) gb (k * sz) (Builtin.zeroCells z m).toList 0 w (fun q hq=>by rw [Nat.add_zero];exact (hth q (by omega)).1) (fun q hq=>by rw [Nat.add_zero];exact (hth q (by omega)).2) hones
 rw [Nat.add_zero] at hst
 simp only [execOp,resolve,List.map_toArray,List.map_cons,List.map_nil,F.eval hx]
 cases m with
 | zero=>
   have e0:w.setCells gb (k * sz) (Builtin.zeroCells z 0).toList=w:=by
     have:(Builtin.zeroCells z 0).toList=[]:=List.eq_nil_of_length_eq_zero (by rw [hzl];omega)
     rw [this];rfl
   rw [e0]
   simp [invoke,builtin,Builtin.clear_,run_underlying ht,go_sem]
 | succ m=>
   simp [invoke,builtin,Builtin.clear_,run_underlying ht,hz,hst,go_sem]
end
theorem DO:∀ {L:List (List UInt8)} {x y:List UInt8},L.getLast? = some x→JQ (L++[y])=if x=y then JQ L else JQ L++[y]
 | [],x,y,h=>by cases h
 | [a],x,y,h=>by
   have:a=x:=by simpa using h
   subst this
   have e:JQ ([a]++[y])=if a=y then JQ [y] else a :: JQ [y]:=by
     show JQ (a :: y :: [])=_
     simp only [JQ]
   rw [e]
   by_cases h1:a=y
   · rw [if_pos h1,if_pos h1,h1]
   · rw [if_neg h1,if_neg h1]
     simp [JQ]
 | a :: b :: r,x,y,h=>by
   have ih:=DO (L:=b :: r) (x:=x) (y:=y) (by simpa using h)
   have e1:JQ (a :: b :: r++[y])=if a=b then JQ (b :: (r++[y])) else a :: JQ (b :: (r++[y])):=by
     show JQ (a :: b :: (r++[y]))=_
     rw [JQ]
   have e2:JQ (a :: b :: r)=if a=b then JQ (b :: r) else a :: JQ (b :: r):=by rw [JQ]
   have ih:JQ (b :: (r++[y]))=_:=ih
   rw [e1,e2,ih]
   by_cases h1:a=b
   · rw [if_pos h1,if_pos h1]
   · rw [if_neg h1,if_neg h1]
     by_cases h2:x=y
     · rw [if_pos h2,if_pos h2]
     · rw [if_neg h2,if_neg h2];rfl
end Go.Proofs.YtcpehikcegoojaaGreatDoor
