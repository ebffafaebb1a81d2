/-
  A slice of the function's own: an element is stored; its tail is cleared. Conditions: none.
-/
import Derived.Test.YtbgnapmaimkpkaaGreatDoorJn5
import Derived.Test.YtbgnapmaimkpkaaGreatDoorJn4
set_option linter.unusedSimpArgs false
set_option linter.unusedVariables false
namespace Go.Proofs.YtbgnapmaimkpkaaGreatDoor
-- RnL
open Go.RowKit
set_option maxRecDepth 100000
theorem rwsBlk {w0 w:World} {row:Option Nat} {rs:List Res} {e:TypeId} {sz n c g:Nat} {rows:List (List Value)} (H:Own w0 row w rs) (i:Nat) (hi:rs[i]? = some (.rws e sz (.slice (some ⟨g,0,none⟩) n c) rows)) :
   ∃ cur:List Value,n=rows.length∧n≤c∧c≤maxLen∧cur.length=c * sz∧cur.take (n * sz)=rows.flatten∧rows.flatten.length=n * sz∧Own w0 row w (rs.set i (.blk g cur e)):=by
 have h:w.ownsRow 0 e sz (.slice (some ⟨g,0,none⟩) n c) rows.length rows.flatten:=H.pred i _ hi
 have hf:=H.foot i _ hi g rfl
 obtain ⟨h0,⟨h1,_⟩ | ⟨g',cap,cur,h1,_,h2,h3,h4,h5,h6⟩⟩:=h
 · cases h1
 · obtain ⟨⟨rfl⟩,hn,rfl⟩:(g=g')∧n=rows.length∧c=cap:=by
     simp only [Value.slice.injEq,Option.some.injEq,Addr.mk.injEq] at h1
     exact ⟨h1.1.1,h1.2.1,h1.2.2⟩
   subst hn
   refine ⟨cur.toList,rfl,h3,h4,by simpa using h5,h6,h0,H.turn i hi _ H.grown (Nat.le_refl _) (fun _ _ _=>rfl) (by show Blk w g cur.toList e;unfold Blk;simpa using h2) (fun b hb=>?_)⟩
   have hb:b=g:=hb
   subst hb
   exact ⟨.inl rfl,hf.2⟩
theorem blkRws {w0 w:World} {row:Option Nat} {rs:List Res} {e:TypeId} {sz n c g:Nat} {cur:List Value} {rows:List (List Value)} (H:Own w0 row w rs) (i:Nat) (hi:rs[i]? = some (.blk g cur e)) (hn:n=rows.length) (hc:n≤c) (hm:c≤maxLen) (hl:cur.length=c * sz) (ht:cur.take (n * sz)=rows.flatten) (hf:rows.flatten.length=n * sz) :
   Own w0 row w (rs.set i (.rws e sz (.slice (some ⟨g,0,none⟩) n c) rows)):=by
 have hB:=H.blk i hi
 subst hn;refine H.turn i hi _ H.grown (Nat.le_refl _) (fun _ _ _=>rfl) ⟨hf,.inr ⟨g,c,cur.toArray,rfl,Nat.zero_le _,hB,hc,hm,by simpa using hl,by simpa using ht⟩⟩ (fun b hb=>?_)
 have hb:Value.ownBlock (.slice (some ⟨g,0,none⟩) rows.length c)=some b:=hb
 simp only [Value.ownBlock,Option.some.injEq] at hb
 subst hb
 exact ⟨.inl rfl,(H.foot i _ hi g rfl).2⟩
theorem splice_len:∀ (vs cs:List Value) (o:Nat),(splice cs o vs).length=cs.length
 | [],_,_=>rfl
 | v :: r,cs,o=>by rw [splice,splice_len r,List.length_set]
theorem splice_take:∀ (vs cs:List Value) (o m:Nat),(splice cs o vs).take m=splice (cs.take m) o vs
 | [],_,_,_=>rfl
 | v :: r,cs,o,m=>by rw [splice,splice,splice_take r,List.take_set]
theorem splice_low:∀ (vs cs:List Value) (o m:Nat),m≤o→(splice cs o vs).take m=cs.take m
 | [],_,_,_,_=>rfl
 | v :: r,cs,o,m,h=>by
   rw [splice,splice_low r _ _ _ (by omega),List.take_set]
   exact List.set_eq_of_length_le (by rw [List.length_take];omega)
theorem set_flat {sz:Nat} {rows:List (List Value)} (hr:∀ r ∈ rows,r.length=sz) {j:Nat} (hj:j < rows.length) {cs:List Value} (hc:cs.length=sz):(rows.set j cs).flatten=splice rows.flatten (j * sz) cs:=by
 have hr2:∀ r ∈ rows.set j cs,r.length=sz:=fun r hm=>by
   rcases List.mem_or_eq_of_mem_set hm with h | h
   · exact hr r h
   · rw [h];exact hc
 have hl:=flat_len rows hr
 have hb:j * sz+cs.length≤rows.flatten.length:=by
   rw [hl,hc]
   have:=Nat.mul_le_mul_right sz (show j+1≤rows.length from hj)
   rw [Nat.add_mul] at this;omega
 apply List.ext_getElem?
 intro t
 rw [splice_get _ _ _ _ hb,hc]
 by_cases ht:t < rows.length * sz
 · have k0:0 < sz:=by
     rcases Nat.eq_zero_or_pos sz with h | h
     · subst h;simp at ht
     · exact h
   have hq:t / sz < rows.length:=Nat.div_lt_of_lt_mul (by rw [Nat.mul_comm];exact ht)
   have hm:t % sz < sz:=Nat.mod_lt _ k0
   have e1:t / sz * sz+t % sz=t:=by rw [Nat.mul_comm];exact Nat.div_add_mod t sz
   have a1:=flat_at rows hr (t / sz) rows[t / sz] (List.getElem?_eq_getElem hq) (t % sz) (rows[t / sz][t % sz]'(by rw [hr _ (List.getElem_mem _)];exact hm)) (List.getElem?_eq_getElem _)
   rw [e1] at a1
   by_cases hjt:t / sz=j
   · have a2:=flat_at (rows.set j cs) hr2 (t / sz) cs (by rw [hjt,List.getElem?_set,if_pos rfl,if_pos hj]) (t % sz) (cs[t % sz]'(by omega)) (List.getElem?_eq_getElem _)
     rw [e1] at a2;subst hjt;rw [a2,if_pos (by omega),List.getElem?_eq_getElem (by omega)]
     congr 2
     omega
   · have a2:=flat_at (rows.set j cs) hr2 (t / sz) rows[t / sz] (by rw [List.getElem?_set,if_neg (Ne.symm hjt)];exact List.getElem?_eq_getElem hq) (t % sz) (rows[t / sz][t % sz]'(by rw [hr _ (List.getElem_mem _)];exact hm)) (List.getElem?_eq_getElem _)
     rw [e1] at a2;rw [a2,a1,if_neg];rintro ⟨h1,h2⟩
     exact hjt (Nat.div_eq_of_lt_le h1 (by rw [Nat.add_mul];omega))
 · rw [List.getElem?_eq_none (by rw [flat_len _ hr2,List.length_set];omega),if_neg (by
     rw [hl,hc] at hb;omega),List.getElem?_eq_none (by rw [hl];omega)]
theorem take_flat {sz:Nat}:∀ (rows:List (List Value)),(∀ r ∈ rows,r.length=sz)→∀ k,k≤rows.length→(rows.take k).flatten=rows.flatten.take (k * sz)
 | [],_,k,hk=>by
   have:k=0:=by simpa using hk
   subst this;simp
 | r0 :: rest,hr,0,_=>by simp
 | r0 :: rest,hr,k+1,hk=>by
   have h0:r0.length=sz:=hr r0 (by simp)
   rw [List.take_succ_cons,List.flatten_cons,List.flatten_cons,take_flat rest (fun r hm=>hr r (by simp [hm])) k (by simpa using hk),List.take_append,List.take_of_length_le (l:=r0) (by rw [h0,Nat.add_mul];omega),h0]
   congr 2
   rw [Nat.add_mul];omega
section
variable {P:Program} {l:List Oper} {Q:Exit→Act→World→Prop} {N:Nat} {a:Act} {env:List (Nat × Value)} {rest:List Oper} {d:Tmp} {ty:TypeId} {pos:String} {af:Array Edge} {g:Option (Nat × Bool)} {w0 w:World} {row:Option Nat} {rs:List Res}
theorem sStR {t e:TypeId} {x y:Operand} {sz n c gb o j:Nat} {rows:List (List Value)} {cs:List Value} (H:Own w0 row w rs) (i:Nat) (hz:∀ w,(sizeOf t).run P w = .ok sz w) (F:Has N a env) (hg:wants l env g=true)
   (hx:ev env x=some (.pointer (some ⟨gb,o,none⟩))) (hy:ev env y=some (.agg cs.toArray)) (hi:rs[i]? = some (.rws e sz (.slice (some ⟨gb,0,none⟩) n c) rows)) (ho:o=j * sz) (hj:j < rows.length) (hr:∀ r ∈ rows,r.length=sz) (hc:cs.length=sz) (h1:cs.all (·.oneCell')=true)
   (K:∀ w,Own w0 row w (rs.set i (.rws e sz (.slice (some ⟨gb,0,none⟩) n c) (rows.set j cs)))→wpList P l.toArray Q rest a w):wpList P l.toArray Q (⟨none,.store t x y,ty,pos,af,g⟩ :: rest) a w:=by
 subst ho
 obtain ⟨cur,hn,hnc,hm,hl,ht,hf,H2⟩:=rwsBlk H i hi
 have hi2:(rs.set i (.blk gb cur e))[i]? = some (.blk gb cur e):=by
   rw [List.getElem?_set,if_pos rfl,if_pos (List.getElem?_eq_some_iff.1 hi).1]
 have hb:j * sz+cs.length≤n * sz:=by
   rw [hc,hn]
   have:=Nat.mul_le_mul_right sz (show j+1≤rows.length from hj)
   rw [Nat.add_mul] at this;omega
 have hb2:n * sz≤c * sz:=Nat.mul_le_mul_right _ hnc
 have H3:=Own.setCells i cs (j * sz) w _ cur H2 hi2
 rw [List.set_set] at H3
 have hi3:(rs.set i (.blk gb (splice cur (j * sz) cs) e))[i]? = some (.blk gb (splice cur (j * sz) cs) e):=by
   rw [List.getElem?_set,if_pos rfl,if_pos (List.getElem?_eq_some_iff.1 hi).1]
 have hset:=set_flat hr hj hc
 have H4:=blkRws (sz:=sz) (n:=n) (c:=c) (rows:=rows.set j cs) H3 i hi3 (by rw [List.length_set];exact hn) hnc hm (by rw [splice_len];exact hl) (by rw [splice_take,ht,hset]) (by rw [hset,splice_len];exact hf)
 rw [List.set_set] at H4
 exact stepU F hg rfl (w':=w.setCells gb (j * sz) cs) (by
   simp only [execOp,F.eval hx,F.eval hy]
   have h2:=run_storeAt_mid (P:=P) w gb (j * sz) t cs.toArray (by simpa using H2.there i hi2 (j * sz) cs.length (Nat.ble_eq_true_of_le (by omega))) (by rw [info_size hz,List.size_toArray,hc]) (by simpa using h1)
   simp only [Sem.run_bind,h2,Result.andThen_ok,Sem.run_pure]) (K _ H4)
theorem stepN {o:Oper} {v:Value} {w':World} (F:Has N a env) (hg:wants l env o.guard=true) (hd:o.dst=none)
   (hr:(execOp a.eval o).run P w = .ok (.value v) w') (K:wpList P l.toArray Q rest a w'):wpList P l.toArray Q (o :: rest) a w:=by
 unfold wpList
 rw [if_pos (wanted_of F hg)];refine .inl ?_
 unfold Oper.wp
 rw [hr,Oper.upon_value,hd]
 exact K
theorem sClr {t e:TypeId} {x:Operand} {z:Array Value} {sz n c gb o k m c':Nat} {rows:List (List Value)} (H:Own w0 row w rs) (i:Nat) (ht:P.underlying t=some (.slice e)) (hz:∀ w,(zeroValue e).run P w = .ok (.agg z) w) (hzs:z.size=sz) (hz1:z.toList.all (·.oneCell')=true) (F:Has N a env) (hg:wants l env g=true)
   (hx:ev env x=some (.slice (some ⟨gb,o,none⟩) m c')) (hi:rs[i]? = some (.rws e sz (.slice (some ⟨gb,0,none⟩) n c) rows)) (ho:o=k * sz) (hm:k+m=n) (hr:∀ r ∈ rows,r.length=sz)
   (K:∀ w,Own w0 row w (rs.set i (.rws e sz (.slice (some ⟨gb,0,none⟩) k c) (rows.take k)))→wpList P l.toArray Q rest a w):wpList P l.toArray Q (⟨none,.call ⟨.builtin .clear,#[x],#[t]⟩,ty,pos,af,g⟩ :: rest) a w:=by
 subst ho
 obtain ⟨cur,hn,hnc,hmx,hl,htk,hf,H2⟩:=rwsBlk H i hi
 have hi2:(rs.set i (.blk gb cur e))[i]? = some (.blk gb cur e):=by
   rw [List.getElem?_set,if_pos rfl,if_pos (List.getElem?_eq_some_iff.1 hi).1]
 have hzl:(Builtin.zeroCells z m).toList.length=m * sz:=by rw [Array.length_toList,zeroCells_size,hzs]
 have hb:k * sz+m * sz=n * sz:=by rw [← Nat.add_mul,hm]
 have hb2:n * sz≤c * sz:=Nat.mul_le_mul_right _ hnc
 have hones:∀ v ∈ (Builtin.zeroCells z m).toList,v.oneCell'=true:=fun v hv=>by
   unfold Builtin.zeroCells at hv
   rw [Array.toList_map] at hv
   obtain ⟨q,hq,rfl⟩:=List.mem_map.1 hv
   have hq:q < m * z.size:=by simpa using hq
   have hp:0 < z.size:=by
     rcases Nat.eq_zero_or_pos z.size with h | h
     · rw [h] at hq;simp at hq
     · exact h
   have hlt:q % z.size < z.size:=Nat.mod_lt _ hp
   rw [getElem!_pos z _ hlt]
   exact List.all_eq_true.1 hz1 _ (Array.getElem_mem_toList hlt)
 have H3:=Own.setCells i (Builtin.zeroCells z m).toList (k * sz) w _ cur H2 hi2
 rw [List.set_set] at H3
 have hi3:(rs.set i (.blk gb (splice cur (k * sz) (Builtin.zeroCells z m).toList) e))[i]? = some (.blk gb (splice cur (k * sz) (Builtin.zeroCells z m).toList) e):=by
   rw [List.getElem?_set,if_pos rfl,if_pos (List.getElem?_eq_some_iff.1 hi).1]
 have hkt:(rows.take k).flatten=rows.flatten.take (k * sz):=take_flat rows hr k (by omega)
 have H4:=blkRws (sz:=sz) (n:=k) (c:=c) (rows:=rows.take k) H3 i hi3 (by rw [List.length_take];omega) (by omega) hmx (by rw [splice_len];exact hl) (by rw [splice_low _ _ _ _ (Nat.le_refl _),hkt,← htk,List.take_take,Nat.min_eq_left (by omega)]) (by rw [hkt,List.length_take,hf];omega)
 rw [List.set_set] at H4
 refine stepN (v:=.tuple #[]) F hg rfl (w':=w.setCells gb (k * sz) (Builtin.zeroCells z m).toList) ?_ (K _ H4)
 have hth:=H2.there i hi2 (k * sz) (m * sz) (Nat.ble_eq_true_of_le (by omega))
 have hst:=run_storeCells_cells (P:=P) gb (k * sz) (Builtin.zeroCells z m).toList 0 w (fun q hq=>by rw [Nat.add_zero];exact (hth q (by omega)).1) (fun q hq=>by rw [Nat.add_zero];exact (hth q (by omega)).2) hones
 rw [Nat.add_zero] at hst
 simp only [execOp,resolve,List.map_toArray,List.map_cons,List.map_nil,F.eval hx]
 cases m with
 | zero=>
   have e0:w.setCells gb (k * sz) (Builtin.zeroCells z 0).toList=w:=by
     have:(Builtin.zeroCells z 0).toList=[]:=List.eq_nil_of_length_eq_zero (by rw [hzl];omega)
     rw [this];rfl
   rw [e0]
   simp [invoke,builtin,Builtin.clear_,run_underlying ht,go_sem]
 | succ m=>
   simp [invoke,builtin,Builtin.clear_,run_underlying ht,hz,hst,go_sem]
end
theorem compact_snoc:∀ {L:List (List UInt8)} {x y:List UInt8},L.getLast? = some x→compactL (L++[y])=if x=y then compactL L else compactL L++[y]
 | [],x,y,h=>by cases h
 | [a],x,y,h=>by
   have:a=x:=by simpa using h
   subst this
   have e:compactL ([a]++[y])=if a=y then compactL [y] else a :: compactL [y]:=by
     show compactL (a :: y :: [])=_
     simp only [compactL]
   rw [e]
   by_cases h1:a=y
   · rw [if_pos h1,if_pos h1,h1]
   · rw [if_neg h1,if_neg h1]
     simp [compactL]
 | a :: b :: r,x,y,h=>by
   have ih:=compact_snoc (L:=b :: r) (x:=x) (y:=y) (by simpa using h)
   have e1:compactL (a :: b :: r++[y])=if a=b then compactL (b :: (r++[y])) else a :: compactL (b :: (r++[y])):=by
     show compactL (a :: b :: (r++[y]))=_
     rw [compactL]
   have e2:compactL (a :: b :: r)=if a=b then compactL (b :: r) else a :: compactL (b :: r):=by rw [compactL]
   have ih:compactL (b :: (r++[y]))=_:=ih
   rw [e1,e2,ih]
   by_cases h1:a=b
   · rw [if_pos h1,if_pos h1]
   · rw [if_neg h1,if_neg h1]
     by_cases h2:x=y
     · rw [if_pos h2,if_pos h2]
     · rw [if_neg h2,if_neg h2];rfl
-- RnM
open Go.Proofs.Tryz
open Go.RowKit
set_option maxRecDepth 100000
theorem rowAt {w0 w:World} {row:Option Nat} {rs:List Res} {e:TypeId} {n c gb j:Nat} {arr:List By} {u:By} (H:Own w0 row w rs) (i:Nat) (hi:rs[i]? = some (.rws e 38 (.slice (some ⟨gb,0,none⟩) n c) (arr.map (bs 38)))) (hj:arr[j]? = some u) {o:Nat} (ho:o=j * 38):w.rangeAt gb o (bs 38 u):=by
 obtain ⟨b,off,h1,h2⟩:=H.rowsAt i hi (bs38_len arr) (by decide) j (bs 38 u) (by rw [List.getElem?_map,hj];rfl)
 simp only [Option.some.injEq,Addr.mk.injEq] at h1
 obtain ⟨rfl,rfl,_⟩:=h1
 rw [ho]
 rwa [Nat.zero_add] at h2
theorem own_rowstart {w0:World} {e:TypeId} {sz n c gb:Nat} {rows:List (List Value)} (hw:w0.ownsRow 0 e sz (.slice (some ⟨gb,0,none⟩) n c) rows.length rows.flatten):Own w0 (some gb) w0 [.rws e sz (.slice (some ⟨gb,0,none⟩) n c) rows] where
 grown:=only_refl _ _
 pred:=fun i r h=>by
   cases i with
   | zero=>cases h;exact hw
   | succ i=>simp at h
 foot:=fun i r h b hb=>by
   cases i with
   | zero=>
     cases h
     have hb:Value.ownBlock (.slice (some ⟨gb,0,none⟩) n c)=some b:=hb
     have hb2:=hb
     simp only [Value.ownBlock,Option.some.injEq] at hb
     subst hb
     exact ⟨.inr rfl,(hw.lt _ hb2).2⟩
   | succ i=>simp at h
 apart:=fun i j r s hi hj hij=>by
   have:i=0:=by have:=(List.getElem?_eq_some_iff.1 hi).1;simpa using this
   have:j=0:=by have:=(List.getElem?_eq_some_iff.1 hj).1;simpa using this
   omega
theorem same_comm (n:Nat) (f g:By):same n f g=same n g f:=by
 rw [Bool.eq_iff_iff,same_iff,same_iff]
 exact ⟨fun h i hi=>(h i hi).symm,fun h i hi=>(h i hi).symm⟩
def tl (l:List By):List (List UInt8):=l.map (toL 38)
theorem tl_snoc {l:List By} {j:Nat} {u:By} (h:l[j]? = some u):tl (l.take (j+1))=tl (l.take j)++[toL 38 u]:=by
 unfold tl
 rw [List.take_add_one,h,List.map_append];rfl
theorem tl_last {l:List By} {j:Nat} {u:By} (h1:1≤j) (h:l[j - 1]? = some u):(tl (l.take j)).getLast? = some (toL 38 u):=by
 obtain ⟨j,rfl⟩:∃ i,j=i+1:=⟨j - 1,by omega⟩
 have h:l[j]? = some u:=h
 rw [tl_snoc h];simp
theorem tl_step {l:List By} {j:Nat} {u v:By} (h1:1≤j) (hv:l[j - 1]? = some v) (hu:l[j]? = some u):compactL (tl (l.take (j+1)))=if toL 38 v=toL 38 u then compactL (tl (l.take j)) else compactL (tl (l.take j))++[toL 38 u]:=by
 rw [tl_snoc hu,compact_snoc (tl_last h1 hv)]
theorem tl_short {l:List By} (h:l.length < 2):tl l=compactL (tl l):=by
 match l,h with
 | [],_=>rfl
 | [_],_=>rfl
theorem compact_any (gb c:Nat) (l:List By) (hl:l.length≤65536) (w0:World) (hw:w0.ownsRow 0 47 38 (.slice (some ⟨gb,0,none⟩) l.length c) (l.map (bs 38)).length (l.map (bs 38)).flatten) :
   Calls Tryz.prog 100 #[.slice (some ⟨gb,0,none⟩) l.length c] w0 fun e w'=>∃ l2:List By,tl l2=compactL (tl l)∧e = .returned (.slice (some ⟨gb,0,none⟩) l2.length c)∧Own w0 (some gb) w' [.rws 47 38 (.slice (some ⟨gb,0,none⟩) l2.length c) (l2.map (bs 38))]:=by
 have H:=own_rowstart hw
 refine enterF func100 rfl ntmps100 rfl (fun a F=>?_);refine cSR fun K1 hK1=>sAs F rfl rfl rfl (qNK hK1 ?_);clear hK1;clear F a;intro a F;refine cSeq (fun K2 hK2=>?_);refine cSR fun K3 hK3=>sMv F rfl rfl rfl (qLen underlying30 rfl rfl rfl (qBin rfl rfl rfl rfl bLss (qNK hK3 ?_)));clear hK3;clear F a;intro a F
 refine cIf F rfl (fun h8=>?_) (fun h8=>?_)
 ·
  replace h8:=of_decide_eq_true h8;refine cSR fun K4 hK4=>sMv F rfl rfl rfl (qAs rfl rfl rfl (qNK hK4 ?_));clear hK4;clear F a;intro a F;refine wp_ret ?_;simp only [Exit.then];refine bRet results100 F rfl ?_
  first
  | (rw [← List.map_take] at H
     have el:(arr.take kk).length=kk:=by rw [List.length_take];omega
     have et:l.take (k+q)=l:=List.take_of_length_le (by omega)
     rw [et] at htl
     exact ⟨arr.take kk,htl,by rw [el],by rw [el];exact H.pick 0 rfl⟩)
  | (obtain rfl:k=l.length:=by omega
     rw [List.take_length] at hcm
     exact ⟨l,hcm.symm,rfl,H.pick 0 rfl⟩)
  | exact ⟨l,tl_short (by omega),rfl,H.pick 0 rfl⟩
 replace h8:=of_decide_eq_false h8;refine wp_skip (hK2 _ _ ?_);clear hK2;refine cSeq (fun K5 hK5=>?_);refine cSR fun K6 hK6=>sAs F rfl rfl rfl (qNK hK6 ?_);clear hK6;clear F a;intro a F;refine wp_block ?_
 refine cLoopR [0] (fun m ups w=>∃ k:Nat,m=l.length - k∧ups=[(3,.int .i64 ((k:Nat):Int))]∧1≤k∧k≤l.length∧compactL (tl (l.take k))=tl (l.take k)∧Own w0 (some gb) w [.rws 47 38 (.slice (some ⟨gb,0,none⟩) l.length c) (l.map (bs 38))]) F (l.length - 1) [(3,.int .i64 ((1:Nat):Int))] (by repeat (first | exact SubR.nil | (apply SubR.cons;· rfl))) ?_ ?_ ?_
 · exact ⟨1,rfl,rfl,by omega,by omega,(by match l with | []=>rfl | _ :: _=>rfl),H.sel [0] rfl rfl⟩
 · repeat (first | exact trivial | refine Le.cons rfl ?_)
 clear F
 clear H
 intro m ups a w hI F
 obtain ⟨k,rfl,rfl,hk1,hkn,hcm,H⟩:=hI
 have hlc:=(H.rwsLen 0 rfl).2.1
 refine cSeq (fun K7 hK7=>?_);refine cSR fun K8 hK8=>sMv F rfl rfl rfl (qMv rfl rfl rfl (qLen underlying30 rfl rfl rfl (qBin rfl rfl rfl rfl bLss (qNK hK8 ?_))));clear hK8;clear F a;intro a F
 refine cIf F rfl (fun h13=>?_) (fun h13=>?_)
 ·
  replace h13:=of_decide_eq_true h13
  have hkl:k < l.length:=by omega
  obtain ⟨u,hu⟩:∃ u,l[k]? = some u:=⟨_,List.getElem?_eq_getElem hkl⟩
  obtain ⟨v,hv⟩:∃ v,l[k - 1]? = some v:=⟨_,List.getElem?_eq_getElem (by omega)⟩
  have hst:=tl_step hk1 hv hu
  refine wp_skip (hK7 _ _ ?_);clear hK7;refine cSeq (fun K9 hK9=>?_);refine wp_block ?_;refine cSeq (fun K10 hK10=>?_);refine cRegDO (by kernel_rfl) H ?_;replace H:=H.drew;refine dTake (by kernel_rfl) (by kernel_rfl) F rfl rfl rfl (fun w H=>rMv F rfl) H qq0 (qDT (by kernel_rfl) (by kernel_rfl) rfl rfl rfl (fun a F w H=>rMv F rfl) H qq0 ?_);clear F a;intro a F
  refine dTake (k:=2) (by kernel_rfl) (by kernel_rfl) F rfl rfl rfl (fun w H=>rIx underlying30 sizeOf47 F rfl rfl ?_) H (fun _ _ _ h=>h) ?_
  focus exact hkl
  clear F a;intro a F;refine dTake (by kernel_rfl) (by kernel_rfl) F rfl rfl rfl (fun w H=>rLrB underlying47 rfl sizeOf47 F rfl (rowAt H 0 rfl hu (by omega))) H qq0 (qDT (by kernel_rfl) (by kernel_rfl) rfl rfl rfl (fun a F w H=>rMv F rfl) H qq0 (qDT (by kernel_rfl) (by kernel_rfl) rfl rfl rfl (fun a F w H=>rMv F rfl) H qq0 ?_));clear F a;intro a F
  refine dTake (k:=6) (by kernel_rfl) (by kernel_rfl) F rfl rfl rfl (fun w H=>rBin F rfl rfl (bSubN (j:=1) ?_ ?_)) H (fun _ _ _ h=>h) ?_
  focus omega
  focus omega
  clear F a;intro a F
  refine dTake (k:=7) (by kernel_rfl) (by kernel_rfl) F rfl rfl rfl (fun w H=>rIx underlying30 sizeOf47 F rfl rfl ?_) H (fun _ _ _ h=>h) ?_
  focus omega
  clear F a;intro a F;refine dTake (by kernel_rfl) (by kernel_rfl) F rfl rfl rfl (fun w H=>rLrB underlying47 rfl sizeOf47 F rfl (rowAt H 0 rfl hv (by omega))) H qq0 (qDT (by kernel_rfl) (by kernel_rfl) rfl rfl rfl (fun a F w H=>rBin F rfl rfl (bEqY eT47 gT47 rfl)) H qq0 ?_);clear F a;intro a F
  refine dNil (k:=10) ?_ rfl
  refine hK10 _ _ ?_;clear hK10
  refine cIf F rfl (fun h25=>?_) (fun h25=>?_)
  ·
   have heq:toL 38 v=toL 38 u:=by rw [toL_eq,same_comm];exact h25
   refine cSR fun K11 hK11=>sMv F rfl rfl rfl (qMv rfl rfl rfl ?_);clear F a;intro a F
   refine sSlL underlying30 sizeOf47 F rfl rfl rfl rfl ?_ ?_ ?_
   focus (first | omega | decide | (simp;omega))
   focus (first | omega | decide | (simp;omega))
   clear F a;intro a F;refine sAs F rfl rfl rfl (qNK hK11 ?_);clear hK11;clear F a;intro a F;refine cSeq (fun K12 hK12=>?_);refine cSR fun K13 hK13=>sAs F rfl rfl rfl (qNK hK13 ?_);clear hK13;clear F a;intro a F;refine wp_block ?_
   refine cLoopR [0,4] (fun m ups w=>∃ (q kk:Nat) (arr:List By),m=l.length - (k+q)∧ups=[(3,.int .i64 ((kk:Nat):Int)),(5,.int .i64 ((q:Nat):Int))]∧1≤q∧k+q≤l.length∧1≤kk∧kk+1≤k+q∧arr.length=l.length∧tl (arr.take kk)=compactL (tl (l.take (k+q)))∧(∀ t,kk≤t→arr[t]? = l[t]?)∧Own w0 (some gb) w [.rws 47 38 (.slice (some ⟨gb,0,none⟩) l.length c) (arr.map (bs 38))]) F (l.length - (k+1)) [(3,.int .i64 ((k:Nat):Int)),(5,.int .i64 ((1:Nat):Int))] (by repeat (first | exact SubR.nil | (apply SubR.cons;· rfl))) ?_ ?_ ?_
   · exact ⟨1,k,l,rfl,rfl,by omega,by omega,by omega,by omega,rfl,(by rw [hst,if_pos heq,hcm]),fun _ _=>rfl,H.sel [0] rfl rfl⟩
   · repeat (first | exact trivial | refine Le.cons rfl ?_)
   clear F
   clear H
   intro m ups a w hI F
   obtain ⟨q,kk,arr,rfl,rfl,hq1,hqn,hkk1,hkk,har,htl,hup,H⟩:=hI
   refine cSeq (fun K14 hK14=>?_);refine cSR fun K15 hK15=>sMv F rfl rfl rfl (qMv rfl rfl rfl (qLen underlying30 rfl rfl rfl (qBin rfl rfl rfl rfl bLss (qNK hK15 ?_))));clear hK15;clear F a;intro a F
   refine cIf F rfl (fun h32=>?_) (fun h32=>?_)
   ·
    replace h32:=of_decide_eq_true h32
    have hql:k+q < l.length:=by omega
    obtain ⟨x,hx⟩:∃ x,l[k+q]? = some x:=⟨_,List.getElem?_eq_getElem hql⟩
    obtain ⟨y,hy⟩:∃ y,l[k+q - 1]? = some y:=⟨_,List.getElem?_eq_getElem (by omega)⟩
    have hst2:=tl_step (by omega) hy hx
    have hx2:arr[k+q]? = some x:=by rw [hup _ (by omega)];exact hx
    have hy2:arr[k+q - 1]? = some y:=by rw [hup _ (by omega)];exact hy
    refine wp_skip (hK14 _ _ ?_);clear hK14;refine cSeq (fun K16 hK16=>?_);refine wp_block ?_;refine cSeq (fun K17 hK17=>?_);refine cRegDO (by kernel_rfl) H ?_;replace H:=H.drew;refine dTake (by kernel_rfl) (by kernel_rfl) F rfl rfl rfl (fun w H=>rMv F rfl) H qq0 (qDT (by kernel_rfl) (by kernel_rfl) rfl rfl rfl (fun a F w H=>rMv F rfl) H qq0 ?_);clear F a;intro a F
    refine dTake (k:=2) (by kernel_rfl) (by kernel_rfl) F rfl rfl rfl (fun w H=>rIx underlying30 sizeOf47 F rfl rfl ?_) H (fun _ _ _ h=>h) ?_
    focus omega
    clear F a;intro a F;refine dTake (by kernel_rfl) (by kernel_rfl) F rfl rfl rfl (fun w H=>rLrB underlying47 rfl sizeOf47 F rfl (rowAt H 0 rfl hx2 (by omega))) H qq0 (qDT (by kernel_rfl) (by kernel_rfl) rfl rfl rfl (fun a F w H=>rMv F rfl) H qq0 (qDT (by kernel_rfl) (by kernel_rfl) rfl rfl rfl (fun a F w H=>rMv F rfl) H qq0 ?_));clear F a;intro a F
    refine dTake (k:=6) (by kernel_rfl) (by kernel_rfl) F rfl rfl rfl (fun w H=>rBin F rfl rfl (bSubN (j:=1) ?_ ?_)) H (fun _ _ _ h=>h) ?_
    focus omega
    focus omega
    clear F a;intro a F
    refine dTake (k:=7) (by kernel_rfl) (by kernel_rfl) F rfl rfl rfl (fun w H=>rIx underlying30 sizeOf47 F rfl rfl ?_) H (fun _ _ _ h=>h) ?_
    focus omega
    clear F a;intro a F;refine dTake (by kernel_rfl) (by kernel_rfl) F rfl rfl rfl (fun w H=>rLrB underlying47 rfl sizeOf47 F rfl (rowAt H 0 rfl hy2 (by omega))) H qq0 (qDT (by kernel_rfl) (by kernel_rfl) rfl rfl rfl (fun a F w H=>rBin F rfl rfl (bNeY eT47 gT47 rfl)) H qq0 ?_);clear F a;intro a F
    refine dNil (k:=10) ?_ rfl
    refine hK17 _ _ ?_;clear hK17
    refine cIf F rfl (fun h44=>?_) (fun h44=>?_)
    ·
     replace h44:=notT h44;refine cSR fun K18 hK18=>sMv F rfl rfl rfl (qMv rfl rfl rfl (qMv rfl rfl rfl (qMv rfl rfl rfl ?_)));clear F a;intro a F
     refine sIx underlying30 sizeOf47 F rfl rfl rfl rfl ?_ ?_
     focus omega
     clear F a;intro a F;refine sLrB underlying47 rfl sizeOf47 F rfl rfl rfl (rowAt H 0 rfl hx2 (by omega)) ?_;clear F a;intro a F
     refine sIx underlying30 sizeOf47 F rfl rfl rfl rfl ?_ ?_
     focus omega
     clear F a;intro a F;refine sStR H 0 sizeOf47 F rfl rfl rfl (rfl) ((show _=kk * 38 by omega)) ((by rw [List.length_map];omega)) (bs38_len arr) (bs_length _ _) (bs38_one [x] (bs 38 x) (by simp)) ?_;clear H;intro w H;rw [← List.map_set] at H;refine nK hK18 (cReg (sMv F rfl rfl rfl ?_));clear hK18;clear F a;intro a F
     refine sBin F rfl rfl rfl rfl (bAddN (j:=1) ?_) ?_
     focus omega
     clear F a;intro a F;refine sAs F rfl rfl rfl (qNK hK16 (qReg (qMv rfl rfl rfl ?_)));clear hK16;clear F a;intro a F
     refine sBin F rfl rfl rfl rfl (bAddN (j:=1) ?_) ?_
     focus omega
     clear F a;intro a F;refine sAs F rfl rfl rfl ?_;clear F a;intro a F;refine sNil ?_
     first
     | (have hne:¬ toL 38 y=toL 38 x:=fun he=>by
         rw [toL_eq,same_comm] at he
         exact absurd he (by simpa using h44)
        exact ⟨_,by omega,_,⟨q+1,kk+1,arr.set kk x,rfl,rfl,by omega,by omega,by omega,by omega,(by rw [List.length_set];exact har),(by
         rw [show k+(q+1)=k+q+1 by omega,hst2,if_neg hne,← htl]
         rw [tl_snoc (u:=x) (by rw [List.getElem?_set,if_pos rfl,if_pos (by omega)]),List.take_set_of_le (Nat.le_refl _)]),fun t ht=>(by rw [List.getElem?_set,if_neg (by omega)];exact hup t (by omega)),H.sel [0] rfl rfl⟩,F.to (by repeat (first | exact trivial | refine Le.cons rfl ?_))⟩)
     | (have heq2:toL 38 y=toL 38 x:=by
         rw [toL_eq,same_comm];simpa using h44
        exact ⟨_,by omega,_,⟨q+1,kk,arr,rfl,rfl,by omega,by omega,by omega,by omega,har,(by rw [show k+(q+1)=k+q+1 by omega,hst2,if_pos heq2];exact htl),hup,H.sel [0] rfl rfl⟩,F.to (by repeat (first | exact trivial | refine Le.cons rfl ?_))⟩)
    replace h44:=notF h44;refine wp_skip (hK16 _ _ (cReg (sMv F rfl rfl rfl ?_)));clear hK16;clear F a;intro a F
    refine sBin F rfl rfl rfl rfl (bAddN (j:=1) ?_) ?_
    focus omega
    clear F a;intro a F;refine sAs F rfl rfl rfl ?_;clear F a;intro a F;refine sNil ?_
    first
    | (have hne:¬ toL 38 y=toL 38 x:=fun he=>by
        rw [toL_eq,same_comm] at he
        exact absurd he (by simpa using h44)
       exact ⟨_,by omega,_,⟨q+1,kk+1,arr.set kk x,rfl,rfl,by omega,by omega,by omega,by omega,(by rw [List.length_set];exact har),(by
        rw [show k+(q+1)=k+q+1 by omega,hst2,if_neg hne,← htl]
        rw [tl_snoc (u:=x) (by rw [List.getElem?_set,if_pos rfl,if_pos (by omega)]),List.take_set_of_le (Nat.le_refl _)]),fun t ht=>(by rw [List.getElem?_set,if_neg (by omega)];exact hup t (by omega)),H.sel [0] rfl rfl⟩,F.to (by repeat (first | exact trivial | refine Le.cons rfl ?_))⟩)
    | (have heq2:toL 38 y=toL 38 x:=by
        rw [toL_eq,same_comm];simpa using h44
       exact ⟨_,by omega,_,⟨q+1,kk,arr,rfl,rfl,by omega,by omega,by omega,by omega,har,(by rw [show k+(q+1)=k+q+1 by omega,hst2,if_pos heq2];exact htl),hup,H.sel [0] rfl rfl⟩,F.to (by repeat (first | exact trivial | refine Le.cons rfl ?_))⟩)
   replace h32:=of_decide_eq_false h32
   have hqe:k+q=l.length:=by omega
   refine wp_exit ?_;refine hK12 _ _ (cSR fun K19 hK19=>sMv F rfl rfl rfl (qMv rfl rfl rfl ?_));clear hK12;clear F a;intro a F
   refine sSlL underlying30 sizeOf47 F rfl rfl rfl rfl ?_ ?_ ?_
   focus (first | omega | decide | (simp;omega))
   focus (first | omega | decide | (simp;omega))
   clear F a;intro a F;refine sClr H 0 underlying30 zeroValue47 rfl rfl F rfl rfl rfl ((show _=kk * 38 by omega)) ((by omega)) (bs38_len arr) ?_;clear H;intro w H;refine nK hK19 (cSR fun K20 hK20=>sMv F rfl rfl rfl (qMv rfl rfl rfl ?_));clear hK19;clear F a;intro a F
   refine sSlH underlying30 (fun w=>⟨_,sizeOf47 w⟩) F rfl rfl rfl rfl ?_ ?_
   focus (first | omega | decide | (simp;omega))
   clear F a;intro a F;refine sAs F rfl rfl rfl (qNK hK20 ?_);clear hK20;clear F a;intro a F;refine wp_ret ?_;simp only [Exit.inBlock,Exit.then];refine bRet results100 F rfl ?_
   first
   | (rw [← List.map_take] at H
      have el:(arr.take kk).length=kk:=by rw [List.length_take];omega
      have et:l.take (k+q)=l:=List.take_of_length_le (by omega)
      rw [et] at htl
      exact ⟨arr.take kk,htl,by rw [el],by rw [el];exact H.pick 0 rfl⟩)
   | (obtain rfl:k=l.length:=by omega
      rw [List.take_length] at hcm
      exact ⟨l,hcm.symm,rfl,H.pick 0 rfl⟩)
   | exact ⟨l,tl_short (by omega),rfl,H.pick 0 rfl⟩
  refine wp_skip (hK9 _ _ (cReg (sMv F rfl rfl rfl ?_)));clear hK9;clear F a;intro a F
  refine sBin F rfl rfl rfl rfl (bAddN (j:=1) ?_) ?_
  focus omega
  clear F a;intro a F;refine sAs F rfl rfl rfl ?_;clear F a;intro a F;refine sNil ?_
  (have hne:¬ toL 38 v=toL 38 u:=fun he=>by
    rw [toL_eq,same_comm] at he
    rw [h25] at he;cases he
   exact ⟨_,by omega,_,⟨k+1,rfl,rfl,by omega,by omega,(by rw [hst,if_neg hne,hcm,tl_snoc hu]),H.sel [0] rfl rfl⟩,F.to (by repeat (first | exact trivial | refine Le.cons rfl ?_))⟩)
 replace h13:=of_decide_eq_false h13;refine wp_exit ?_;refine hK5 _ _ (cSR fun K21 hK21=>sMv F rfl rfl rfl (qAs rfl rfl rfl (qNK hK21 ?_)));clear hK5 hK21;clear F a;intro a F;refine wp_ret ?_;refine bRet results100 F rfl ?_
 first
 | (rw [← List.map_take] at H
    have el:(arr.take kk).length=kk:=by rw [List.length_take];omega
    have et:l.take (k+q)=l:=List.take_of_length_le (by omega)
    rw [et] at htl
    exact ⟨arr.take kk,htl,by rw [el],by rw [el];exact H.pick 0 rfl⟩)
 | (obtain rfl:k=l.length:=by omega
    rw [List.take_length] at hcm
    exact ⟨l,hcm.symm,rfl,H.pick 0 rfl⟩)
 | exact ⟨l,tl_short (by omega),rfl,H.pick 0 rfl⟩
theorem tl_len (l:List By):(tl l).length=l.length:=List.length_map _
theorem compact_len:∀ l:List (List UInt8),(compactL l).length≤l.length
 | []=>Nat.le_refl _
 | [_]=>Nat.le_refl _
 | a :: b :: r=>by
   have:=compact_len (b :: r)
   rw [compactL]
   split
   · simp only [List.length_cons] at this ⊢;omega
   · simp only [List.length_cons] at this ⊢;omega
theorem compact_own {w0 w:World} {row:Option Nat} {rs:List Res} {A:Option Addr} {c:Nat} {l:List By} (H:Own w0 row w rs) (i:Nat) (hi:rs[i]? = some (.rws 47 38 (.slice A l.length c) (l.map (bs 38)))) (hn:l.length≤65536) (h0:l ≠ []) :
   Calls Tryz.prog 100 #[.slice A l.length c] w fun e w'=>∃ l2:List By,tl l2=compactL (tl l)∧e = .returned (.slice A l2.length c)∧Own w0 row w' (rs.set i (.rws 47 38 (.slice A l2.length c) (l2.map (bs 38)))):=by
 have hw:w.ownsRow 0 47 38 (.slice A l.length c) (l.map (bs 38)).length (l.map (bs 38)).flatten:=H.pred i _ hi
 have hw2:=hw
 rw [List.length_map] at hw2
 obtain ⟨_,⟨h1,h2⟩ | ⟨g,cap,cur,h1,_,hg,_⟩⟩:=hw2
 · exact absurd (List.eq_nil_of_length_eq_zero h2) h0
 · have hA:A=some ⟨g,0,none⟩:=by simp only [Value.slice.injEq] at h1;exact h1.1
   subst hA;refine (compact_any g c l hn w hw).mono ?_;rintro e w' ⟨l2,h3,rfl,H2⟩
   exact ⟨l2,h3,rfl,turnedRow H i hi H2.grown (H2.pred 0 _ rfl)⟩
theorem sort_any (A:Option Addr) (C:Nat) (l:List By) (w0:World) (hR:RowsAt w0 A 38 (l.map (bs 38))) (hl:l.length≤65536) (h0:l ≠ []) :
   Calls Tryz.prog 47 #[.slice A l.length C] w0 fun e w'=>∃ (A2:Option Addr) (c2:Nat) (l2:List By),e = .returned (.slice A2 l2.length c2)∧l2.length≤l.length∧Rising (tl l2)∧(∀ x,x ∈ tl l2 ↔ x ∈ tl l)∧Own w0 none w' [.rws 47 38 (.slice A2 l2.length c2) (l2.map (bs 38))]:=by
 have H:=Own.start w0 none
 refine enterF func47 rfl ntmps47 rfl (fun a F=>?_);refine cSR fun K1 hK1=>sAs F rfl rfl rfl (qNK hK1 (qSR fun K2 hK2=>qMv rfl rfl rfl ?_));clear hK1;clear F a;intro a F;refine sBs H underlying200 sizeOf30 zeroValue30 rfl F rfl rfl rfl rfl rfl ?_;clear F a H;intro b5 a w F H;refine sCall call97 F rfl rfl rfl (concat_any b5 0 1 A C l _ (H.whole 0 rfl) (hR.own H) hl) ?_;rintro e w ⟨A1,c1,rfl,H2⟩;replace H:=H.join H2;clear H2;refine ⟨_,rfl,?_⟩;clear F a;intro a F;refine sAs F rfl rfl rfl (qNK hK2 (qSR fun K3 hK3=>qMv rfl rfl rfl ?_));clear hK2;clear F a;intro a F;refine sCall call98 F rfl rfl rfl (sort_own H 0 rfl hl h0) ?_;rintro e w ⟨rfl,l',hl',hm',hp',H2⟩
 replace H:=H2;clear H2;rw [hl'] at H
 refine ⟨_,rfl,?_⟩;clear F a;intro a F;refine nK hK3 (cSR fun K4 hK4=>sMv F rfl rfl rfl ?_);clear hK3;clear F a;intro a F;refine sCall call100 F rfl rfl rfl ((by have:=compact_own (l:=l') H 0 (by rw [hl'];rfl) (by omega) (by intro e;rw [e] at hl';exact h0 (List.eq_nil_of_length_eq_zero hl'.symm));rw [hl'] at this;exact this)) ?_;rintro e w ⟨l2,h2,rfl,H2⟩
 replace H:=H2;clear H2
 refine ⟨_,rfl,?_⟩;clear F a;intro a F;refine sAs F rfl rfl rfl (qNK hK4 ?_);clear hK4;clear F a;intro a F;refine wp_ret ?_;refine bRet results47 F rfl ?_
 have hris:Rising (tl l2):=by
  rw [h2]
  exact compact_rising (by unfold tl;rw [List.pairwise_map];exact hp')
 have hmem:∀ x,x ∈ tl l2 ↔ x ∈ tl l:=fun x=>by
  rw [h2,compact_mem]
  unfold tl
  rw [List.mem_map,List.mem_map]
  exact ⟨fun ⟨y,hy,e⟩=>⟨y,(hm' y).1 hy,e⟩,fun ⟨y,hy,e⟩=>⟨y,(hm' y).2 hy,e⟩⟩
 have hle:l2.length≤l.length:=by
  have:=compact_len (tl l')
  rw [← h2,tl_len,tl_len] at this
  omega
 exact ⟨A1,c1,l2,rfl,hle,hris,hmem,H.pick 0 rfl⟩
-- RnA
open Go.Proofs.Tryz
open Go.RowKit
set_option maxRecDepth 100000
theorem kT43:CkT Tryz.prog 2 43 8 true:=ckArr (D:=1) (n:=1) (m:=8) underlying43 sizeOf5 isAgg5 (fun _=>rfl) (ckInt (P:=Tryz.prog) underlying5)
theorem kT62:CkT Tryz.prog 3 62 9 true:=ckStruct (D:=2) underlying62 ⟨by kernel_rfl,⟨1,false,sizeOf5,isAgg5,fun _=>rfl,by decide,((ckInt (P:=Tryz.prog) underlying5)).up 1⟩,by kernel_rfl,⟨8,true,sizeOf43,isAgg43,fun h=>(by cases h),by decide,(kT43).up 0⟩,trivial⟩
theorem kT63:CkT Tryz.prog 4 63 36 true:=ckArr (D:=3) (n:=9) (m:=4) underlying63 sizeOf62 isAgg62 (fun h=>(by cases h)) kT62
theorem kT45:CkT Tryz.prog 2 45 6 true:=ckArr (D:=1) (n:=1) (m:=6) underlying45 sizeOf5 isAgg5 (fun _=>rfl) (ckInt (P:=Tryz.prog) underlying5)
theorem kT65:CkT Tryz.prog 2 65 2 true:=ckStruct (D:=1) underlying65 ⟨by kernel_rfl,⟨1,false,sizeOf5,isAgg5,fun _=>rfl,by decide,((ckInt (P:=Tryz.prog) underlying5)).up 0⟩,by kernel_rfl,⟨1,false,sizeOf5,isAgg5,fun _=>rfl,by decide,((ckInt (P:=Tryz.prog) underlying5)).up 0⟩,trivial⟩
theorem kT66:CkT Tryz.prog 3 66 24 true:=ckArr (D:=2) (n:=2) (m:=12) underlying66 sizeOf65 isAgg65 (fun h=>(by cases h)) kT65
theorem kT67:CkT Tryz.prog 4 67 96 true:=ckArr (D:=3) (n:=24) (m:=4) underlying67 sizeOf66 isAgg66 (fun h=>(by cases h)) kT66
theorem kT68:CkT Tryz.prog 2 68 4 true:=ckArr (D:=1) (n:=1) (m:=4) underlying68 sizeOf5 isAgg5 (fun _=>rfl) (ckInt (P:=Tryz.prog) underlying5)
theorem kT70:CkT Tryz.prog 5 70 142 true:=ckStruct (D:=4) underlying70 ⟨by kernel_rfl,⟨36,true,sizeOf63,isAgg63,fun h=>(by cases h),by decide,(kT63).up 0⟩,by kernel_rfl,⟨6,true,sizeOf45,isAgg45,fun h=>(by cases h),by decide,(kT45).up 2⟩,by kernel_rfl,⟨96,true,sizeOf67,isAgg67,fun h=>(by cases h),by decide,(kT67).up 0⟩,by kernel_rfl,⟨4,true,sizeOf68,isAgg68,fun h=>(by cases h),by decide,(kT68).up 2⟩,trivial⟩
theorem kyS:KeyS Tryz.prog 70 142:=keyS underlying70 eT70 rfl kT70 rfl
def lkC (q:Int × Pss):List Value:=[.int .i64 q.1,b8 q.2.t,.bool q.2.d,b8 q.2.l]
def enC (k:Nat):List Value:=[.int .i64 (k:Int)]
theorem Own.blkRws {w0 w:World} {row:Option Nat} {rs:List Res} (H:Own w0 row w rs) (i:Nat) {b n sz:Nat} {cs:List Value} {e:TypeId} (rows:List (List Value)) (hi:rs[i]? = some (.blk b cs e)) (hr:rows.flatten=cs) (hn:rows.length=n) (hl:cs.length=n * sz) (hm:n≤maxLen) :
   Own w0 row w (rs.set i (.rws e sz (.slice (some ⟨b,0,.none⟩) n n) rows)):=by
 have hB:=H.blk i hi
 refine H.turn i hi _ H.grown (Nat.le_refl _) (fun _ _ _=>rfl) ?_ (fun c hc=>?_)
 · show w.ownsRow 0 e sz _ rows.length rows.flatten
   rw [hr,hn]
   refine ⟨hl,.inr ⟨b,n,cs.toArray,rfl,Nat.zero_le _,hB,Nat.le_refl _,hm,by simpa using hl,?_⟩⟩
   rw [← hl];simp
 · have:b=c:=by simpa [Res.rws,Res.arr,Value.ownBlock] using hc
   subst this
   exact ⟨.inl rfl,(H.foot i _ hi b rfl).2⟩
def fndRes (A1 A2 A3:Option Addr) (c1 c2 c3:Nat) (a:Fnd):List Res:=[.rws 70 142 (.slice A1 a.list.length c1) (a.list.map (bs 142)),.rws 162 4 (.slice A2 a.links.length c2) (a.links.map lkC),.rws 3 1 (.slice A3 a.ends.length c3) (a.ends.map enC)]
def fo (o:Option Fnd):Fnd:=o.getD ⟨[],[],[]⟩
def ExpOut (o:Option Fnd) (v:Value) (w0:World) (e:Ending) (w':World):Prop:=∃ A1 c1 A2 c2 A3 c3,e = .returned (.tuple #[.agg #[.slice A1 (fo o).list.length c1,.slice A2 (fo o).links.length c2,.slice A3 (fo o).ends.length c3],v])∧Own w0 none w' (fndRes A1 A2 A3 c1 c2 c3 (fo o))
theorem exp_none {w0 w:World} {rs:List Res} {v:Value} (H:Own w0 none w rs):ExpOut none v w0 (.returned (.tuple #[.agg #[.slice none 0 0,.slice none 0 0,.slice none 0 0],v])) w:=
 ⟨none,0,none,0,none,0,rfl,(((H.none.nilRws 3 1).nilRws 162 4).nilRws 70 142)⟩
theorem bs_rows (l:List By):∀ r ∈ l.map (bs 142),r.length=142:=fun r hr=>by
 obtain ⟨s,_,rfl⟩:=List.mem_map.1 hr
 exact bs_length _ _
set_option maxHeartbeats 4000000 in
theorem explore_any (p:Prg) (mc:UInt8) (mst:Nat) (fm fs:Value) (w0:World) (hp:rightErr p=0) (hk:knownM mc=true) (h1:1≤mst) (h2:mst≤65536)
   (hMv:∀ (w:World),w0.grownBy w none→∀ s,Fine p mc s→CallsF Tryz.prog fm [.agg (bs 142 s).toArray] w (fun e w'=>∃ A c,e = .returned (.slice A (movesM p mc s).length c)∧Own w none w' [.rws 86 3 (.slice A (movesM p mc s).length c) ((movesM p mc s).map Pss.cells)]))
   (hSt:∀ (w:World),w0.grownBy w none→∀ s x,Fine p mc s→x ∈ movesM p mc s→CallsF Tryz.prog fs [.agg (bs 142 s).toArray,.agg x.cells.toArray] w (fun e w'=>e = .returned (.agg (bs 142 (stepM p mc s x)).toArray)∧Below w.heap.size w w')) :
   Calls Tryz.prog 94 #[.agg (bs 142 (startP p)).toArray,.int .i64 (mst:Int),fm,fs] w0 fun e w'=>ExpOut (reachR p mc mst) (.bool (reachR p mc mst).isSome) w0 e w':=by
 have H:=Own.start w0 none
 refine enterF func94 rfl ntmps94 rfl (fun a F=>?_);refine cSR fun K1 hK1=>?_;refine sBxB H F rfl rfl rfl ?_;clear F a H;intro b4 a w F H;refine sAl H zeroValue113 F rfl rfl ?_;clear F a H;intro b8 a w F H;refine sAs F rfl rfl rfl (qNK hK1 (qSR fun K2 hK2=>qLrB underlying70 rfl sizeOf70 rfl rfl rfl (H.whole 1 rfl) ?_));clear hK1;clear F a;intro a F;refine sBsA H underlying51 sizeOf70 zeroValue70 rfl F rfl rfl rfl rfl rfl ?_;clear F a H;intro b18 a w F H;refine sBd (cs:=[.int .i64 (-1),Go.Proofs.YtbgnapmaimkpkaaGreatDoor.b8 0,.bool false,Go.Proofs.YtbgnapmaimkpkaaGreatDoor.b8 0]) (places:=[(0,1),(1,3)]) zeroValue162 underlying162 (by kernel_rfl) F rfl rfl rfl rfl ?_;clear F a;intro a F;refine sBsA H underlying111 sizeOf162 zeroValue162 rfl F rfl rfl rfl rfl rfl ?_;clear F a H;intro b20 a w F H;refine sBd (cs:=[.slice (some ⟨b18,0,none⟩) 1 1,.slice (some ⟨b20,0,none⟩) 1 1,.slice none 0 0]) (places:=[(0,1),(1,1),(2,1)]) zeroValue113 underlying113 (by kernel_rfl) F rfl rfl rfl rfl ?_;clear F a;intro a F;refine sAl H zeroValue113 F rfl rfl ?_;clear F a H;intro b10 a w F H
 refine sSr H 0 ?si F rfl rfl rfl ?s1 rfl rfl ?_
 case si=>exact info_size sizeOf113
 case s1=>first | rfl | (repeat (first | exact one_nil | (apply one_cons;· first | rfl | assumption | exact one_bif rfl rfl)))
 clear H;intro w H;refine nK hK2 (cSR fun K3 hK3=>?_);clear hK2;refine sMkS 142 H F rfl rfl ?_;clear F a H;intro b22 a w F H;refine sLrB underlying70 rfl sizeOf70 F rfl rfl rfl (H.whole 5 rfl) ?_;clear F a;intro a F;refine sInsS H 0 underlying199 kyS F rfl rfl rfl rfl rfl (rfl) ?_;clear H;intro w H;refine sMv F rfl rfl rfl (qAs rfl rfl rfl (qNK hK3 ?_));clear hK3;clear F a;intro a F;refine cSeq (fun K4 hK4=>?_);refine cSR fun K5 hK5=>sAs F rfl rfl rfl (qNK hK5 ?_);clear hK5;clear F a;intro a F;refine wp_block ?_
 replace H:=(((H.blkRws 3 (n:=1) (sz:=142) [bs 142 (startP p)] rfl rfl rfl rfl (by decide)).blkRws 2 (n:=1) (sz:=4) [lkC (-1,⟨0,false,0⟩)] rfl rfl rfl rfl (by decide)).nilRws 3 1)
 refine cLoopR [1,2,3,8,10,11] (fun m ups w=>∃ (k:Nat) (fd:Fnd) (A1:Option Addr) (c1:Nat) (A2:Option Addr) (c2:Nat) (A3:Option Addr) (c3:Nat),m=mst+1 - k∧ups=[(12,.int .i64 ((k:Nat):Int))]∧FndI p mc mst k fd∧reachR p mc mst=searchR p mc mst (mst+1 - k) k fd∧Own w0 none w [.mpS b22 142 fd.list,.blk b10 [.slice A1 fd.list.length c1,.slice A2 fd.links.length c2,.slice A3 fd.ends.length c3] 113,.rws 70 142 (.slice A1 fd.list.length c1) (fd.list.map (bs 142)),.rws 162 4 (.slice A2 fd.links.length c2) (fd.links.map lkC),.rws 3 1 (.slice A3 fd.ends.length c3) (fd.ends.map enC),.blk b8 [.slice none 0 0,.slice none 0 0,.slice none 0 0] 113,.blk b4 (bs 142 (startP p)) 70]) F (mst+1) [(12,.int .i64 ((0:Nat):Int))] (by repeat (first | exact SubR.nil | (apply SubR.cons;· rfl))) ?_ ?_ ?_
 · exact ⟨0,firstR p,_,_,_,_,none,0,rfl,rfl,fnd_first hp hk h1,rfl,H.sel [0+1,1+1,3+1,2+1,0,4+1,5+1] rfl rfl⟩
 · repeat (first | exact trivial | refine Le.cons rfl ?_)
 clear F
 clear H
 intro m ups a w hI F
 obtain ⟨k,fd,A1,c1,A2,c2,A3,c3,rfl,rfl,hI1,hreach,H⟩:=hI
 have hmany:=hI1.many
 have hkle:=hI1.kle
 refine cSeq (fun K6 hK6=>?_);refine cSR fun K7 hK7=>sMv F rfl rfl rfl (qFa (f:=0) (k:=0) underlying113 rfl sizeOf51 rfl rfl rfl rfl rfl (qLd isAgg51 rfl rfl rfl (H.cell 1 rfl rfl) (qLen underlying51 rfl rfl rfl (qBin rfl rfl rfl rfl bLss (qNK hK7 ?_)))));clear hK7;clear F a;intro a F
 refine cIf F rfl (fun h29=>?_) (fun h29=>?_)
 ·
  replace h29:=of_decide_eq_true h29
  have hkl:k < fd.list.length:=by omega
  obtain ⟨s,hs⟩:∃ s,fd.list[k]? = some s:=⟨_,List.getElem?_eq_getElem hkl⟩
  have hF:=hI1.fine s (List.mem_of_getElem? hs)
  obtain ⟨bS,oS,rfl,_⟩:=H.rowsAt 2 rfl (bs_rows _) (by decide) k (bs 142 s) (by rw [List.getElem?_map,hs];rfl)
  refine wp_skip (hK6 _ _ ?_);clear hK6;refine cSeq (fun K8 hK8=>?_);refine wp_block ?_;refine cSR fun K9 hK9=>sMv F rfl rfl rfl (qFa (f:=0) (k:=0) underlying113 rfl sizeOf51 rfl rfl rfl rfl rfl (qLd isAgg51 rfl rfl rfl (H.cell 1 rfl rfl) (qMv rfl rfl rfl ?_)));clear F a;intro a F
  refine sIx underlying51 sizeOf70 F rfl rfl rfl rfl ?_ ?_
  focus exact hkl
  clear F a;intro a F
  refine sLrB underlying70 rfl sizeOf70 F rfl rfl rfl (by obtain ⟨b',o',g1,g2⟩:=H.rowsAt 2 rfl (bs_rows _) (by decide) k (bs 142 s) (by rw [List.getElem?_map,hs];rfl);cases g1;exact g2) ?_;clear F a;intro a F
  refine sCallV F rfl rfl rfl rfl ((hMv _ H.grown s hF)) ?_;rintro e w ⟨AM,cM,rfl,H2⟩;replace H:=H.join H2;clear H2;refine ⟨_,rfl,?_⟩;clear F a;intro a F;refine sAs F rfl rfl rfl (qNK hK9 ?_);clear hK9;clear F a;intro a F
  refine cSeqJ [1,2,3,8,10,11,12,13] (fun ups w=>∃ (A4:Option Addr) (c4:Nat) (en:List Nat),ups=[]∧en=(if movesM p mc s=[] then fd.ends++[k] else fd.ends)∧Own w0 none w [.rws 86 3 (.slice AM (movesM p mc s).length cM) ((movesM p mc s).map Pss.cells),.mpS b22 142 fd.list,.blk b10 [.slice (some ⟨bS,oS,none⟩) fd.list.length c1,.slice A2 fd.links.length c2,.slice A4 en.length c4] 113,.rws 70 142 (.slice (some ⟨bS,oS,none⟩) fd.list.length c1) (fd.list.map (bs 142)),.rws 162 4 (.slice A2 fd.links.length c2) (fd.links.map lkC),.rws 3 1 (.slice A4 en.length c4) (en.map enC),.blk b8 [.slice none 0 0,.slice none 0 0,.slice none 0 0] 113,.blk b4 (bs 142 (startP p)) 70]) F (by repeat (first | exact SubR.nil | (apply SubR.cons;· rfl))) ?_ ?_
  ·
   refine cSR fun K10 hK10=>sMv F rfl rfl rfl (qLen underlying58 rfl rfl rfl (qBin rfl rfl rfl rfl bEql (qNK hK10 ?_)));clear hK10;clear F a;intro a F
   refine cIf F rfl (fun h41=>?_) (fun h41=>?_)
   ·
    replace h41:=beqT h41
    have he:movesM p mc s=[]:=List.eq_nil_of_length_eq_zero (by omega)
    refine cReg (sFa (f:=2) (k:=2) underlying113 rfl sizeOf83 rfl rfl F rfl rfl rfl (qLd isAgg83 rfl rfl rfl (H.cell 2 rfl rfl) (qMv rfl rfl rfl ?_)));clear F a;intro a F;refine sBs1 H underlying83 sizeOf3 zeroValue3 rfl F rfl rfl rfl rfl ?_;clear F a H;intro b45 a w F H
    refine sApp1 (bytes:=8) H 6 underlying83 typeInfo3 rfl rfl rfl rfl rfl rfl F rfl rfl rfl rfl rfl (H.whole 0 rfl) rfl ?s1 ?s2 ?_
    case s1=>first | rfl | (repeat (first | exact one_nil | (apply one_cons;· first | rfl | assumption | exact one_bif rfl rfl)))
    case s2=>(rw [List.length_map];have:=hI1.ends ▸ List.length_filter_le (fun i=>match fd.list[i]? with | some s=>(movesM p mc s).isEmpty | none=>false) (List.range k);rw [List.length_range] at this;omega)
    clear F a H;intro A46 c46 a w F H;refine sFa (f:=2) (k:=2) underlying113 rfl sizeOf83 rfl rfl F rfl rfl rfl ?_;clear F a;intro a F;refine sSt H 3 sizeOf83 F rfl rfl rfl rfl rfl rfl ?_;clear H;intro w H;refine sNil ?_
    first
    | (have e2:fd.ends.map enC++[[Value.int .i64 (k:Int)]]=(fd.ends++[k]).map enC:=by rw [List.map_append];rfl
       have e3:(fd.ends.map enC++[[Value.int .i64 (k:Int)]]).length=(fd.ends++[k]).length:=by rw [e2,List.length_map]
       refine ⟨_,⟨A46,c46,fd.ends++[k],rfl,(if_pos he).symm,?_⟩,F.to (by repeat (first | exact trivial | refine Le.cons rfl ?_))⟩
       have H3:=H.sel [1,2,3,4,5,6,7,8] rfl rfl
       rw [← e2,← e3]
       exact H3)
    | exact ⟨_,⟨A3,c3,fd.ends,rfl,(if_neg he).symm,H.sel [1,2,3,4,5,6,7,8] rfl rfl⟩,F.to (by repeat (first | exact trivial | refine Le.cons rfl ?_))⟩
   replace h41:=beqF h41
   have he:movesM p mc s ≠ []:=fun h0=>by rw [h0] at h41;exact h41 rfl
   refine wp_skip ?_
   first
   | (have e2:fd.ends.map enC++[[Value.int .i64 (k:Int)]]=(fd.ends++[k]).map enC:=by rw [List.map_append];rfl
      have e3:(fd.ends.map enC++[[Value.int .i64 (k:Int)]]).length=(fd.ends++[k]).length:=by rw [e2,List.length_map]
      refine ⟨_,⟨A46,c46,fd.ends++[k],rfl,(if_pos he).symm,?_⟩,F.to (by repeat (first | exact trivial | refine Le.cons rfl ?_))⟩
      have H3:=H.sel [0,1,2,3,4,5,6,7] rfl rfl
      rw [← e2,← e3]
      exact H3)
   | exact ⟨_,⟨A3,c3,fd.ends,rfl,(if_neg he).symm,H.sel [0,1,2,3,4,5,6,7] rfl rfl⟩,F.to (by repeat (first | exact trivial | refine Le.cons rfl ?_))⟩
  clear F H
  intro ups a w hI F
  obtain ⟨A4,c4,en,rfl,hen,H⟩:=hI
  refine cSR fun K11 hK11=>sMv F rfl rfl rfl (qLen underlying58 rfl rfl rfl (qMv rfl rfl rfl (qNK hK11 ?_)));clear hK11;clear F a;intro a F;refine wp_block ?_
  refine cLoopR [1,2,3,8,10,11,12,48,49] (fun m ups w=>∃ (i:Nat) (l:List By) (q:List (Int × Pss)) (A1:Option Addr) (c1:Nat) (A2:Option Addr) (c2:Nat),m=(movesM p mc s).length - i∧ups=[(50,.int .i64 ((i:Nat):Int))]∧i≤(movesM p mc s).length∧VisI p mc mst k s fd.list ((movesM p mc s).take i) l q∧visitR p mc mst k s (movesM p mc s) fd.list fd.links=visitR p mc mst k s ((movesM p mc s).drop i) l q∧Own w0 none w [.rws 86 3 (.slice AM (movesM p mc s).length cM) ((movesM p mc s).map Pss.cells),.mpS b22 142 l,.blk b10 [.slice A1 l.length c1,.slice A2 q.length c2,.slice A4 en.length c4] 113,.rws 70 142 (.slice A1 l.length c1) (l.map (bs 142)),.rws 162 4 (.slice A2 q.length c2) (q.map lkC),.rws 3 1 (.slice A4 en.length c4) (en.map enC),.blk b8 [.slice none 0 0,.slice none 0 0,.slice none 0 0] 113,.blk b4 (bs 142 (startP p)) 70]) F ((movesM p mc s).length) [(50,.int .i64 ((0:Nat):Int))] (by repeat (first | exact SubR.nil | (apply SubR.cons;· rfl))) ?_ ?_ ?_
  · exact ⟨0,fd.list,fd.links,_,_,_,_,rfl,rfl,by omega,vis_start hI1 hs,rfl,H.sel [0,1,2,3,4,5,6,7] rfl rfl⟩
  · repeat (first | exact trivial | refine Le.cons rfl ?_)
  clear F
  clear H
  intro m ups a w hI F
  obtain ⟨i,l,q,A5,c5,A6,c6,rfl,rfl,hi,hV,hvis,H⟩:=hI
  have hml:=(H.rwsLen 0 rfl).2
  simp only [maxLen] at hml
  have hlm:=hV.many
  have hll:=hV.len
  refine cSR fun K12 hK12=>sBin F rfl rfl rfl rfl bLss (qNK hK12 ?_);clear hK12;clear F a;intro a F;refine cSeq (fun K13 hK13=>?_)
  refine cIf F rfl (fun h51=>?_) (fun h51=>?_)
  ·
   replace h51:=of_decide_eq_true h51
   have hil:i < (movesM p mc s).length:=by omega
   obtain ⟨x,hx⟩:∃ x,(movesM p mc s)[i]? = some x:=⟨_,List.getElem?_eq_getElem hil⟩
   have hxm:x ∈ movesM p mc s:=List.mem_of_getElem? hx
   have hdr:(movesM p mc s).drop i=x :: (movesM p mc s).drop (i+1):=by
    obtain ⟨hj,rfl⟩:=List.getElem?_eq_some_iff.1 hx
    exact List.drop_eq_getElem_cons hj
   have htk:(movesM p mc s).take (i+1)=(movesM p mc s).take i++[x]:=by rw [List.take_add_one,hx];rfl
   rw [hdr] at hvis
   obtain ⟨bM,oM,rfl,_⟩:=H.rowsAt 0 rfl (rowX _) (by decide) _ _ (by rw [List.getElem?_map,hx];rfl)
   obtain ⟨bS2,oS2,rfl,_⟩:=H.rowsAt 3 rfl (bs_rows _) (by decide) k (bs 142 s) (by rw [List.getElem?_map,hV.here];rfl)
   have hkl2:k < l.length:=(List.getElem?_eq_some_iff.1 hV.here).1
   refine wp_skip (hK13 _ _ ?_);clear hK13;refine cSeq (fun K14 hK14=>?_);refine wp_block ?_;refine cSR fun K15 hK15=>?_
   refine sIx underlying58 sizeOf86 F rfl rfl rfl rfl ?_ ?_
   focus (first | omega | decide | (simp;omega))
   clear F a;intro a F
   refine sLr underlying86 rfl ?si F rfl rfl rfl (by obtain ⟨b',o',g1,g2⟩:=H.rowsAt 0 rfl (rowX _) (by decide) _ _ (by rw [List.getElem?_map,hx];rfl);cases g1;exact g2) ?_
   case si=>exact info_size sizeOf86
   clear F a;intro a F;refine sAl H zeroValue86 F rfl rfl ?_;clear F a H;intro b15 a w F H
   refine sSr H 0 ?si F rfl rfl rfl ?s1 rfl rfl ?_
   case si=>exact info_size sizeOf86
   case s1=>first | rfl | (repeat (first | exact one_nil | (apply one_cons;· first | rfl | assumption | exact one_bif rfl rfl)))
   clear H;intro w H;refine nK hK15 ?_;clear hK15;refine cSeq (fun K16 hK16=>?_);refine cRegRO (by kernel_rfl) H ?_;replace H:=H.drew;refine eTF 0 rfl (by kernel_rfl) F rfl rfl rfl (fun w=>rMv F rfl) H qq0 (qTF 1 rfl (by kernel_rfl) rfl rfl rfl (fun a F w=>rFa (f:=0) (k:=0) underlying113 rfl sizeOf51 rfl rfl F rfl) H qq0 (qT 2 rfl (by kernel_rfl) rfl rfl rfl rfl (fun a F w H=>rLd isAgg51 F rfl (H.cell 3 rfl rfl)) H qq0 (qTF 3 rfl (by kernel_rfl) rfl rfl rfl (fun a F w=>rMv F rfl) H qq0 ?_)));clear F a;intro a F
   refine eTakeF (k:=4) (i:=4) rfl (by kernel_rfl) F rfl rfl rfl (fun w=>rIx underlying51 sizeOf70 F rfl rfl ?_) H (fun _ _ _ h=>h) ?_
   focus exact hkl2
   clear F a;intro a F
   refine eTake (k:=5) (i:=5) rfl (by kernel_rfl) F rfl rfl rfl rfl (fun w H=>rLrB underlying70 rfl sizeOf70 F rfl (by obtain ⟨b',o',g1,g2⟩:=H.rowsAt 4 rfl (bs_rows _) (by decide) k (bs 142 s) (by rw [List.getElem?_map,hV.here];rfl);cases g1;exact g2)) H (fun _ _ _ h=>h) ?_;clear F a;intro a F
   refine eTake (k:=6) (i:=6) rfl (by kernel_rfl) F rfl rfl rfl rfl (fun w H=>rLr underlying86 rfl ?si F rfl (H.whole 0 rfl)) H (fun _ _ _ h=>h) ?_
   case si=>exact info_size sizeOf86
   clear F a;intro a F
   refine eJoin F H [1,2,3,8,10,11,12,15,48,49,50] 9 [true,true,true,true,true,true,true,true,true,false] (fun rs ups w=>∃ b16,ups=[(61,.agg (bs 142 (stepM p mc s x)).toArray),(16,.pointer (some ⟨b16,0,none⟩))]∧Own w0 none w ((.blk b16 (bs 142 zb) 70) :: rs)) (by repeat (first | exact SubR.nil | (apply SubR.cons;· rfl))) ?_ (fun hJ=>?_)
   rotate_left
   ·
    refine eTwo (k:=7) (i:=7) (j:=8) (by kernel_rfl) F rfl rfl rfl rfl ?_ ?_
    ·
     refine oCallV F rfl rfl rfl ((hSt _ H.grown s x hF hxm)) ?_;rintro e w ⟨rfl,hb⟩;replace H:=H.grow hb;clear hb;refine ⟨_,rfl,?_⟩;clear F a;intro a F;refine eKeep H ?_;refine eOne (k:=8) (i:=8) rfl (by kernel_rfl) F rfl (oAlB H zB70 F rfl ?_);clear F a H;intro b16 a w F H;refine eKeep H.tail ?_
     exact eGo hJ (by kernel_rfl) _ ⟨b16,rfl,H.sel [0,1,2,3,4,5,6,7,8,9] rfl rfl⟩ (F.to (by repeat (first | exact trivial | refine Le.cons rfl ?_)))
    refine oAlB H zB70 F rfl ?_;clear F a H;intro b16 a w F H;refine eKeep H.tail ?_;refine eOne (k:=8) (i:=7) rfl (by kernel_rfl) F rfl (oCallV F rfl rfl rfl ((hSt _ H.grown s x hF hxm)) ?_);rintro e w ⟨rfl,hb⟩;replace H:=H.grow hb;clear hb;refine ⟨_,rfl,?_⟩;clear F a;intro a F;refine eKeep H.tail ?_
    exact eGo hJ (by kernel_rfl) _ ⟨b16,rfl,H.sel [0,1,2,3,4,5,6,7,8,9] rfl rfl⟩ (F.to (by repeat (first | exact trivial | refine Le.cons rfl ?_)))
   clear F H;intro ups a w hI F
   obtain ⟨b16,rfl,H⟩:=hI
   refine eOne (k:=9) (i:=9) rfl (by kernel_rfl) F rfl (oSrB H 0 sizeOf70 F rfl rfl rfl (by omega) ?_);clear H;intro w H;rw [lay_all] at H;refine ePartO (by kernel_rfl) H ?_;refine eNil (k:=10) (by kernel_rfl) ?_;refine hK16 _ _ ?_;clear hK16;refine cSeq (fun K17 hK17=>?_);refine cSR fun K18 hK18=>sMv F rfl rfl rfl (qLrB underlying70 rfl sizeOf70 rfl rfl rfl (H.whole 0 rfl) (qLkS H 3 underlying199 kyS (fun w=>rfl) rfl rfl rfl rfl rfl (qNK hK18 ?_)));clear hK18;clear F a;intro a F
   refine cIf F rfl (fun h64=>?_) (fun h64=>?_)
   ·
    refine wp_exit ?_;refine hK14 _ _ (cReg ?_);clear hK14
    refine sBin F rfl rfl rfl rfl (bAddN (j:=1) ?_) ?_
    focus omega
    clear F a;intro a F;refine sMv F rfl rfl rfl ?_;clear F a;intro a F;refine sNil ?_
    first
    | exact ⟨_,by omega,_,⟨i+1,l,q,_,_,_,_,rfl,rfl,by omega,htk ▸ vis_in hV hxm h64,hvis.trans (visit_inR h64),H.sel [2,3,4,5,6,7,8,9] rfl rfl⟩,F.to (by repeat (first | exact trivial | refine Le.cons rfl ?_))⟩
    | (have e2:l.map (bs 142)++[bs 142 (stepM p mc s x)]=(l++[stepM p mc s x]).map (bs 142):=by rw [List.map_append];rfl
       have e3:(l.map (bs 142)++[bs 142 (stepM p mc s x)]).length=(l++[stepM p mc s x]).length:=by rw [e2,List.length_map]
       have e4:q.map lkC++[[Value.int .i64 (k:Int),Go.Proofs.YtbgnapmaimkpkaaGreatDoor.b8 x.t,.bool x.d,Go.Proofs.YtbgnapmaimkpkaaGreatDoor.b8 x.l]]=(q++[((k:Int),x)]).map lkC:=by rw [List.map_append];rfl
       have e5:(q.map lkC++[[Value.int .i64 (k:Int),Go.Proofs.YtbgnapmaimkpkaaGreatDoor.b8 x.t,.bool x.d,Go.Proofs.YtbgnapmaimkpkaaGreatDoor.b8 x.l]]).length=(q++[((k:Int),x)]).length:=by rw [e4,List.length_map]
       refine ⟨_,by omega,_,⟨i+1,l++[stepM p mc s x],q++[((k:Int),x)],A77,c77,A85,c85,rfl,rfl,by omega,htk ▸ vis_new hV hxm h64 (by omega),hvis.trans (visit_newR h64 (by omega)),?_⟩,F.to (by repeat (first | exact trivial | refine Le.cons rfl ?_))⟩
       have H3:=H.sel [2,3,4,5,6,7,8,9] rfl rfl
       rw [← e2,← e3,← e4,← e5]
       exact H3)
   refine wp_skip (hK17 _ _ ?_);clear hK17;refine cSeq (fun K19 hK19=>?_);refine cSR fun K20 hK20=>sFa (f:=0) (k:=0) underlying113 rfl sizeOf51 rfl rfl F rfl rfl rfl (qLd isAgg51 rfl rfl rfl (H.cell 4 rfl rfl) (qLen underlying51 rfl rfl rfl (qMv rfl rfl rfl (qBin rfl rfl rfl rfl bGeq (qNK hK20 ?_)))));clear hK20;clear F a;intro a F
   refine cIf F rfl (fun h69=>?_) (fun h69=>?_)
   ·
    replace h69:=of_decide_eq_true h69
    have hno:reachR p mc mst=none:=by
     rw [hreach,show mst+1 - k=(mst - k)+1 by omega]
     exact search_no hs (hvis.trans (visit_fullR h64 (by omega)))
    refine cSR fun K21 hK21=>sBd (cs:=[.slice none 0 0,.slice none 0 0,.slice none 0 0]) (places:=[(0,1),(1,1),(2,1)]) zeroValue113 underlying113 (by kernel_rfl) F rfl rfl rfl rfl ?_;clear F a;intro a F
    refine sSr H 8 ?si F rfl rfl rfl ?s1 rfl rfl ?_
    case si=>exact info_size sizeOf113
    case s1=>first | rfl | (repeat (first | exact one_nil | (apply one_cons;· first | rfl | assumption | exact one_bif rfl rfl)))
    clear H;intro w H;refine sAs F rfl rfl rfl (qNK hK21 ?_);clear hK21;clear F a;intro a F;refine wp_ret ?_;simp only [Exit.inBlock,Exit.then];refine bRetD1 results94 F rfl rfl underlying113 rfl H 8 rfl sizeOf113 rfl ?_
    first
    | (rw [hno]
       exact exp_none H)
    | (rw [hreach,search_end (by omega)]
       exact ⟨_,_,_,_,_,_,rfl,H.sel [5,6,7] rfl rfl⟩)
   replace h69:=of_decide_eq_false h69;refine wp_skip (hK19 _ _ (cSR fun K22 hK22=>sMv F rfl rfl rfl (qLrB underlying70 rfl sizeOf70 rfl rfl rfl (H.whole 0 rfl) ?_)));clear hK19;clear F a;intro a F;refine sUpdS H 3 underlying199 kyS F rfl rfl rfl rfl rfl (h64) ?_;clear H;intro w H;refine nK hK22 (cSR fun K23 hK23=>sFa (f:=0) (k:=0) underlying113 rfl sizeOf51 rfl rfl F rfl rfl rfl (qLd isAgg51 rfl rfl rfl (H.cell 4 rfl rfl) (qLrB underlying70 rfl sizeOf70 rfl rfl rfl (H.whole 0 rfl) ?_)));clear hK22;clear F a;intro a F;refine sBsA H underlying51 sizeOf70 zeroValue70 rfl F rfl rfl rfl rfl rfl ?_;clear F a H;intro b76 a w F H
   refine sApp1 (bytes:=142) H 6 underlying51 typeInfo70 rfl rfl rfl rfl rfl rfl F rfl rfl rfl rfl rfl (H.whole 0 rfl) rfl ?s1 ?s2 ?_
   case s1=>first | rfl | (repeat (first | exact one_nil | (apply one_cons;· first | rfl | assumption | exact one_bif rfl rfl)))
   case s2=>(rw [List.length_map];omega)
   clear F a H;intro A77 c77 a w F H;refine sFa (f:=0) (k:=0) underlying113 rfl sizeOf51 rfl rfl F rfl rfl rfl ?_;clear F a;intro a F;refine sSt H 5 sizeOf51 F rfl rfl rfl rfl rfl rfl ?_;clear H;intro w H;refine nK hK23 (cReg (sFa (f:=1) (k:=1) underlying113 rfl sizeOf111 rfl rfl F rfl rfl rfl (qLd isAgg111 rfl rfl rfl (H.cell 5 rfl rfl) (qMv rfl rfl rfl ?_))));clear hK23;clear F a;intro a F
   refine sLr underlying86 rfl ?si F rfl rfl rfl (H.whole 2 rfl) ?_
   case si=>exact info_size sizeOf86
   clear F a;intro a F;refine sBd (cs:=[.int .i64 (k:Int),Go.Proofs.YtbgnapmaimkpkaaGreatDoor.b8 x.t,.bool x.d,Go.Proofs.YtbgnapmaimkpkaaGreatDoor.b8 x.l]) (places:=[(0,1),(1,3)]) zeroValue162 underlying162 (by kernel_rfl) F rfl rfl rfl rfl ?_;clear F a;intro a F;refine sBsA H underlying111 sizeOf162 zeroValue162 rfl F rfl rfl rfl rfl rfl ?_;clear F a H;intro b84 a w F H
   refine sApp1 (bytes:=16) H 8 underlying111 typeInfo162 rfl rfl rfl rfl rfl rfl F rfl rfl rfl rfl rfl (H.whole 0 rfl) rfl ?s1 ?s2 ?_
   case s1=>first | rfl | (repeat (first | exact one_nil | (apply one_cons;· first | rfl | assumption | exact one_bif rfl rfl)))
   case s2=>(rw [List.length_map];omega)
   clear F a H;intro A85 c85 a w F H;refine sFa (f:=1) (k:=1) underlying113 rfl sizeOf111 rfl rfl F rfl rfl rfl ?_;clear F a;intro a F;refine sSt H 6 sizeOf111 F rfl rfl rfl rfl rfl rfl ?_;clear H;intro w H;refine nK hK14 (cReg ?_);clear hK14
   refine sBin F rfl rfl rfl rfl (bAddN (j:=1) ?_) ?_
   focus omega
   clear F a;intro a F;refine sMv F rfl rfl rfl ?_;clear F a;intro a F;refine sNil ?_
   first
   | exact ⟨_,by omega,_,⟨i+1,l,q,_,_,_,_,rfl,rfl,by omega,htk ▸ vis_in hV hxm h64,hvis.trans (visit_inR h64),H.sel [4,5,6,7,8,9,10,11] rfl rfl⟩,F.to (by repeat (first | exact trivial | refine Le.cons rfl ?_))⟩
   | (have e2:l.map (bs 142)++[bs 142 (stepM p mc s x)]=(l++[stepM p mc s x]).map (bs 142):=by rw [List.map_append];rfl
      have e3:(l.map (bs 142)++[bs 142 (stepM p mc s x)]).length=(l++[stepM p mc s x]).length:=by rw [e2,List.length_map]
      have e4:q.map lkC++[[Value.int .i64 (k:Int),Go.Proofs.YtbgnapmaimkpkaaGreatDoor.b8 x.t,.bool x.d,Go.Proofs.YtbgnapmaimkpkaaGreatDoor.b8 x.l]]=(q++[((k:Int),x)]).map lkC:=by rw [List.map_append];rfl
      have e5:(q.map lkC++[[Value.int .i64 (k:Int),Go.Proofs.YtbgnapmaimkpkaaGreatDoor.b8 x.t,.bool x.d,Go.Proofs.YtbgnapmaimkpkaaGreatDoor.b8 x.l]]).length=(q++[((k:Int),x)]).length:=by rw [e4,List.length_map]
      refine ⟨_,by omega,_,⟨i+1,l++[stepM p mc s x],q++[((k:Int),x)],A77,c77,A85,c85,rfl,rfl,by omega,htk ▸ vis_new hV hxm h64 (by omega),hvis.trans (visit_newR h64 (by omega)),?_⟩,F.to (by repeat (first | exact trivial | refine Le.cons rfl ?_))⟩
      have H3:=H.sel [4,5,6,7,8,9,10,11] rfl rfl
      rw [← e2,← e3,← e4,← e5]
      exact H3)
  replace h51:=of_decide_eq_false h51
  obtain rfl:i=(movesM p mc s).length:=by omega
  rw [List.drop_length] at hvis
  have hvis:visitR p mc mst k s (movesM p mc s) fd.list fd.links=some (l,q):=hvis
  refine wp_exit ?_;refine hK8 _ _ (cReg (sMv F rfl rfl rfl ?_));clear hK8;clear F a;intro a F
  refine sBin F rfl rfl rfl rfl (bAddN (j:=1) ?_) ?_
  focus omega
  clear F a;intro a F;refine sAs F rfl rfl rfl ?_;clear F a;intro a F;refine sNil ?_;subst hen
  exact ⟨_,by omega,_,⟨k+1,⟨l,q,_⟩,A5,c5,A6,c6,A4,c4,rfl,rfl,search_step hI1 hs hvis,hreach.trans (by rw [show mst+1 - k=(mst+1 - (k+1))+1 by omega];exact search_go hs hvis),H.sel [1,2,3,4,5,6,7] rfl rfl⟩,F.to (by repeat (first | exact trivial | refine Le.cons rfl ?_))⟩
 replace h29:=of_decide_eq_false h29;refine wp_exit ?_;refine hK4 _ _ (cSR fun K24 hK24=>?_);clear hK4
 refine sLr underlying113 rfl ?si F rfl rfl rfl (H.whole 1 rfl) ?_
 case si=>exact info_size sizeOf113
 clear F a;intro a F
 refine sSr H 5 ?si F rfl rfl rfl ?s1 rfl rfl ?_
 case si=>exact info_size sizeOf113
 case s1=>first | rfl | (repeat (first | exact one_nil | (apply one_cons;· first | rfl | assumption | exact one_bif rfl rfl)))
 clear H;intro w H;refine sAs F rfl rfl rfl (qNK hK24 ?_);clear hK24;clear F a;intro a F;refine wp_ret ?_;refine bRetD1 results94 F rfl rfl underlying113 rfl H 5 rfl sizeOf113 rfl ?_
 first
 | (rw [hno]
    exact exp_none H)
 | (rw [hreach,search_end (by omega)]
    exact ⟨_,_,_,_,_,_,rfl,H.sel [2,3,4] rfl rfl⟩)
-- BfM
open Go.RowKit
theorem known_machine (m:UInt8):knownM (1+m % 3)=true:=by
 have h:(m % 3).toNat < 3:=by rw [UInt8.toNat_mod];exact Nat.mod_lt _ (by decide)
 have e:(1+m % 3).toNat=1+(m % 3).toNat:=by rw [UInt8.toNat_add,show (1:UInt8).toNat=1 from rfl];omega
 unfold knownM
 rw [decide_eq_true (UInt8.le_iff_toNat_le.2 (by rw [e,show (1:UInt8).toNat=1 from rfl];omega)),decide_eq_true (UInt8.le_iff_toNat_le.2 (by rw [e,show (3:UInt8).toNat=3 from rfl];omega))]
 rfl
end Go.Proofs.YtbgnapmaimkpkaaGreatDoor
