/-
  WALK2. Windows on blocks of the function's own: slices that are cut and appended to; stores into slices of the function's own. Conditions: none.
-/
import Derived.Test.YtbgnapmaimkpkaaGreatDoorVcL
import Derived.Test.YtbgnapmaimkpkaaGreatDoorJn5
import Derived.Test.YtbgnapmaimkpkaaGreatDoorJn10
import Derived.Test.YtbgnapmaimkpkaaGreatDoorJn9
set_option linter.unusedSimpArgs false
set_option linter.unusedVariables false
namespace Go.Proofs.YtbgnapmaimkpkaaGreatDoor
-- VcN
open Go.RowKit
section
variable {P:Program} {l:List Oper} {Q:Exit→Act→World→Prop} {N:Nat} {a:Act} {env:List (Nat × Value)} {rest:List Oper} {d:Tmp} {ty:TypeId} {pos:String} {af:Array Edge} {g:Option (Nat × Bool)}
 {w0 w:World} {row:Option Nat} {rs:List Res} {Kt:Act→World→Prop}
def winP (e:TypeId) (sz:Nat) (v:Value) (rows:List (List Value)) (w:World):Prop:=
 (∀ r ∈ rows,r.length=sz)∧((v = .slice none 0 0∧rows=[])∨∃ g off cap cur,v = .slice (some ⟨g,off,none⟩) rows.length cap∧w.heap[g]? = some (.cells cur e (0,0))∧rows.length≤cap∧cap≤maxLen∧off+cap * sz≤cur.size∧∀ (j:Nat) (u:Value),rows.flatten[j]? = some u→cur[off+j]? = some u)
def Res.win (e:TypeId) (sz:Nat) (v:Value) (rows:List (List Value)):Res where
 foot:=fun b=>v.ownBlock=some b
 pred:=winP e sz v rows
 loc:=fun w w' h hp=>by
   refine ⟨hp.1,?_⟩
   rcases hp.2 with h1 | ⟨g,off,cap,cur,h1,h2,h3⟩
   · exact .inl h1
   · exact .inr ⟨g,off,cap,cur,h1,(h g (by rw [h1];rfl)).trans h2,h3⟩
theorem flat_lenW {sz:Nat}:∀ (q:List (List Value)),(∀ r ∈ q,r.length=sz)→q.flatten.length=q.length * sz
 | [],_=>by simp
 | r0 :: rest,hq=>by rw [List.flatten_cons,List.length_append,flat_lenW rest (fun r hm=>hq r (by simp [hm])),hq r0 (by simp),List.length_cons,Nat.add_mul];omega
theorem flat_atW {sz:Nat}:∀ (rows:List (List Value)),(∀ r ∈ rows,r.length=sz)→∀ (j:Nat) (cs:List Value),rows[j]? = some cs→∀ (k:Nat) (v:Value),cs[k]? = some v→rows.flatten[j * sz+k]? = some v
 | [],_,j,cs,hj,_,_,_=>by simp at hj
 | r0 :: rest,hr,j,cs,hj,k,v,hk=>by
   have h0:r0.length=sz:=hr r0 (by simp)
   cases j with
   | zero=>
     simp at hj;subst hj
     have:k < r0.length:=(List.getElem?_eq_some_iff.1 hk).1
     rw [List.flatten_cons,List.getElem?_append_left (by omega)];simpa using hk
   | succ j=>
     rw [List.flatten_cons,List.getElem?_append_right (by rw [h0,Nat.add_mul];omega),h0]
     have e1:(j+1) * sz+k - sz=j * sz+k:=by rw [Nat.add_mul];omega
     rw [e1]
     exact flat_atW rest (fun r hm=>hr r (by simp [hm])) j cs (by simpa using hj) k v hk
theorem flat_drop {sz:Nat} (rows:List (List Value)) (hr:∀ r ∈ rows,r.length=sz) (i:Nat) (hi:i≤rows.length):(rows.drop i).flatten=rows.flatten.drop (i * sz):=by
 have h1:rows.flatten=(rows.take i).flatten++(rows.drop i).flatten:=by rw [← List.flatten_append,List.take_append_drop]
 have h2:(rows.take i).flatten.length=i * sz:=by rw [flat_lenW _ (fun r hm=>hr r (List.mem_of_mem_take hm)),List.length_take];congr 1;omega
 rw [h1,← h2,List.drop_left]
theorem flat_take {sz:Nat} (rows:List (List Value)) (hr:∀ r ∈ rows,r.length=sz) (i:Nat) (hi:i≤rows.length):(rows.take i).flatten=rows.flatten.take (i * sz):=by
 have h1:rows.flatten=(rows.take i).flatten++(rows.drop i).flatten:=by rw [← List.flatten_append,List.take_append_drop]
 have h2:(rows.take i).flatten.length=i * sz:=by rw [flat_lenW _ (fun r hm=>hr r (List.mem_of_mem_take hm)),List.length_take];congr 1;omega
 rw [h1,← h2,List.take_left]
theorem winP.nil (e:TypeId) (sz:Nat) (w:World):winP e sz (.slice none 0 0) [] w:=⟨by simp,.inl ⟨rfl,rfl⟩⟩
theorem Own.nilWin (H:Own w0 row w rs) (e:TypeId) (sz:Nat):Own w0 row w (.win e sz (.slice Option.none 0 0) [] :: rs):=
 H.add _ (Below.refl _ _) (winP.nil e sz w) (fun b hb=>by simp [Res.win,Value.ownBlock] at hb)
theorem winP.len {e:TypeId} {sz n c:Nat} {A:Option Addr} {rows:List (List Value)} (h:winP e sz (.slice A n c) rows w):n=rows.length∧n≤c∧c≤maxLen:=by
 rcases h.2 with ⟨h1,h2⟩ | ⟨g,off,cap,cur,h1,_,h3,h4,_⟩
 · cases h1;subst h2;exact ⟨rfl,Nat.le_refl _,Nat.zero_le _⟩
 · cases h1;exact ⟨rfl,h3,h4⟩
theorem winP.at {e:TypeId} {sz n c:Nat} {A:Option Addr} {rows:List (List Value)} (h:winP e sz (.slice A n c) rows w):RowsAt w A sz rows:=fun j cs hj=>by
 rcases h.2 with ⟨h1,h2⟩ | ⟨g,off,cap,cur,h1,h2,_,_,_,h6⟩
 · subst h2;simp at hj
 · cases h1
   refine ⟨g,off,rfl,fun k v hk=>?_⟩
   have h7:=h6 _ v (flat_atW rows h.1 j cs hj k v hk)
   simp [World.cell?,h2,Nat.add_assoc,h7]
theorem winP.cells {e:TypeId} {sz n c:Nat} {A:Addr} {rows:List (List Value)} (h:winP e sz (.slice (some A) n c) rows w):∀ j u,rows.flatten[j]? = some u→w.cell? (A.add j)=some u:=fun j u hj=>by
 rcases h.2 with ⟨h1,_⟩ | ⟨g,off,cap,cur,h1,h2,_,_,_,h6⟩
 · cases h1
 · cases h1
   have h7:=h6 _ u hj
   rw [Addr.add_mid]
   simp [World.cell?,h2,h7]
theorem winP.from {e:TypeId} {sz n c i:Nat} {A:Option Addr} {rows:List (List Value)} (h:winP e sz (.slice A n c) rows w) (hi:i≤n):winP e sz (.slice (if c=i then A else A.map (·.add (i * sz))) (n - i) (c - i)) (rows.drop i) w:=by
 obtain ⟨hn,hc,hm⟩:=h.len
 refine ⟨fun r hr=>h.1 r (List.mem_of_mem_drop hr),?_⟩
 rcases h.2 with ⟨h1,h2⟩ | ⟨g,off,cap,cur,h1,h2,h3,h4,h5,h6⟩
 · cases h1;subst h2
   obtain rfl:i=0:=by omega
   exact .inl ⟨by simp,by simp⟩
 · cases h1
   by_cases hci:c=i
   · have:rows.drop i=[]:=List.drop_eq_nil_of_le (by omega)
     refine .inr ⟨g,off,0,cur,?_,h2,by rw [this];simp,Nat.zero_le _,by omega,fun j u hj=>by rw [this] at hj;simp at hj⟩
     rw [if_pos hci,this]
     simp only [List.length_nil]
     congr 1 <;> omega
   · refine .inr ⟨g,off+i * sz,c - i,cur,?_,h2,by rw [List.length_drop];omega,by omega,?_,fun j u hj=>?_⟩
     · rw [if_neg hci,List.length_drop]
       simp [Addr.add_mid]
     · have:i * sz+(c - i) * sz=c * sz:=by rw [← Nat.add_mul];congr 1;omega
       omega
     · rw [flat_drop rows h.1 i (by omega),List.getElem?_drop] at hj
       rw [Nat.add_assoc];exact h6 _ u hj
theorem winP.upto {e:TypeId} {sz n c i j:Nat} {A:Option Addr} {rows:List (List Value)} (h:winP e sz (.slice A n c) rows w) (hi:i≤n) (hij:i≤j) (hj:j≤c):winP e sz (.slice A i j) (rows.take i) w:=by
 obtain ⟨hn,hc,hm⟩:=h.len
 refine ⟨fun r hr=>h.1 r (List.mem_of_mem_take hr),?_⟩
 rcases h.2 with ⟨h1,h2⟩ | ⟨g,off,cap,cur,h1,h2,h3,h4,h5,h6⟩
 · cases h1;subst h2
   obtain rfl:i=0:=by omega
   obtain rfl:j=0:=by omega
   exact .inl ⟨rfl,by simp⟩
 · cases h1
   refine .inr ⟨g,off,j,cur,by rw [List.length_take,Nat.min_eq_left (by omega)],h2,by rw [List.length_take];omega,by omega,?_,fun k u hk=>?_⟩
   · have:=Nat.mul_le_mul_right sz hj
     omega
   · rw [flat_take rows h.1 i (by omega),List.getElem?_take] at hk
     split at hk
     · exact h6 _ u hk
     · cases hk
theorem Own.winAt (H:Own w0 row w rs) (i:Nat) {e:TypeId} {sz:Nat} {v:Value} {rows:List (List Value)} (hi:rs[i]? = some (.win e sz v rows)):winP e sz v rows w:=H.pred i _ hi
theorem Own.reseen (H:Own w0 row w rs) (i:Nat) {r:Res} (hi:rs[i]? = some r) (r':Res) (hp:r'.pred w) (hf:∀ b,r'.foot b→r.foot b):Own w0 row w (rs.set i r'):=
 H.turn i hi r' H.grown (Nat.le_refl _) (fun _ _ _=>rfl) hp (fun b hb=>⟨.inl (hf b hb),(H.foot i r hi b (hf b hb)).2⟩)
theorem run_append_win {t e:TypeId} {ti:TypeInfo} {z:Value} {sz bytes:Nat} (ht:P.underlying t=some (.slice e)) (hi:P.info? e=some ti) (hz:ti.zero=some z) (hsize:ti.size=sz) (hby:ti.bytes=bytes) (hzs:z.cells.size=sz) (hsz:0 < sz) (hb1:0 < bytes)
   {v:Value} {rows news:List (List Value)} {ad:Addr} {m c:Nat} (hw:winP e sz v rows w) (hm:news.length=m) (hnews:∀ j u,news.flatten[j]? = some u→w.cell? (ad.add j)=some u) (hl:∀ r ∈ news,r.length=sz) (h1:∀ u ∈ news.flatten,u.oneCell'=true) (hb:(rows.length+m) * bytes≤140737488355328) (ty:TypeId) :
   ∃ A c' w',(Builtin.append_ #[t,t] ty #[v,.slice (some ad) m c]).run P w = .ok (.slice A (rows++news).length c') w'∧winP e sz (.slice A (rows++news).length c') (rows++news) w'∧w.grownBy w' v.ownBlock ∧
     ((Value.slice A (rows++news).length c').ownBlock=v.ownBlock∨((Value.slice A (rows++news).length c').ownBlock=some w.heap.size∧w.heap.size < w'.heap.size)):=by
 subst hsize;subst hby
 have hlen:rows.length+m≤140737488355328:=Nat.le_trans (Nat.le_mul_of_pos_right _ hb1) hb
 have hfr:=flat_lenW rows hw.1
 have hfn:=flat_lenW news hl
 rw [hm] at hfn
 have hall:∀ r ∈ rows++news,r.length=ti.size:=fun r hr=>by
   rcases List.mem_append.1 hr with h | h
   · exact hw.1 r h
   · exact hl r h
 have e1:(rows++news).length=rows.length+m:=by rw [List.length_append,hm]
 have hfa:=flat_lenW (rows++news) hall
 rw [e1] at hfa
 have grown:∀ (old:Nat),old < rows.length+m→∀ (rw':Option Nat),
     winP e ti.size (.slice (some ⟨w.heap.size,0,none⟩) (rows++news).length (grownCap w (rows.length+m) old e)) (rows++news) (w.drew.alloc (.cells (rows.flatten.toArray++news.flatten.toArray++Builtin.zeroCells z.cells (grownCap w (rows.length+m) old e - (rows.length+m))) e)) ∧
     w.grownBy (w.drew.alloc (.cells (rows.flatten.toArray++news.flatten.toArray++Builtin.zeroCells z.cells (grownCap w (rows.length+m) old e - (rows.length+m))) e)) rw':=by
   intro old ho rw'
   have hge:=grownCap_ge w (rows.length+m) old e
   have hcm:grownCap w (rows.length+m) old e≤maxLen:=grownCap_le_maxLen w (rows.length+m) old e (by simp only [maxLen];omega)
   refine ⟨⟨hall,.inr ⟨w.heap.size,0,_,_,rfl,heap_alloc_new w.drew _,by omega,hcm,?_,fun j u hj=>?_⟩⟩,⟨rfl,rfl,rfl,by simp,fun k hk _=>heap_alloc_old w.drew _ hk⟩⟩
   · have hmul:(rows.length+m) * ti.size+(grownCap w (rows.length+m) old e - (rows.length+m)) * ti.size=grownCap w (rows.length+m) old e * ti.size:=by rw [← Nat.add_mul];congr 1;omega
     rw [List.flatten_append,List.length_append] at hfa
     simp only [Array.size_append,List.size_toArray,size_zeroCells,hzs]
     omega
   · have hjl:=(List.getElem?_eq_some_iff.1 hj).1
     rw [List.flatten_append] at hj hjl;rw [Nat.zero_add,Array.getElem?_append_left (by simpa using hjl)]
     have e2:rows.flatten.toArray++news.flatten.toArray=(rows.flatten++news.flatten).toArray:=by simp
     rw [e2]
     simpa using hj
 rcases hw.2 with ⟨rfl,rfl⟩ | ⟨g,off,cap,cur,rfl,hg,hnc,hcm,hfit,hat⟩
 · by_cases hm0:m=0
   · have hn:news=[]:=List.eq_nil_of_length_eq_zero (by omega)
     subst hn;subst hm0
     refine ⟨none,0,w,?_,winP.nil e ti.size w,⟨rfl,rfl,rfl,Nat.le_refl _,fun _ _ _=>rfl⟩,.inl rfl⟩
     simp [Builtin.append_,run_underlying ht,sizeOf,typeInfo,hi,Builtin.lenOf,Builtin.firstCells,loadCells,loadCellsFrom]
   · have hr:=run_append_nil (P:=P) w t ty e ti z ht hi hz ad m c news.flatten hfn hnews (by omega) (by simp only [List.length_nil] at hlen;omega) (by simp only [List.length_nil,Nat.zero_add] at hb;omega)
     have hgr:=grown 0 (by omega) (Value.ownBlock (.slice none 0 0))
     have e0:([]++news:List (List Value)).length=m:=hm
     simp only [List.length_nil,Nat.zero_add,List.flatten_nil,e0,Array.empty_append] at hgr ⊢
     refine ⟨_,_,_,hr,?_,hgr.2,.inr ⟨rfl,by simp⟩⟩
     simpa using hgr.1
 · by_cases hroom:rows.length+m≤cap
   · have hmul:rows.length * ti.size+m * ti.size≤cap * ti.size:=by rw [← Nat.add_mul];exact Nat.mul_le_mul_right _ hroom
     have hf:=run_firstCells_some (P:=P) w ti.size m ad m c news.flatten hfn hnews
     have hst:=run_storeCells_at P g (off+rows.length * ti.size) e news.flatten 0 cur w hg (by omega) h1
     simp only [Nat.add_zero] at hst
     refine ⟨some ⟨g,off,none⟩,cap,w.setRow g (cur.toList.take (off+rows.length * ti.size)++news.flatten++cur.toList.drop (off+rows.length * ti.size+news.flatten.length)).toArray,?_,⟨hall,.inr ⟨g,off,cap,_,rfl,setRow_heap w g cur _ e _ hg,by omega,hcm,?_,fun j u hj=>?_⟩⟩,⟨rfl,rfl,rfl,by simp,fun k _ hk=>setRow_other w g k _ (fun e=>hk (by simp [Value.ownBlock,e]))⟩,.inl rfl⟩
     · rw [e1]
       simp [Builtin.append_,run_underlying ht,sizeOf,typeInfo,hi,Builtin.lenOf,hroom,hf,Addr.add_mid,hst]
     · simp only [List.size_toArray,List.length_append,List.length_take,List.length_drop,Array.length_toList]
       omega
     · have hjl:=(List.getElem?_eq_some_iff.1 hj).1
       rw [hfa] at hjl;rw [List.flatten_append] at hj;rw [List.getElem?_toArray]
       by_cases hjr:j < rows.flatten.length
       · rw [List.getElem?_append_left hjr] at hj
         have:=hat j u hj
         rw [List.append_assoc,List.getElem?_append_left (by rw [List.length_take,Array.length_toList (xs:=cur)];omega),List.getElem?_take_of_lt (by omega)]
         simpa using this
       · rw [List.getElem?_append_right (by omega)] at hj
         have hkl:=(List.getElem?_eq_some_iff.1 hj).1
         have htl:(cur.toList.take (off+rows.length * ti.size)).length=off+rows.length * ti.size:=by rw [List.length_take,Array.length_toList (xs:=cur)];omega
         rw [List.append_assoc,List.getElem?_append_right (by omega),htl,List.getElem?_append_left (by omega),show off+j - (off+rows.length * ti.size)=j - rows.flatten.length by omega]
         exact hj
   · have holds:∀ j u,rows.flatten[j]? = some u→w.cell? ((⟨g,off,none⟩:Addr).add j)=some u:=hw.cells
     have hr:=run_append_grow (P:=P) w t ty e ti z ht hi hz ⟨g,off,none⟩ rows.length cap rows.flatten hfr holds ad m c news.flatten hfn hnews (by omega) (by omega) (growslice_fits (by omega) hb)
     have hgr:=grown cap (by omega) (Value.ownBlock (.slice (some ⟨g,off,none⟩) rows.length cap))
     refine ⟨_,_,_,?_,hgr.1,hgr.2,.inr ⟨rfl,by simp⟩⟩
     rw [hr,e1]
theorem win_run {t e:TypeId} {v:Value} {rows news:List (List Value)} {ad:Addr} {m c:Nat} {ti:TypeInfo} {z:Value} {sz bytes:Nat} (H:Own w0 row w rs) (i:Nat) (ht:P.underlying t=some (.slice e))
   (hi:∀ w,(typeInfo e).run P w = .ok ti w) (hz:ti.zero=some z) (hsize:ti.size=sz) (hby:ti.bytes=bytes) (hzs:z.cells.size=sz) (hsz:Nat.blt 0 sz=true) (hb1:Nat.blt 0 bytes=true)
   (hr:rs[i]? = some (.win e sz v rows)) (hm:news.length=m) (hnews:∀ j u,news.flatten[j]? = some u→w.cell? (ad.add j)=some u) (hl:∀ r ∈ news,r.length=sz) (h1:∀ r ∈ news,r.all (·.oneCell')=true) (hb:(rows.length+m) * bytes≤140737488355328) (ty:TypeId) :
   ∃ A c' w',(Builtin.append_ #[t,t] ty #[v,.slice (some ad) m c]).run P w = .ok (.slice A (rows++news).length c') w'∧Own w0 row w' (rs.set i (.win e sz (.slice A (rows++news).length c') (rows++news))):=by
 obtain ⟨A,c',w',h2,h3,hgr,hat⟩:=run_append_win (P:=P) (w:=w) (c:=c) ht (info_of hi) hz hsize hby hzs (Nat.blt_eq.mp hsz) (Nat.blt_eq.mp hb1) (H.winAt i hr) hm hnews hl (fun u hu=>by
   obtain ⟨r,hr1,hr2⟩:=List.mem_flatten.1 hu
   exact (List.all_eq_true.1 (h1 r hr1)) u hr2) hb ty
 refine ⟨A,c',w',h2,H.turn i hr _ ?_ hgr.size (fun b hb hnb=>hgr.block b hb (fun e=>hnb (show v.ownBlock=some b from e.symm))) h3 ?_⟩
 · refine ⟨hgr.os.trans H.grown.os,hgr.tape.trans H.grown.tape,hgr.output.trans H.grown.output,Nat.le_trans H.grown.size hgr.size,fun k hk hne=>?_⟩
   refine (hgr.block k (Nat.lt_of_lt_of_le hk H.grown.size) (fun e=>?_)).trans (H.grown.block k hk hne)
   rcases (H.foot i _ hr k (show v.ownBlock=some k from e.symm)).1 with h | h
   · exact absurd hk (by omega)
   · exact hne h
 · intro b hb
   have hb:(Value.slice A (rows++news).length c').ownBlock=some b:=hb
   rcases hat with h | ⟨h,hlt⟩
   · rw [h] at hb
     exact ⟨.inl hb,Nat.lt_of_lt_of_le (H.foot i _ hr b hb).2 hgr.size⟩
   · rw [hb] at h
     cases h
     exact ⟨.inr (Nat.le_refl _),hlt⟩
theorem oWin {t e:TypeId} {s x:Operand} {v:Value} {rows news:List (List Value)} {ad:Addr} {m c:Nat} {ti:TypeInfo} {z:Value} {sz bytes:Nat} (H:Own w0 row w rs) (i:Nat) (ht:P.underlying t=some (.slice e))
   (hi:∀ w,(typeInfo e).run P w = .ok ti w) (hz:ti.zero=some z) (hsize:ti.size=sz) (hby:ti.bytes=bytes) (hzs:z.cells.size=sz) (hsz:Nat.blt 0 sz=true) (hb1:Nat.blt 0 bytes=true)
   (F:Has N a env) (hN:Nat.blt d N=true) (hs:ev env s=some v) (hx:ev env x=some (.slice (some ad) m c))
   (hr:rs[i]? = some (.win e sz v rows)) (hm:news.length=m) (hnews:∀ j u,news.flatten[j]? = some u→w.cell? (ad.add j)=some u) (hl:∀ r ∈ news,r.length=sz) (h1:∀ r ∈ news,r.all (·.oneCell')=true) (hb:(rows.length+m) * bytes≤140737488355328)
   (K:∀ A c a w,Has N a ((d,.slice A (rows++news).length c) :: env)→Own w0 row w (rs.set i (.win e sz (.slice A (rows++news).length c) (rows++news)))→Kt a w) :
   (Oper.mk (some d) (.call ⟨.builtin .append,#[s,x],#[t,t]⟩) ty pos af g).wp P a w Kt Q:=by
 obtain ⟨A,c',w',h2,h3⟩:=win_run (P:=P) (c:=c) H i ht hi hz hsize hby hzs hsz hb1 hr hm hnews hl h1 hb ty
 exact oV F rfl hN (app_exec (ty':=ty) F hs hx h2) (fun a F'=>K A c' a w' F' h3)
theorem rSlF {t e:TypeId} {x lo:Operand} {A:Option Addr} {n c i sz:Nat} {k':IntKind} (ht:P.underlying t=some (.slice e)) (hz:∀ w,(sizeOf e).run P w = .ok sz w) (F:Has N a env) (hx:ev env x=some (.slice A n c)) (hl:ev env lo=some (.int k' (i:Int))) (hi:i≤n) :
   (execOp a.eval ⟨some d,.slice t x (some lo) none none,ty,pos,af,g⟩).run P w = .ok (.value (.slice (if c=i then A else A.map (·.add (i * sz))) (n - i) (c - i))) w:=by
 have he:P.elem t=e:=by simp [Program.elem,ht]
 have h1:=run_slice_l (P:=P) w t A n c (elem_of ht) k' (i:Int) (by omega) (by omega)
 rw [he,hz] at h1
 have h3:(Instr.slice t (.slice A n c) (some (.int k' (i:Int))) none none).run P w = .ok (.slice (if c=i then A else A.map (·.add (i * sz))) (n - i) (c - i)) w:=by
   rw [h1]
   simp only [Result.andThen_ok,sliced,Int.toNat_natCast]
 simp only [execOp,Option.map_some,Option.map_none,F.eval hx,F.eval hl,Sem.run_bind,run_sliceAt_slice w t _ _ _ none (elem_of ht),h3]
 rfl
theorem rSlHM {t e:TypeId} {x hi mx:Operand} {A:Option Addr} {n c i j sz:Nat} {k k':IntKind} (ht:P.underlying t=some (.slice e)) (hz:∀ w,(sizeOf e).run P w = .ok sz w) (F:Has N a env) (hx:ev env x=some (.slice A n c)) (hh:ev env hi=some (.int k (i:Int))) (hm:ev env mx=some (.int k' (j:Int))) (hij:i≤j) (hj:j≤c) :
   (execOp a.eval ⟨some d,.slice t x none (some hi) (some mx),ty,pos,af,g⟩).run P w = .ok (.value (.slice A i j)) w:=by
 have he:P.elem t=e:=by simp [Program.elem,ht]
 have h1:=run_slice_hm (P:=P) w t A n c (elem_of ht) k k' (i:Int) (j:Int) (by omega) (by omega) (by omega)
 rw [he,hz] at h1
 have h2:(if j=0 then A else Option.map (fun x=>x.add (0 * sz)) A)=A:=by
   split
   · rfl
   · cases A with
     | none=>rfl
     | some p=>simp [Addr.add]
 have h3:(Instr.slice t (.slice A n c) none (some (.int k (i:Int))) (some (.int k' (j:Int)))).run P w = .ok (.slice A i j) w:=by
   rw [h1]
   simp only [Result.andThen_ok,sliced,h2,Int.toNat_natCast,Nat.sub_zero]
 simp only [execOp,Option.map_some,Option.map_none,F.eval hx,F.eval hh,F.eval hm,Sem.run_bind,run_sliceAt_slice w t _ none _ _ (elem_of ht),h3]
 rfl
end
-- VcO
open Go.RowKit
section
variable {P:Program} {l:List Oper} {Q:Exit→Act→World→Prop} {N:Nat} {a:Act} {env:List (Nat × Value)} {rest:List Oper} {d:Tmp} {ty:TypeId} {pos:String} {af:Array Edge} {g:Option (Nat × Bool)}
 {w0 w:World} {row:Option Nat} {rs:List Res} {Kt:Act→World→Prop}
theorem Own.setRws (H:Own w0 row w rs) (i:Nat) {e:TypeId} {sz n c g k:Nat} {rows:List (List Value)} {r:List Value} {j:Nat} {u:Value} (hi:rs[i]? = some (.rws e sz (.slice (some ⟨g,0,.none⟩) n c) rows)) (hl:∀ r ∈ rows,r.length=sz) (hj:rows[j]? = some r) (hk:k < sz) :
   w.there g (j * sz+k) 1∧Own w0 row (w.setCell ⟨g,j * sz+k,.none⟩ u) (rs.set i (.rws e sz (.slice (some ⟨g,0,.none⟩) n c) (rows.set j (r.set k u)))):=by
 have h:=H.arr i hi
 have hjl:=(List.getElem?_eq_some_iff.1 hj).1
 have hflat:=flat_lenW rows hl
 have hrl:=hl r (List.mem_of_getElem? hj)
 have hjk:j * sz+k < rows.length * sz:=by
   have:=Nat.mul_le_mul_right sz (show j+1≤rows.length from hjl)
   rw [Nat.add_mul] at this
   omega
 have hset:∀ (rows:List (List Value)) (j:Nat),(∀ r ∈ rows,r.length=sz)→rows[j]? = some r→(rows.set j (r.set k u)).flatten=rows.flatten.set (j * sz+k) u:=by
   intro rows
   induction rows with
   | nil=>intro j _ h;simp at h
   | cons r0 rest ih=>
     intro j hl h
     have h0:r0.length=sz:=hl r0 (by simp)
     cases j with
     | zero=>
       simp at h;subst h
       simp only [List.set_cons_zero,List.flatten_cons,Nat.zero_mul,Nat.zero_add]
       rw [List.set_append_left _ _ (by omega)]
     | succ j=>
       simp only [List.set_cons_succ,List.flatten_cons]
       rw [ih j (fun r hm=>hl r (by simp [hm])) (by simpa using h),List.set_append_right _ _ (by rw [h0,Nat.add_mul];omega),h0]
       congr 2
       rw [Nat.add_mul];omega
 rcases h.2 with ⟨h1,_⟩ | ⟨g',cap,cur,h1,_,h2,h3,h4,h5,h6⟩
 · cases h1
 · have hg:g'=g:=by cases h1;rfl
   subst hg
   obtain ⟨rfl,rfl⟩:n=rows.length∧c=cap:=by cases h1;exact ⟨rfl,rfl⟩
   have hcs:rows.length * sz≤cur.size:=by rw [h5];exact Nat.mul_le_mul_right _ h3
   have hB:Blk w g' cur.toList e:=by unfold Blk;simpa using h2
   refine ⟨fun q hq=>?_,H.turn i hi _ (grown_setCell H.grown (H.foot i _ hi g' rfl).1 _ _) (by simp [World.setCell]) (fun b _ hb=>Below.heap_setCell w _ u b (fun e=>hb (by rw [e];rfl))) ?_ (fun b hb=>⟨.inl hb,by
     have:g'=b:=by simpa [Res.rws,Res.arr,Value.ownBlock] using hb
     subst this
     simpa [World.setCell] using (H.foot i _ hi g' rfl).2⟩)⟩
   · obtain rfl:q=0:=by omega
     have hc:=hB.cell (j * sz+k) (v:=cur.toList[j * sz+k]'(by simpa using (by omega:j * sz+k < cur.size))) (List.getElem?_eq_getElem _)
     exact ⟨by rw [Nat.add_zero,hc];rfl,by rw [Nat.add_zero];exact hB.frozen _⟩
   · have h7:=hB.set (j * sz+k) u
     show World.ownsRow _ 0 e sz _ (rows.set j (r.set k u)).length (rows.set j (r.set k u)).flatten
     rw [hset rows j hl hj,List.length_set]
     refine ⟨by rw [List.length_set,hflat],.inr ⟨g',c,(cur.toList.set (j * sz+k) u).toArray,rfl,Nat.zero_le _,h7,h3,h4,by simpa using h5,?_⟩⟩
     simp only
     rw [List.take_set,h6]
theorem store_there {t:TypeId} {x y:Operand} {b o:Nat} {v:Value} (hz:∀ w,(sizeOf t).run P w = .ok 1 w) (F:Has N a env)
   (hx:ev env x=some (.pointer (some ⟨b,o,none⟩))) (hy:ev env y=some v) (h1:v.oneCell'=true) (ht:w.there b o 1):(execOp a.eval ⟨none,.store t x y,ty,pos,af,g⟩).run P w = .ok .skip (w.setCell ⟨b,o,none⟩ v):=by
 simp only [execOp,F.eval hx,F.eval hy]
 obtain ⟨hc,hf⟩:=ht 0 (by omega)
 rw [Nat.add_zero] at hc hf
 have h2:v.cells = #[v]:=by cases v <;> simp_all [Value.oneCell',Value.cells]
 have h3:=run_storeCells_cells (P:=P) b o [v] 0 w (fun q hq=>by simp at hq;subst hq;simpa using hc) (fun q hq=>by simp at hq;subst hq;simpa using hf) (fun q hq=>by simp at hq;subst hq;exact h1)
 simp only [Nat.add_zero] at h3
 have h4:(storeCells ⟨b,o,none⟩ [v]).run P w = .ok () (w.setCell ⟨b,o,none⟩ v):=h3
 simp only [Instr.storeAt,Instr.sureAddr,storeVar,h2,Sem.run_bind,Sem.run_pure,Result.andThen_ok,hz,List.size_toArray,List.length_cons,List.length_nil,ne_eq,not_true_eq_false,↓reduceIte,Nat.zero_add,h4]
theorem oStW {t:TypeId} {x y:Operand} {e:TypeId} {sz n c gb k o:Nat} {rows:List (List Value)} {r:List Value} {j:Nat} {v:Value} (H:Own w0 row w rs) (i:Nat) (hz:∀ w,(sizeOf t).run P w = .ok 1 w) (F:Has N a env)
   (hx:ev env x=some (.pointer (some ⟨gb,o,none⟩))) (hy:ev env y=some v) (h1:v.oneCell'=true) (hi:rs[i]? = some (.rws e sz (.slice (some ⟨gb,0,none⟩) n c) rows)) (hl:∀ r ∈ rows,r.length=sz) (hj:rows[j]? = some r) (hk:k < sz) (ho:o=j * sz+k)
   (K:∀ w,Own w0 row w (rs.set i (.rws e sz (.slice (some ⟨gb,0,none⟩) n c) (rows.set j (r.set k v))))→Kt a w):(Oper.mk none (.store t x y) ty pos af g).wp P a w Kt Q:=by
 subst ho
 obtain ⟨h2,h3⟩:=H.setRws i (u:=v) hi hl hj hk
 exact oU rfl (w':=w.setCell ⟨gb,j * sz+k,none⟩ v) (store_there hz F hx hy h1 h2) (K _ h3)
end
-- TuD
open Go.RowKit
set_option maxRecDepth 100000
theorem Own.rwsAddr {w0 w:World} {row:Option Nat} {rs:List Res} (H:Own w0 row w rs) (i:Nat) {e:TypeId} {sz n c:Nat} {A:Option Addr} {rows:List (List Value)} (hi:rs[i]? = some (.rws e sz (.slice A n c) rows)) (hne:0 < rows.length):∃ g,A=some ⟨g,0,.none⟩:=by
 have h:=H.arr i hi
 rcases h.2 with ⟨h1,h2⟩ | ⟨g,cap,cur,h1,_⟩
 · omega
 · cases h1;exact ⟨g,rfl⟩
theorem Own.rwsCell {w0 w:World} {row:Option Nat} {rs:List Res} (H:Own w0 row w rs) (i:Nat) {e:TypeId} {sz n c g j k:Nat} {rows:List (List Value)} {r:List Value} {v:Value} (hi:rs[i]? = some (.rws e sz (.slice (some ⟨g,0,.none⟩) n c) rows)) (hl:∀ r ∈ rows,r.length=sz) (hsz:0 < sz) (hj:rows[j]? = some r) (hk:r[k]? = some v):w.cell? ⟨g,0+j * sz+k,.none⟩=some v:=by
 obtain ⟨b,off,h1,h2⟩:=H.rowsAt i hi hl hsz j r hj
 cases h1
 exact h2 k v hk
section
variable {f:Ins→Ins}
def halfI (f:Ins→Ins) (l:List Ins) (k:Nat):List (List Value):=((l.take k).map f++l.drop k).map Ins.cells
theorem halfI_zero (l:List Ins):halfI f l 0=l.map Ins.cells:=rfl
theorem halfI_len (l:List Ins) (k:Nat):(halfI f l k).length=l.length:=by unfold halfI;rw [List.length_map,List.length_append,List.length_map,List.length_take,List.length_drop];omega
theorem halfI_rows (l:List Ins) (k:Nat):∀ r ∈ halfI f l k,r.length=10:=fun r hr=>by
 obtain ⟨x,_,rfl⟩:=List.mem_map.1 hr
 rfl
theorem halfI_at {l:List Ins} {k:Nat} {x:Ins} (h:l[k]? = some x):(halfI f l k)[k]? = some x.cells:=by
 have hk:=(List.getElem?_eq_some_iff.1 h).1
 unfold halfI
 rw [List.getElem?_map,List.getElem?_append_right (by rw [List.length_map,List.length_take];omega),List.getElem?_drop,List.length_map,List.length_take,show k+(k - min k l.length)=k by omega,h]
 rfl
theorem halfI_set {l:List Ins} {k:Nat} {x:Ins} (h:l[k]? = some x):(halfI f l k).set k (f x).cells=halfI f l (k+1):=by
 have hk:=(List.getElem?_eq_some_iff.1 h).1
 have hl:((l.take k).map f).length=k:=by rw [List.length_map,List.length_take];omega
 have hx:l.drop k=x :: l.drop (k+1):=by
   rw [List.drop_eq_getElem_cons hk];rw [List.getElem?_eq_getElem hk] at h;rw [Option.some.inj h]
 unfold halfI
 rw [hx,List.take_add_one,h,List.map_append,List.map_append,List.map_append,List.map_append,List.set_append_right _ _ (by rw [List.length_map];omega),List.length_map,hl,Nat.sub_self]
 simp
theorem halfI_keep {l:List Ins} {k:Nat} {x:Ins} (h:l[k]? = some x) (hf:f x=x):halfI f l k=halfI f l (k+1):=by
 rw [← halfI_set (f:=f) h,hf];refine (List.ext_getElem? fun i=>?_);rw [List.getElem?_set]
 by_cases e:k=i
 · subst e
   rw [if_pos rfl,if_pos (by rw [halfI_len];exact (List.getElem?_eq_some_iff.1 h).1),halfI_at h]
 · rw [if_neg e]
theorem halfI_done (l:List Ins):halfI f l l.length=(l.map f).map Ins.cells:=by
 unfold halfI
 rw [List.take_length,List.drop_length,List.append_nil]
end
theorem cloneI_any (A:Option Addr) (C:Nat) (rows:List (List Value)) (w0:World) (hR:RowsAt w0 A 10 rows) (hr:∀ r ∈ rows,r.length=10) (h1:∀ r ∈ rows,r.all (·.oneCell')=true) (hn:rows.length≤1000000) :
   Calls Tryz.prog 59 #[.slice A rows.length C] w0 fun e w'=>∃ A2 c2,e = .returned (.slice A2 rows.length c2)∧Own w0 none w' [.rws 37 10 (.slice A2 rows.length c2) rows]:=by
 have H:=Own.start w0 none
 refine enterF Tryz.func59 rfl Tryz.ntmps59 rfl (fun a F=>?_);refine cSR fun K1 hK1=>sAs F rfl rfl rfl (qNK hK1 ?_);clear hK1;clear F a;intro a F;refine cSeq (fun K2 hK2=>?_);refine cSR fun K3 hK3=>sMv F rfl rfl rfl (qBin rfl rfl rfl rfl (bNil Tryz.underlying33) (qNK hK3 ?_));clear hK3;clear F a;intro a F
 refine cIf F rfl (fun h4=>?_) (fun h4=>?_)
 ·
  obtain rfl:A=none:=by cases A with | none=>rfl | some a=>cases h4
  obtain rfl:rows=[]:=by
   cases rows with
   | nil=>rfl
   | cons r rs=>
    obtain ⟨b,o,he,_⟩:=hR 0 r rfl
    cases he
  refine cSR fun K4 hK4=>sAs F rfl rfl rfl (qNK hK4 ?_);clear hK4;clear F a;intro a F;refine wp_ret ?_;simp only [Exit.then];refine bRet Tryz.results59 F rfl ?_
  first
    | exact ⟨none,0,rfl,H.nilRws 37 10⟩
    | (simp only [List.nil_append] at H
       exact ⟨_,_,rfl,H.pick 0 rfl⟩)
 obtain ⟨a0,rfl⟩:∃ a0,A=some a0:=by cases A with | none=>cases h4 | some a=>exact ⟨a,rfl⟩
 refine wp_skip (hK2 _ _ (cSR fun K5 hK5=>?_));clear hK2;refine sBs (cs:=[]) H Tryz.underlying33 Tryz.sizeOf37 Tryz.zeroValue37 rfl F rfl rfl rfl rfl rfl ?_;clear F a H;intro b5 a w F H
 replace H:=H.emptyRws 10
 refine sMv F rfl rfl rfl ?_;clear F a;intro a F;refine sAppM (bytes:=10) H 0 Tryz.underlying33 Tryz.typeInfo37 rfl rfl rfl rfl rfl rfl F rfl rfl rfl rfl rfl (by first | rfl | simp) (((hR.own H).flat hr)) (hr) (h1) ((by simp only [List.length_nil];omega)) ?_;clear F a H;intro A7 c7 a w F H;refine sAs F rfl rfl rfl (qNK hK5 ?_);clear hK5;clear F a;intro a F;refine wp_ret ?_;refine bRet Tryz.results59 F rfl ?_
 first
   | exact ⟨none,0,rfl,H.nilRws 37 10⟩
   | (simp only [List.nil_append] at H
      exact ⟨_,_,rfl,H.pick 0 rfl⟩)
theorem inverse_two (A:Option Addr) (C:Nat) (l:List Int) (n:Nat) (w0:World) (hA:RowsAt w0 A 1 (intsZ l)) (hn:n≤1000) (hl:l.length≤9223372036854775807) :
   Calls Tryz.prog 58 #[.slice A l.length C,.int .i64 (n:Int)] w0 fun e w'=>∃ A2 n2 c2 o R,e = .returned (.tuple #[.slice A2 n2 c2,.bool o])∧(o=true→IsPerm n l∧∃ b cells,A2=some ⟨b,0,none⟩∧n2=n∧c2=n∧InvOut n l cells∧R = .blk b cells 5)∧(o=false→¬ IsPerm n l)∧Own w0 none w' [R]:=by
 refine (inverse_any A C l n w0 hA hn hl).mono ?_
 rintro e w' (⟨h1,b,cells,rfl,h3,h4⟩ | ⟨h1,rfl,h3⟩)
 · exact ⟨_,_,_,_,_,rfl,fun _=>⟨h1,b,cells,rfl,rfl,rfl,h3,rfl⟩,fun h=>(by cases h),h4⟩
 · exact ⟨_,_,_,_,.held (fun _=>False) none 1 [],rfl,fun h=>(by cases h),fun _=>h1,((Own.start w0 none).grow h3).void _ (show ∀ (j:Nat) (cs:List Value),([]:List (List Value))[j]? = some cs→_ from fun j cs h=>by simp at h) (fun _ hb=>hb)⟩
-- TuE
open Go.Proofs.Tryz
open Go.RowKit
set_option maxRecDepth 100000
def TurnOut (p:Prg) (T L:List Int) (w0 w:World) (h:Nat) (v:Value):Prop:=
 ∃ LA LC IA IC TA TC rows S3 ccs S4,v = .agg ([.string p.name,.slice LA p.locs.length LC,.slice IA p.locs.length IC,.slice TA p.threads.length TC,Go.Proofs.YtbgnapmaimkpkaaGreatDoor.b8 p.ask]++ccs).toArray∧rows.length=p.threads.length∧(∀ r ∈ rows,r.length=1) ∧
   Own w0 none w [.tree S4 h ccs (turnH T L h p.cond),.rws 33 1 (.slice TA p.threads.length TC) rows,.grove S3 rows (turnPr h p T L).threads,.rws 5 1 (.slice IA p.locs.length IC) ((turnPr h p T L).init.map fun x=>[Go.Proofs.YtbgnapmaimkpkaaGreatDoor.b8 x]),.rws 9 1 (.slice LA p.locs.length LC) ((turnPr h p T L).locs.map fun s=>[.string s])]
theorem rows_take {α:Type} {g:α→List Value} {l:List α} {k:Nat} {x:α} (h:l[k]? = some x):(l.take k).map g++[g x]=(l.take (k+1)).map g:=by
 rw [List.take_add_one,h,List.map_append];rfl
set_option maxHeartbeats 16000000 in
theorem Turn_any (cs:List Value) (p:Prg) (LA:Option Addr) (LC:Nat) (IA:Option Addr) (IC:Nat) (TA:Option Addr) (TC h:Nat) (ccs:List Value) (A:Option Addr) (C:Nat) (T:List Int) (B:Option Addr) (D:Nat) (L:List Int) (nT nL:Nat) (w0:World)
   (hp:ProgIn w0 cs p LA LC IA IC TA TC h ccs) (hN:NeedsAt w0) (hs:rightErr p=0→Slim h p.cond) (hA:RowsAt w0 A 1 (intsZ T)) (hB:RowsAt w0 B 1 (intsZ L)) (hnT:nT=T.length) (hnL:nL=L.length) (hTl:T.length≤9223372036854775807) (hLl:L.length≤9223372036854775807) :
   Calls Tryz.prog 34 #[.agg cs.toArray,.slice A nT C,.slice B nL D] w0 fun e w'=>
     (rightErr p ≠ 0∧e = .returned (.tuple #[.agg zeroPr.toArray,.int .i64 (rightErr p)])∧Below w0.heap.size w0 w')∨(rightErr p=0∧¬ (IsPerm p.threads.length T∧IsPerm p.locs.length L)∧e = .returned (.tuple #[.agg zeroPr.toArray,.int .i64 2])∧Below w0.heap.size w0 w')∨(rightErr p=0∧IsPerm p.threads.length T∧IsPerm p.locs.length L∧∃ v,e = .returned (.tuple #[v,.int .i64 0])∧TurnOut p T L w0 w' h v):=by
 subst hnT hnL
 have hP:ProgAt w0 cs p:=⟨_,_,_,_,_,_,_,_,hp⟩
 obtain ⟨c1,c2,c3,c4,A5,m5,C5,rfl⟩:=condShape hp.cond
 have hcs:=hp.cs
 simp only [List.cons_append,List.nil_append] at hcs
 subst hcs
 have H:=Own.start w0 none
 refine enterF func34 rfl ntmps34 rfl (fun a F=>?_);refine cSR fun K1 hK1=>?_;refine sBx H F rfl rfl rfl ?_;clear F a H;intro b3 a w F H;refine sAl H zeroValue29 F rfl rfl ?_;clear F a H;intro b6 a w F H;refine sAs F rfl rfl rfl (qNK hK1 ?_);clear hK1;clear F a;intro a F;refine cSeq (fun K2 hK2=>?_);refine cSR fun K3 hK3=>?_
 refine sLr underlying29 rfl ?si F rfl rfl rfl (H.whole 1 rfl) ?_
 case si=>exact info_size sizeOf29
 clear F a;intro a F;refine sCall call15 F rfl rfl rfl (right_any' _ p _ (hP.own H) (hN.own H)) ?_;rintro e w ⟨rfl,hb⟩;replace H:=H.grow hb;clear hb;refine ⟨_,rfl,?_⟩;clear F a;intro a F;refine sAs F rfl rfl rfl (qNK hK3 (qSR fun K4 hK4=>qMv rfl rfl rfl (qBin rfl rfl rfl rfl bNeq (qNK hK4 ?_))));clear hK3 hK4;clear F a;intro a F
 refine cIf F rfl (fun h22=>?_) (fun h22=>?_)
 ·
  replace h22:=bneT h22;refine cSR fun K5 hK5=>sBd (places:=[(0,1),(1,1),(2,1),(3,1),(4,1),(5,5)]) zeroValue29 underlying29 (by kernel_rfl) F rfl rfl rfl rfl (qMv rfl rfl rfl ?_);clear F a;intro a F
  refine sSr H 0 ?si F rfl rfl rfl ?s1 rfl rfl ?_
  case si=>exact info_size sizeOf29
  case s1=>first | rfl | (repeat (first | exact one_nil | (apply one_cons;· first | rfl | assumption | exact one_bif rfl rfl)))
  clear H;intro w H;refine sAs F rfl rfl rfl (qNK hK5 ?_);clear hK5;clear F a;intro a F;refine wp_ret ?_;simp only [Exit.then];refine bRetC1 results34 F rfl rfl underlying29 rfl H 0 rfl sizeOf29 rfl ?_
  first
    | exact .inl ⟨h22,rfl,H.below⟩
    | (have hno:o30=false:=h34
       exact .inr (.inl ⟨h0,fun hh=>hT0 hno hh.1,rfl,H.below⟩))
    | (have hno:o41=false:=h45
       exact .inr (.inl ⟨h0,fun hh=>hL0 hno hh.2,rfl,H.below⟩))
    | (refine .inr (.inr ⟨h0,hpT,hpL,_,rfl,?_⟩)
       subst hrj
       subst hq1 hq2
       rw [hj1,hj2,hjl] at H;rw [hj1,hj2,hjl]
       exact ⟨A1,k1,A2,k2,A3,k3,rows,S,_,S9,rfl,hjl,hr1,H.sel [0,0,0,0,0] rfl rfl⟩)
 replace h22:=bneF h22
 have h0:rightErr p=0:=by omega
 replace hs:=hs h0
 have V:=valid h0
 have h6:=V.locs6
 have h4:=V.thr4
 have hil:=V.init
 have h5:condOk p.threads.length p.locs.length 20 p.cond=true:=right_demand h0 5 (by omega)
 refine wp_skip (hK2 _ _ (cSR fun K6 hK6=>sMv F rfl rfl rfl (qFa (f:=3) (k:=3) underlying29 rfl sizeOf24 rfl rfl rfl rfl rfl (qLd isAgg24 rfl rfl rfl (H.cell 1 rfl rfl) (qLen underlying24 rfl rfl rfl ?_)))));clear hK2;clear F a;intro a F;refine sCall call58 F rfl rfl rfl (inverse_two A C T p.threads.length _ (hA.own H) (by omega) hTl) ?_;rintro e w ⟨A30,n30,k30,o30,R30,rfl,hT1,hT0,H2⟩;replace H:=H.join H2;clear H2;refine ⟨_,rfl,?_⟩;clear F a;intro a F;refine sMv F rfl rfl rfl (qExt rfl rfl rfl rfl (qExt rfl rfl rfl rfl ?_));clear F a;intro a F;refine sAl H zeroValue23 F rfl rfl ?_;clear F a H;intro b9 a w F H;refine sSt H 0 sizeOf23 F rfl rfl rfl rfl rfl rfl ?_;clear H;intro w H;refine sAs F rfl rfl rfl (qNK hK6 ?_);clear hK6;clear F a;intro a F;refine cSeq (fun K7 hK7=>?_);refine cSR fun K8 hK8=>sMv F rfl rfl rfl (qNot rfl rfl rfl (qNK hK8 ?_));clear hK8;clear F a;intro a F
 refine cIf F rfl (fun h34=>?_) (fun h34=>?_)
 ·
  replace h34:=notT h34;refine cSR fun K9 hK9=>sBd (places:=[(0,1),(1,1),(2,1),(3,1),(4,1),(5,5)]) zeroValue29 underlying29 (by kernel_rfl) F rfl rfl rfl rfl ?_;clear F a;intro a F
  refine sSr H 2 ?si F rfl rfl rfl ?s1 rfl rfl ?_
  case si=>exact info_size sizeOf29
  case s1=>first | rfl | (repeat (first | exact one_nil | (apply one_cons;· first | rfl | assumption | exact one_bif rfl rfl)))
  clear H;intro w H;refine sAs F rfl rfl rfl (qNK hK9 ?_);clear hK9;clear F a;intro a F;refine wp_ret ?_;simp only [Exit.then];refine bRetC1 results34 F rfl rfl underlying29 rfl H 2 rfl sizeOf29 rfl ?_
  first
    | exact .inl ⟨h22,rfl,H.below⟩
    | (have hno:o30=false:=h34
       exact .inr (.inl ⟨h0,fun hh=>hT0 hno hh.1,rfl,H.below⟩))
    | (have hno:o41=false:=h45
       exact .inr (.inl ⟨h0,fun hh=>hL0 hno hh.2,rfl,H.below⟩))
    | (refine .inr (.inr ⟨h0,hpT,hpL,_,rfl,?_⟩)
       subst hrj
       subst hq1 hq2
       rw [hj1,hj2,hjl] at H;rw [hj1,hj2,hjl]
       exact ⟨A1,k1,A2,k2,A3,k3,rows,S,_,S9,rfl,hjl,hr1,H.sel [0,0,0,0,0] rfl rfl⟩)
 replace h34:=notF h34
 obtain ⟨hpT,bt,ct,rfl,rfl,rfl,hct,rfl⟩:=hT1 h34
 refine wp_skip (hK7 _ _ (cSR fun K10 hK10=>sMv F rfl rfl rfl (qFa (f:=1) (k:=1) underlying29 rfl sizeOf22 rfl rfl rfl rfl rfl (qLd isAgg22 rfl rfl rfl (H.cell 3 rfl rfl) (qLen underlying22 rfl rfl rfl ?_)))));clear hK7;clear F a;intro a F;refine sCall call58 F rfl rfl rfl (inverse_two B D L p.locs.length _ (hB.own H) (by omega) hLl) ?_;rintro e w ⟨A41,n41,k41,o41,R41,rfl,hL1,hL0,H2⟩;replace H:=H.join H2;clear H2;refine ⟨_,rfl,?_⟩;clear F a;intro a F;refine sMv F rfl rfl rfl (qExt rfl rfl rfl rfl (qExt rfl rfl rfl rfl ?_));clear F a;intro a F;refine sAl H zeroValue23 F rfl rfl ?_;clear F a H;intro b11 a w F H;refine sSt H 0 sizeOf23 F rfl rfl rfl rfl rfl rfl ?_;clear H;intro w H;refine sAs F rfl rfl rfl (qNK hK10 ?_);clear hK10;clear F a;intro a F;refine cSeq (fun K11 hK11=>?_);refine cSR fun K12 hK12=>sMv F rfl rfl rfl (qNot rfl rfl rfl (qNK hK12 ?_));clear hK12;clear F a;intro a F
 refine cIf F rfl (fun h45=>?_) (fun h45=>?_)
 ·
  replace h45:=notT h45;refine cSR fun K13 hK13=>sBd (places:=[(0,1),(1,1),(2,1),(3,1),(4,1),(5,5)]) zeroValue29 underlying29 (by kernel_rfl) F rfl rfl rfl rfl ?_;clear F a;intro a F
  refine sSr H 4 ?si F rfl rfl rfl ?s1 rfl rfl ?_
  case si=>exact info_size sizeOf29
  case s1=>first | rfl | (repeat (first | exact one_nil | (apply one_cons;· first | rfl | assumption | exact one_bif rfl rfl)))
  clear H;intro w H;refine sAs F rfl rfl rfl (qNK hK13 ?_);clear hK13;clear F a;intro a F;refine wp_ret ?_;simp only [Exit.then];refine bRetC1 results34 F rfl rfl underlying29 rfl H 4 rfl sizeOf29 rfl ?_
  first
    | exact .inl ⟨h22,rfl,H.below⟩
    | (have hno:o30=false:=h34
       exact .inr (.inl ⟨h0,fun hh=>hT0 hno hh.1,rfl,H.below⟩))
    | (have hno:o41=false:=h45
       exact .inr (.inl ⟨h0,fun hh=>hL0 hno hh.2,rfl,H.below⟩))
    | (refine .inr (.inr ⟨h0,hpT,hpL,_,rfl,?_⟩)
       subst hrj
       subst hq1 hq2
       rw [hj1,hj2,hjl] at H;rw [hj1,hj2,hjl]
       exact ⟨A1,k1,A2,k2,A3,k3,rows,S,_,S9,rfl,hjl,hr1,H.sel [0,0,0,0,0] rfl rfl⟩)
 replace h45:=notF h45
 obtain ⟨hpL,bl,cl,rfl,rfl,rfl,hcl,rfl⟩:=hL1 h45
 refine wp_skip (hK11 _ _ (cSR fun K14 hK14=>sFa (f:=0) (k:=0) underlying29 rfl sizeOf9 rfl rfl F rfl rfl rfl (qLd isAgg9 rfl rfl rfl (H.cell 5 rfl rfl) (qFa (f:=4) (k:=4) underlying29 rfl sizeOf5 rfl rfl rfl rfl rfl (qLd isAgg5 rfl rfl rfl (H.cell 5 rfl rfl) (qBd (places:=[(0,1),(1,1),(2,1),(3,1),(4,1),(5,5)]) zeroValue29 underlying29 (by kernel_rfl) rfl rfl rfl rfl ?_))))));clear hK11;clear F a;intro a F;refine sAl H zeroValue29 F rfl rfl ?_;clear F a H;intro b12 a w F H
 refine sSr H 0 ?si F rfl rfl rfl ?s1 rfl rfl ?_
 case si=>exact info_size sizeOf29
 case s1=>first | rfl | (repeat (first | exact one_nil | (apply one_cons;· first | rfl | assumption | exact one_bif rfl rfl)))
 clear H;intro w H;refine nK hK14 ?_;clear hK14;refine cSeq (fun K15 hK15=>?_);refine cSR fun K16 hK16=>sMv F rfl rfl rfl (qLen underlying83 rfl rfl rfl (qMv rfl rfl rfl (qNK hK16 ?_)));clear hK16;clear F a;intro a F;refine wp_block ?_
 refine cLoopR [1,3,6,9,11,12,52,53] (fun m ups w=>∃ (j:Nat) (A1:Option Addr) (k1:Nat) (A2:Option Addr) (k2:Nat) (rows1 rows2:List (List Value)),m=L.length - j∧ups=[(54,.int .i64 ((j:Nat):Int))]∧j≤p.locs.length∧rows1.length=j∧rows2.length=j∧rows1=((turnPr h p T L).locs.take j).map (fun s=>[.string s])∧rows2=((turnPr h p T L).init.take j).map (fun x=>[Go.Proofs.YtbgnapmaimkpkaaGreatDoor.b8 x])∧Own w0 none w [.rws 5 1 (.slice A2 rows2.length k2) rows2,.rws 9 1 (.slice A1 rows1.length k1) rows1,.blk b12 [.string p.name,.slice A1 rows1.length k1,.slice A2 rows2.length k2,.slice none 0 0,Go.Proofs.YtbgnapmaimkpkaaGreatDoor.b8 p.ask,.int .u8 0,.int .u8 0,.int .u8 0,.int .u8 0,.slice none 0 0] 29,.blk b11 [.slice (some ⟨bl,0,none⟩) p.locs.length p.locs.length] 23,.blk bl cl 5,.blk b9 [.slice (some ⟨bt,0,none⟩) p.threads.length p.threads.length] 23,.blk bt ct 5,.blk b6 zeroPr 29,.blk b3 [.string p.name,.slice LA p.locs.length LC,.slice IA p.init.length IC,.slice TA p.threads.length TC,Go.Proofs.YtbgnapmaimkpkaaGreatDoor.b8 p.ask,Go.Proofs.YtbgnapmaimkpkaaGreatDoor.b8 c1,Go.Proofs.YtbgnapmaimkpkaaGreatDoor.b8 c2,Go.Proofs.YtbgnapmaimkpkaaGreatDoor.b8 c3,Go.Proofs.YtbgnapmaimkpkaaGreatDoor.b8 c4,.slice A5 m5 C5] 29]) F (L.length) [(54,.int .i64 ((0:Nat):Int))] (by repeat (first | exact SubR.nil | (apply SubR.cons;· rfl))) ?_ ?_ ?_
 · exact ⟨0,none,0,none,0,[],[],rfl,rfl,Nat.zero_le _,rfl,rfl,rfl,rfl,((H.sel [0,1,2,3,4,5,6] rfl rfl).nilRws 9 1).nilRws 5 1⟩
 · repeat (first | exact trivial | refine Le.cons rfl ?_)
 clear F
 clear H
 intro m ups a w hI F
 obtain ⟨j,A1,k1,A2,k2,rows1,rows2,rfl,rfl,hj,hj1,hj2,hr1,hr2,H⟩:=hI
 refine cSR fun K17 hK17=>sBin F rfl rfl rfl rfl bLss (qNK hK17 ?_);clear hK17;clear F a;intro a F;refine cSeq (fun K18 hK18=>?_)
 refine cIf F rfl (fun h55=>?_) (fun h55=>?_)
 ·
  replace h55:=of_decide_eq_true h55
  have hjl:j < p.locs.length:=by have:=hpL.len;omega
  obtain ⟨hx,hxn⟩:=idx_at hpL hjl
  obtain ⟨bB,oB,rfl,hBx⟩:=intsZ_at hB hx
  obtain ⟨s,hsx⟩:∃ s,p.locs[idxZ L j]? = some s:=⟨_,List.getElem?_eq_getElem hxn⟩
  obtain ⟨v,hvx⟩:∃ s,p.init[idxZ L j]? = some s:=⟨_,List.getElem?_eq_getElem (by omega)⟩
  obtain ⟨b1,o1,rfl,hL5⟩:=hp.locs.get hsx
  obtain ⟨b2,o2,rfl,hI5⟩:=hp.init (idxZ L j) [Go.Proofs.YtbgnapmaimkpkaaGreatDoor.b8 v] (by rw [List.getElem?_map,hvx];rfl)
  have hI6:=hI5 0 _ rfl
  rw [Nat.add_zero] at hI6
  have hs1:(turnPr h p T L).locs[j]? = some s:=by rw [locs_at hpL hjl];exact hsx
  have hs2:(turnPr h p T L).init[j]? = some v:=by rw [init_at hil hpL hjl];exact hvx
  refine wp_skip (hK18 _ _ ?_);clear hK18;refine cSeq (fun K19 hK19=>?_);refine wp_block ?_;refine cSR fun K20 hK20=>?_
  refine sIx underlying83 sizeOf3 F rfl rfl rfl rfl ?_ ?_
  focus (first | omega | decide | (simp;omega))
  clear F a;intro a F;refine sLd isAgg3 F rfl rfl rfl (H.arg hBx) (qAs rfl rfl rfl (qNK hK20 ?_));clear hK20;clear F a;intro a F;refine cSeq (fun K21 hK21=>?_);refine cRegRO (by kernel_rfl) H ?_;replace H:=H.drew;refine eTF 0 rfl (by kernel_rfl) F rfl rfl rfl (fun w=>rFa (f:=1) (k:=1) underlying29 rfl sizeOf22 rfl rfl F rfl) H qq0 (qT 1 rfl (by kernel_rfl) rfl rfl rfl rfl (fun a F w H=>rLd isAgg22 F rfl (H.cell 2 rfl rfl)) H qq0 (qTF 2 rfl (by kernel_rfl) rfl rfl rfl (fun a F w=>rFa (f:=1) (k:=1) underlying29 rfl sizeOf22 rfl rfl F rfl) H qq0 (qT 3 rfl (by kernel_rfl) rfl rfl rfl rfl (fun a F w H=>rLd isAgg22 F rfl (H.cell 8 rfl rfl)) H qq0 (qTF 4 rfl (by kernel_rfl) rfl rfl rfl (fun a F w=>rMv F rfl) H qq0 ?_))));clear F a;intro a F
  refine eTakeF (k:=5) (i:=5) rfl (by kernel_rfl) F rfl rfl rfl (fun w=>rIx underlying22 sizeOf9 F rfl rfl ?_) H (fun _ _ _ h=>h) ?_
  focus omega
  clear F a;intro a F;refine eT 6 rfl (by kernel_rfl) F rfl rfl rfl rfl (fun w H=>rLd isAgg9 F rfl (H.arg hL5)) H qq0 ?_;clear F a;intro a F;refine eOne (k:=7) (i:=7) rfl (by kernel_rfl) F rfl (oBs1 H underlying22 sizeOf9 zeroValue9 rfl F rfl rfl rfl ?_);clear F a H;intro b65 a w F H;refine eKeep H.tail ?_
  refine eOne (k:=8) (i:=8) rfl (by kernel_rfl) F rfl (oApp1 (bytes:=16) H 2 underlying22 typeInfo9 rfl rfl rfl rfl rfl rfl F rfl rfl rfl rfl (H.whole 0 rfl) rfl ?s1 ?s2 ?_)
  case s1=>first | rfl | (repeat (first | exact one_nil | (apply one_cons;· first | rfl | assumption | exact one_bif rfl rfl)))
  case s2=>omega
  clear F a H;intro A66 c66 a w F H;refine ePartO (by kernel_rfl) H ?_;refine eTF 9 rfl (by kernel_rfl) F rfl rfl rfl (fun w=>rFa (f:=1) (k:=1) underlying29 rfl sizeOf22 rfl rfl F rfl) H qq0 ?_;clear F a;intro a F;refine eOne (k:=10) (i:=10) rfl (by kernel_rfl) F rfl (oSt H 3 sizeOf22 F rfl rfl rfl rfl rfl ?_);clear H;intro w H;refine ePartO (by kernel_rfl) H ?_;refine eNil (k:=11) (by kernel_rfl) ?_;refine hK21 _ _ ?_;clear hK21;refine cRegRO (by kernel_rfl) H ?_;replace H:=H.drew;refine eTF 0 rfl (by kernel_rfl) F rfl rfl rfl (fun w=>rFa (f:=2) (k:=2) underlying29 rfl sizeOf23 rfl rfl F rfl) H qq0 (qT 1 rfl (by kernel_rfl) rfl rfl rfl rfl (fun a F w H=>rLd isAgg23 F rfl (H.cell 3 rfl rfl)) H qq0 (qTF 2 rfl (by kernel_rfl) rfl rfl rfl (fun a F w=>rFa (f:=2) (k:=2) underlying29 rfl sizeOf23 rfl rfl F rfl) H qq0 (qT 3 rfl (by kernel_rfl) rfl rfl rfl rfl (fun a F w H=>rLd isAgg23 F rfl (H.cell 9 rfl rfl)) H qq0 (qTF 4 rfl (by kernel_rfl) rfl rfl rfl (fun a F w=>rMv F rfl) H qq0 ?_))));clear F a;intro a F
  refine eTakeF (k:=5) (i:=5) rfl (by kernel_rfl) F rfl rfl rfl (fun w=>rIx underlying23 sizeOf5 F rfl rfl ?_) H (fun _ _ _ h=>h) ?_
  focus omega
  clear F a;intro a F;refine eT 6 rfl (by kernel_rfl) F rfl rfl rfl rfl (fun w H=>rLd isAgg5 F rfl (H.arg hI6)) H qq0 ?_;clear F a;intro a F;refine eOne (k:=7) (i:=7) rfl (by kernel_rfl) F rfl (oBs1 H underlying23 sizeOf5 zeroValue5 rfl F rfl rfl rfl ?_);clear F a H;intro b75 a w F H;refine eKeep H.tail ?_
  refine eOne (k:=8) (i:=8) rfl (by kernel_rfl) F rfl (oApp1 (bytes:=1) H 2 underlying23 typeInfo5 rfl rfl rfl rfl rfl rfl F rfl rfl rfl rfl (H.whole 0 rfl) rfl ?s1 ?s2 ?_)
  case s1=>first | rfl | (repeat (first | exact one_nil | (apply one_cons;· first | rfl | assumption | exact one_bif rfl rfl)))
  case s2=>omega
  clear F a H;intro A76 c76 a w F H;refine ePartO (by kernel_rfl) H ?_;refine eTF 9 rfl (by kernel_rfl) F rfl rfl rfl (fun w=>rFa (f:=2) (k:=2) underlying29 rfl sizeOf23 rfl rfl F rfl) H qq0 ?_;clear F a;intro a F;refine eOne (k:=10) (i:=10) rfl (by kernel_rfl) F rfl (oSt H 4 sizeOf23 F rfl rfl rfl rfl rfl ?_);clear H;intro w H;refine ePartO (by kernel_rfl) H ?_;refine eNil (k:=11) (by kernel_rfl) ?_;refine hK19 _ _ (cReg ?_);clear hK19
  refine sBin F rfl rfl rfl rfl (bAddN (j:=1) ?_) ?_
  focus omega
  clear F a;intro a F;refine sMv F rfl rfl rfl ?_;clear F a;intro a F;refine sNil ?_
  (refine ⟨_,?_,_,⟨j+1,A66,c66,A76,c76,_,_,rfl,rfl,hjl,?_,?_,?_,?_,H.sel [2,3,4,5,6,7,8,9,10] rfl rfl⟩,F.to (by repeat (first | exact trivial | refine Le.cons rfl ?_))⟩
   · have:=hpL.len;omega
   · simp;omega
   · simp;omega
   · rw [hr1];exact rows_take hs1
   · rw [hr2];exact rows_take hs2)
 replace h55:=of_decide_eq_false h55
 have hjl:j=p.locs.length:=by have:=hpL.len;omega
 subst hjl
 have hq1:rows1=(turnPr h p T L).locs.map (fun s=>[.string s]):=by rw [hr1,List.take_of_length_le (by rw [locs_len];exact Nat.le_refl _)]
 have hq2:rows2=(turnPr h p T L).init.map (fun x=>[Go.Proofs.YtbgnapmaimkpkaaGreatDoor.b8 x]):=by rw [hr2,List.take_of_length_le (by rw [init_len];exact Nat.le_refl _)]
 clear hr1 hr2
 refine wp_exit ?_;refine hK15 _ _ ?_;clear hK15;refine cSeq (fun K22 hK22=>?_);refine cSR fun K23 hK23=>sMv F rfl rfl rfl (qLen underlying83 rfl rfl rfl (qMv rfl rfl rfl (qNK hK23 ?_)));clear hK23;clear F a;intro a F;refine wp_block ?_
 refine cLoopR [3,6,9,11,12,79,80] (fun m ups w=>∃ (j:Nat) (A3:Option Addr) (k3:Nat) (S:Nat→Prop) (rows:List (List Value)),m=T.length - j∧ups=[(81,.int .i64 ((j:Nat):Int))]∧rows.length=j∧j≤p.threads.length∧(∀ r ∈ rows,r.length=1)∧Own w0 none w [.grove S rows (turnPr h p T L).threads,.rws 33 1 (.slice A3 rows.length k3) rows,.rws 5 1 (.slice A2 rows2.length k2) rows2,.rws 9 1 (.slice A1 rows1.length k1) rows1,.blk b12 [.string p.name,.slice A1 rows1.length k1,.slice A2 rows2.length k2,.slice A3 rows.length k3,Go.Proofs.YtbgnapmaimkpkaaGreatDoor.b8 p.ask,.int .u8 0,.int .u8 0,.int .u8 0,.int .u8 0,.slice none 0 0] 29,.blk b11 [.slice (some ⟨bl,0,none⟩) p.locs.length p.locs.length] 23,.blk bl cl 5,.blk b9 [.slice (some ⟨bt,0,none⟩) p.threads.length p.threads.length] 23,.blk bt ct 5,.blk b6 zeroPr 29,.blk b3 [.string p.name,.slice LA p.locs.length LC,.slice IA p.init.length IC,.slice TA p.threads.length TC,Go.Proofs.YtbgnapmaimkpkaaGreatDoor.b8 p.ask,Go.Proofs.YtbgnapmaimkpkaaGreatDoor.b8 c1,Go.Proofs.YtbgnapmaimkpkaaGreatDoor.b8 c2,Go.Proofs.YtbgnapmaimkpkaaGreatDoor.b8 c3,Go.Proofs.YtbgnapmaimkpkaaGreatDoor.b8 c4,.slice A5 m5 C5] 29]) F (T.length) [(81,.int .i64 ((0:Nat):Int))] (by repeat (first | exact SubR.nil | (apply SubR.cons;· rfl))) ?_ ?_ ?_
 · exact ⟨0,none,0,fun _=>False,[],rfl,rfl,rfl,Nat.zero_le _,(by simp),((H.sel [0,1,2,3,4,5,6,7,8] rfl rfl).nilRws 33 1).void (.grove (fun _=>False) [] (turnPr h p T L).threads) (show groveP (fun _=>False) _ [] (turnPr h p T L).threads from fun j r t h1=>by simp at h1) (fun _ hb=>hb)⟩
 · repeat (first | exact trivial | refine Le.cons rfl ?_)
 clear F
 clear H
 intro m ups a w hI F
 obtain ⟨j,A3,k3,S,rows,rfl,rfl,hrj,hj,hr1,H⟩:=hI
 refine cSR fun K24 hK24=>sBin F rfl rfl rfl rfl bLss (qNK hK24 ?_);clear hK24;clear F a;intro a F;refine cSeq (fun K25 hK25=>?_)
 refine cIf F rfl (fun h82=>?_) (fun h82=>?_)
 ·
  replace h82:=of_decide_eq_true h82
  have hjl:j < p.threads.length:=by have:=hpT.len;omega
  obtain ⟨hx,hxn⟩:=idx_at hpT hjl
  obtain ⟨bA,oA,rfl,hAx⟩:=intsZ_at hA hx
  obtain ⟨t,htx⟩:∃ x,p.threads[idxZ T j]? = some x:=⟨_,List.getElem?_eq_getElem hxn⟩
  obtain ⟨b',off',B',C',rfl,hB',hR',hN'⟩:=hp.threads _ t htx
  have ht12:=V.long _ t htx
  have hti:=V.ins _ t htx
  have hfj:(turnPr h p T L).threads[rows.length]? = some (t.map (turnI L)):=by rw [hrj,thr_atT hpT hjl,htx];rfl
  refine wp_skip (hK25 _ _ ?_);clear hK25;refine cSeq (fun K26 hK26=>?_);refine wp_block ?_;refine cSR fun K27 hK27=>?_
  refine sIx underlying83 sizeOf3 F rfl rfl rfl rfl ?_ ?_
  focus (first | omega | decide | (simp;omega))
  clear F a;intro a F;refine sLd isAgg3 F rfl rfl rfl (H.arg hAx) (qAs rfl rfl rfl (qNK hK27 (qSR fun K28 hK28=>qFa (f:=3) (k:=3) underlying29 rfl sizeOf24 rfl rfl rfl rfl rfl (qLd isAgg24 rfl rfl rfl (H.cell 10 rfl rfl) (qMv rfl rfl rfl ?_)))));clear hK27;clear F a;intro a F
  refine sIx underlying24 sizeOf33 F rfl rfl rfl rfl ?_ ?_
  focus omega
  clear F a;intro a F;refine sLd isAgg33 F rfl rfl rfl (H.arg hB') ?_;clear F a;intro a F;refine sCall call59 F rfl rfl rfl ((by have:=cloneI_any B' C' (t.map Ins.cells) _ (hR'.own H) (by simp [Ins.cells]) (by simp [Ins.cells,Go.Proofs.YtbgnapmaimkpkaaGreatDoor.b8,Value.oneCell']) (by simp;omega);simp only [List.length_map] at this;exact this)) ?_;rintro e w ⟨A90,k90,rfl,H2⟩
  replace H:=H.join H2;clear H2;rw [← halfI_zero (f:=turnI L)] at H
  refine ⟨_,rfl,?_⟩;clear F a;intro a F;refine sAs F rfl rfl rfl (qNK hK28 ?_);clear hK28;clear F a;intro a F;refine cSeq (fun K29 hK29=>?_);refine cSR fun K30 hK30=>sMv F rfl rfl rfl (qLen underlying33 rfl rfl rfl (qMv rfl rfl rfl (qNK hK30 ?_)));clear hK30;clear F a;intro a F;refine wp_block ?_
  refine cLoopR [3,6,9,11,12,17,79,80,81,92] (fun m ups w=>∃ (k:Nat),m=t.length - k∧ups=[(93,.int .i64 ((k:Nat):Int))]∧k≤t.length∧Own w0 none w [.rws 37 10 (.slice A90 t.length k90) (halfI (turnI L) t k),.grove S rows (turnPr h p T L).threads,.rws 33 1 (.slice A3 rows.length k3) rows,.rws 5 1 (.slice A2 rows2.length k2) rows2,.rws 9 1 (.slice A1 rows1.length k1) rows1,.blk b12 [.string p.name,.slice A1 rows1.length k1,.slice A2 rows2.length k2,.slice A3 rows.length k3,Go.Proofs.YtbgnapmaimkpkaaGreatDoor.b8 p.ask,.int .u8 0,.int .u8 0,.int .u8 0,.int .u8 0,.slice none 0 0] 29,.blk b11 [.slice (some ⟨bl,0,none⟩) p.locs.length p.locs.length] 23,.blk bl cl 5,.blk b9 [.slice (some ⟨bt,0,none⟩) p.threads.length p.threads.length] 23,.blk bt ct 5,.blk b6 zeroPr 29,.blk b3 [.string p.name,.slice LA p.locs.length LC,.slice IA p.init.length IC,.slice (some ⟨b',off',none⟩) p.threads.length TC,Go.Proofs.YtbgnapmaimkpkaaGreatDoor.b8 p.ask,Go.Proofs.YtbgnapmaimkpkaaGreatDoor.b8 c1,Go.Proofs.YtbgnapmaimkpkaaGreatDoor.b8 c2,Go.Proofs.YtbgnapmaimkpkaaGreatDoor.b8 c3,Go.Proofs.YtbgnapmaimkpkaaGreatDoor.b8 c4,.slice A5 m5 C5] 29]) F (t.length) [(93,.int .i64 ((0:Nat):Int))] (by repeat (first | exact SubR.nil | (apply SubR.cons;· rfl))) ?_ ?_ ?_
  · exact ⟨0,rfl,rfl,by omega,H.sel [0,1,2,3,4,5,6,7,8,9,10,11] rfl rfl⟩
  · repeat (first | exact trivial | refine Le.cons rfl ?_)
  clear F
  clear H
  intro m ups a w hI F
  obtain ⟨k,rfl,rfl,hk2,H⟩:=hI
  refine cSR fun K31 hK31=>sBin F rfl rfl rfl rfl bLss (qNK hK31 ?_);clear hK31;clear F a;intro a F;refine cSeq (fun K32 hK32=>?_)
  refine cIf F rfl (fun h94=>?_) (fun h94=>?_)
  ·
   replace h94:=of_decide_eq_true h94
   have hkl:k < t.length:=by omega
   obtain ⟨x,hx2⟩:∃ x,t[k]? = some x:=⟨_,List.getElem?_eq_getElem hkl⟩
   have hlr:0 < (halfI (turnI L) t k).length:=by rw [halfI_len];omega
   obtain ⟨gF,rfl⟩:=H.rwsAddr 0 rfl hlr
   have hio:=inses_at hti hx2
   have hop:x.op≤8:=by
    have c0:(decide (1≤x.op) && decide (x.op≤8))=true:=ins_cond hio 0 (by decide)
    rw [Bool.and_eq_true,decide_eq_true_eq,decide_eq_true_eq] at c0
    exact c0.2
   have hop9:x.op < 9:=by
    have:x.op.toNat≤8:=hop
    exact (show x.op.toNat < 9 by omega)
   refine wp_skip (hK32 _ _ ?_);clear hK32;refine cSeq (fun K33 hK33=>?_);refine wp_block ?_;refine cSR fun K34 hK34=>sMv F rfl rfl rfl (qAs rfl rfl rfl (qNK hK34 (qSR fun K35 hK35=>qMv rfl rfl rfl (qMv rfl rfl rfl ?_))));clear hK34;clear F a;intro a F
   refine sIx underlying33 sizeOf37 F rfl rfl rfl rfl ?_ ?_
   focus (first | omega | decide | (simp;omega))
   clear F a;intro a F;refine sFaZ (f:=0) underlying37 rfl sizeOf5 rfl rfl F rfl rfl rfl (qLd isAgg5 rfl rfl rfl (by simpa using H.rwsCell 0 (k:=0) rfl (halfI_rows t k) (by decide) (halfI_at hx2) rfl) ?_);clear F a;intro a F
   refine sIa underlying126 sizeOf5 F rfl rfl rfl rfl ?_ ?_
   focus exact hop9
   clear F a;intro a F;refine sLd isAgg5 F rfl rfl rfl (H.arg (hN.at _ hop9)) (qBin rfl rfl rfl rfl (bAndB (y:=2)) (qBin rfl rfl rfl rfl (bNeqB (y:=0)) (qNK hK35 ?_)));clear hK35;clear F a;intro a F
   refine cIf F rfl (fun h104=>?_) (fun h104=>?_)
   ·
    replace h104:=bneT h104
    have hb:hasB x.op 2=true:=by unfold hasB;exact bne_iff_ne.2 h104
    have hlm:=loc_in hio hb
    have hset:x.cells.set 2 (Go.Proofs.YtbgnapmaimkpkaaGreatDoor.b8 (UInt8.ofNat (posZ L x.loc.toNat)))=(turnI L x).cells:=by unfold turnI;rw [if_pos hb];rfl
    refine cRegRO (by kernel_rfl) H ?_;replace H:=H.drew;refine eTF 0 rfl (by kernel_rfl) F rfl rfl rfl (fun w=>rMv F rfl) H qq0 (qTF 1 rfl (by kernel_rfl) rfl rfl rfl (fun a F w=>rMv F rfl) H qq0 (qT 2 rfl (by kernel_rfl) rfl rfl rfl rfl (fun a F w H=>rLd isAgg23 F rfl (H.cell 6 rfl rfl)) H qq0 (qTF 3 rfl (by kernel_rfl) rfl rfl rfl (fun a F w=>rMv F rfl) H qq0 (qTF 4 rfl (by kernel_rfl) rfl rfl rfl (fun a F w=>rMv F rfl) H qq0 ?_))));clear F a;intro a F
    refine eTakeF (k:=5) (i:=5) rfl (by kernel_rfl) F rfl rfl rfl (fun w=>rIx underlying33 sizeOf37 F rfl rfl ?_) H (fun _ _ _ h=>h) ?_
    focus (first | omega | decide | (simp;omega))
    clear F a;intro a F;refine eTF 6 rfl (by kernel_rfl) F rfl rfl rfl (fun w=>rFa (f:=2) (k:=_+2) underlying37 rfl sizeOf5 rfl rfl F rfl) H qq0 (qT 7 rfl (by kernel_rfl) rfl rfl rfl rfl (fun a F w H=>rLd isAgg5 F rfl (by simpa using H.rwsCell 0 (k:=2) rfl (halfI_rows t k) (by decide) (halfI_at hx2) rfl)) H qq0 ?_);clear F a;intro a F
    refine eTakeF (k:=8) (i:=8) rfl (by kernel_rfl) F rfl rfl rfl (fun w=>rIx underlying23 sizeOf5 F rfl rfl ?_) H (fun _ _ _ h=>h) ?_
    focus omega
    clear F a;intro a F;refine eT 9 rfl (by kernel_rfl) F rfl rfl rfl rfl (fun w H=>rLd isAgg5 F rfl (H.cell 7 rfl (by simpa using hcl.at' x.loc.toNat (by omega)))) H qq0 ?_;clear F a;intro a F
    refine eTakeF (k:=10) (i:=10) rfl (by kernel_rfl) F rfl rfl rfl (fun w=>rIx underlying33 sizeOf37 F rfl rfl ?_) H (fun _ _ _ h=>h) ?_
    focus (first | omega | decide | (simp;omega))
    clear F a;intro a F;refine eTF 11 rfl (by kernel_rfl) F rfl rfl rfl (fun w=>rFa (f:=2) (k:=_+2) underlying37 rfl sizeOf5 rfl rfl F rfl) H qq0 ?_;clear F a;intro a F;refine eOne (k:=12) (i:=12) rfl (by kernel_rfl) F rfl (oStW H 0 sizeOf5 F rfl rfl rfl rfl (halfI_rows t k) (halfI_at hx2) ((by decide:2 < 10)) (by omega) ?_);clear H;intro w H;rw [hset,halfI_set hx2] at H;refine ePartO (by kernel_rfl) H ?_;refine eNil (k:=13) (by kernel_rfl) ?_;refine hK33 _ _ (cReg ?_);clear hK33
    refine sBin F rfl rfl rfl rfl (bAddN (j:=1) ?_) ?_
    focus omega
    clear F a;intro a F;refine sMv F rfl rfl rfl ?_;clear F a;intro a F;refine sNil ?_
    first
    | exact ⟨_,by omega,_,⟨k+1,rfl,rfl,by omega,H.sel [0,1,2,3,4,5,6,7,8,9,10,11] rfl rfl⟩,F.to (by repeat (first | exact trivial | refine Le.cons rfl ?_))⟩
    | (have hnb:¬ hasB x.op 2=true:=by unfold hasB;rw [h104];decide
       have hkeep:turnI L x=x:=by unfold turnI;rw [if_neg hnb]
       rw [halfI_keep hx2 hkeep] at H
       exact ⟨_,by omega,_,⟨k+1,rfl,rfl,by omega,H.sel [0,1,2,3,4,5,6,7,8,9,10,11] rfl rfl⟩,F.to (by repeat (first | exact trivial | refine Le.cons rfl ?_))⟩)
   replace h104:=bneF h104;refine wp_skip (hK33 _ _ (cReg ?_));clear hK33
   refine sBin F rfl rfl rfl rfl (bAddN (j:=1) ?_) ?_
   focus omega
   clear F a;intro a F;refine sMv F rfl rfl rfl ?_;clear F a;intro a F;refine sNil ?_
   first
   | exact ⟨_,by omega,_,⟨k+1,rfl,rfl,by omega,H.sel [0,1,2,3,4,5,6,7,8,9,10,11] rfl rfl⟩,F.to (by repeat (first | exact trivial | refine Le.cons rfl ?_))⟩
   | (have hnb:¬ hasB x.op 2=true:=by unfold hasB;rw [h104];decide
      have hkeep:turnI L x=x:=by unfold turnI;rw [if_neg hnb]
      rw [halfI_keep hx2 hkeep] at H
      exact ⟨_,by omega,_,⟨k+1,rfl,rfl,by omega,H.sel [0,1,2,3,4,5,6,7,8,9,10,11] rfl rfl⟩,F.to (by repeat (first | exact trivial | refine Le.cons rfl ?_))⟩)
  replace h94:=of_decide_eq_false h94
  obtain rfl:k=t.length:=by omega
  rw [halfI_done] at H;refine wp_exit ?_;refine hK29 _ _ (cReg (sFa (f:=3) (k:=3) underlying29 rfl sizeOf24 rfl rfl F rfl rfl rfl (qLd isAgg24 rfl rfl rfl (H.cell 5 rfl rfl) (qMv rfl rfl rfl ?_))));clear hK29;clear F a;intro a F;refine sBs1 H underlying24 sizeOf33 zeroValue33 rfl F rfl rfl rfl rfl ?_;clear F a H;intro b121 a w F H
  refine sApp1 (bytes:=24) H 3 underlying24 typeInfo33 rfl rfl rfl rfl rfl rfl F rfl rfl rfl rfl rfl (H.whole 0 rfl) rfl ?s1 ?s2 ?_
  case s1=>first | rfl | (repeat (first | exact one_nil | (apply one_cons;· first | rfl | assumption | exact one_bif rfl rfl)))
  case s2=>omega
  clear F a H;intro A122 c122 a w F H;refine sFa (f:=3) (k:=3) underlying29 rfl sizeOf24 rfl rfl F rfl rfl rfl ?_;clear F a;intro a F;refine sSt H 6 sizeOf24 F rfl rfl rfl rfl rfl rfl ?_;clear H;intro w H;refine nK hK26 (cReg ?_);clear hK26
  refine sBin F rfl rfl rfl rfl (bAddN (j:=1) ?_) ?_
  focus omega
  clear F a;intro a F;refine sMv F rfl rfl rfl ?_;clear F a;intro a F;refine sNil ?_
  refine ⟨_,?_,_,⟨j+1,A122,c122,_,_,rfl,rfl,?_,?_,?_,(((H.sel [1,2,3,4,5,6,7,8,9,10,11,12] rfl rfl).toHeld (by simp [Ins.cells]) (by decide)).plantG hfj (by simp))⟩,F.to (by repeat (first | exact trivial | refine Le.cons rfl ?_))⟩
  · have:=hpT.len;omega
  · simp;omega
  · omega
  · intro r hr
    rcases List.mem_append.1 hr with h1 | h1
    · exact hr1 r h1
    · simp at h1;subst h1;rfl
 replace h82:=of_decide_eq_false h82
 have hjl:j=p.threads.length:=by have:=hpT.len;omega
 refine wp_exit ?_;refine hK22 _ _ (cSR fun K36 hK36=>sFa (f:=5) (k:=5) underlying29 rfl sizeOf27 rfl rfl F rfl rfl rfl ?_);clear hK22;clear F a;intro a F
 refine sLr underlying27 rfl ?si F rfl rfl rfl (H.range 10 rfl _ 5) ?_
 case si=>exact info_size sizeOf27
 clear F a;intro a F;refine sFn F rfl rfl rfl rfl ?_;clear F a;intro a F;refine sCall call60 F rfl rfl rfl (turnT_any b9 b11 bt bl p.threads.length p.locs.length T L h 20 _ p.cond _ (CondAt.grown H.grown rfl _ _ _ hp.cond) hs h5 ⟨H.cell 7 rfl rfl,H.cell 5 rfl rfl,fun i hi=>H.cell 8 rfl (hct.at' i hi),fun i hi=>H.cell 6 rfl (hcl.at' i hi)⟩) ?_;rintro e w ⟨cs9,S9,rfl,H2⟩
 have hsh:=condShape (H2.pred 0 _ rfl:TreeIn S9 _ h cs9 (turnH T L h p.cond)).at
 obtain ⟨k9,t9,n9,v9,A9,m9,C9,rfl⟩:=hsh
 replace H:=H.join H2;clear H2;refine ⟨_,rfl,?_⟩;clear F a;intro a F;refine sFa (f:=5) (k:=5) underlying29 rfl sizeOf27 rfl rfl F rfl rfl rfl ?_;clear F a;intro a F
 refine sSr H 5 ?si F rfl rfl rfl ?s1 rfl rfl ?_
 case si=>exact info_size sizeOf27
 case s1=>first | rfl | (repeat (first | exact one_nil | (apply one_cons;· first | rfl | assumption | exact one_bif rfl rfl)))
 clear H;intro w H;refine nK hK36 (cSR fun K37 hK37=>?_);clear hK36
 refine sLr underlying29 rfl ?si F rfl rfl rfl (H.whole 5 rfl) ?_
 case si=>exact info_size sizeOf29
 clear F a;intro a F
 refine sSr H 10 ?si F rfl rfl rfl ?s1 rfl rfl ?_
 case si=>exact info_size sizeOf29
 case s1=>first | rfl | (repeat (first | exact one_nil | (apply one_cons;· first | rfl | assumption | exact one_bif rfl rfl)))
 clear H;intro w H;refine sAs F rfl rfl rfl (qNK hK37 ?_);clear hK37;clear F a;intro a F;refine wp_ret ?_;refine bRetC1 results34 F rfl rfl underlying29 rfl H 10 rfl sizeOf29 rfl ?_
 first
   | exact .inl ⟨h22,rfl,H.below⟩
   | (have hno:o30=false:=h34
      exact .inr (.inl ⟨h0,fun hh=>hT0 hno hh.1,rfl,H.below⟩))
   | (have hno:o41=false:=h45
      exact .inr (.inl ⟨h0,fun hh=>hL0 hno hh.2,rfl,H.below⟩))
   | (refine .inr (.inr ⟨h0,hpT,hpL,_,rfl,?_⟩)
      subst hrj
      subst hq1 hq2
      rw [hj1,hj2,hjl] at H;rw [hj1,hj2,hjl]
      exact ⟨A1,k1,A2,k2,A3,k3,rows,S,_,S9,rfl,hjl,hr1,H.sel [0,2,1,3,4] rfl rfl⟩)
-- TuJ
open Go.RowKit
set_option maxRecDepth 100000
def ProgOut (q:Prg) (w0 w:World) (h:Nat) (v:Value):Prop:=
 ∃ LA LC IA IC TA TC rows S3 ccs S4,v = .agg ([.string q.name,.slice LA q.locs.length LC,.slice IA q.init.length IC,.slice TA q.threads.length TC,Go.Proofs.YtbgnapmaimkpkaaGreatDoor.b8 q.ask]++ccs).toArray∧rows.length=q.threads.length∧(∀ r ∈ rows,r.length=1) ∧
   Own w0 none w [.tree S4 h ccs q.cond,.rws 33 1 (.slice TA q.threads.length TC) rows,.grove S3 rows q.threads,.rws 5 1 (.slice IA q.init.length IC) (q.init.map fun x=>[Go.Proofs.YtbgnapmaimkpkaaGreatDoor.b8 x]),.rws 9 1 (.slice LA q.locs.length LC) (q.locs.map fun s=>[.string s])]
theorem TurnOut.out {p:Prg} {T L:List Int} {w0 w:World} {h:Nat} {v:Value} (ho:TurnOut p T L w0 w h v):ProgOut (turnPr h p T L) w0 w h v:=by
 obtain ⟨LA,LC,IA,IC,TA,TC,rows,S3,ccs,S4,h1,h2,h3,h4⟩:=ho
 refine ⟨LA,LC,IA,IC,TA,TC,rows,S3,ccs,S4,?_,?_,h3,?_⟩
 · rw [locs_len,init_len,thr_lenT];exact h1
 · rw [thr_lenT];exact h2
 · rw [locs_len,init_len,thr_lenT];exact h4
structure Sized (q:Prg):Prop where
 name:q.name.size≤maxLen
 locs:q.locs.length≤9223372036854775807
 locsS:∀ s ∈ q.locs,s.size≤maxLen
 init:q.init.length≤9223372036854775807
 thr:q.threads.length≤9223372036854775807
 ins:∀ t ∈ q.threads,t.length≤9223372036854775807
theorem sized_of {q:Prg} (hv:rightErr q=0) (hn:q.name.size≤maxLen) (hls:∀ s ∈ q.locs,s.size≤maxLen):Sized q:=by
 have V:=valid hv
 have h6:=V.locs6
 have h4:=V.thr4
 have hi:=V.init
 refine ⟨hn,by omega,hls,by omega,by omega,fun t ht=>?_⟩
 obtain ⟨j,hj⟩:=List.mem_iff_getElem?.1 ht
 have:=V.long j t hj
 omega
theorem locsS_turn {p:Prg} {T L:List Int} {h:Nat} (hL:IsPerm p.locs.length L) (hls:∀ s ∈ p.locs,s.size≤maxLen):∀ s ∈ (turnPr h p T L).locs,s.size≤maxLen:=fun s hs=>by
 obtain ⟨j,hj⟩:=List.mem_iff_getElem?.1 hs
 have hjl:=(List.getElem?_eq_some_iff.1 hj).1
 rw [locs_len] at hjl;rw [locs_at hL hjl] at hj
 exact hls s (List.mem_of_getElem? hj)
theorem outIn {q:Prg} {w0 w:World} {row:Option Nat} {h LC IC TC:Nat} {LA IA TA:Option Addr} {S3 S4:Nat→Prop} {rows:List (List Value)} {ccs:List Value}
   (H:Own w0 row w [.tree S4 h ccs q.cond,.rws 33 1 (.slice TA q.threads.length TC) rows,.grove S3 rows q.threads,.rws 5 1 (.slice IA q.init.length IC) (q.init.map fun x=>[Go.Proofs.YtbgnapmaimkpkaaGreatDoor.b8 x]),.rws 9 1 (.slice LA q.locs.length LC) (q.locs.map fun s=>[.string s])])
   (hrl:rows.length=q.threads.length) (hr1:∀ r ∈ rows,r.length=1) (hz:Sized q) :
   ProgIn w ([.string q.name,.slice LA q.locs.length LC,.slice IA q.init.length IC,.slice TA q.threads.length TC,Go.Proofs.YtbgnapmaimkpkaaGreatDoor.b8 q.ask]++ccs) q LA LC IA IC TA TC h ccs:=by
 refine ⟨rfl,hz.name,H.rowsAt 4 rfl (by simp) (by decide),hz.locs,(H.rwsLen 4 rfl).2.1,hz.locsS,H.rowsAt 3 rfl (by simp) (by decide),hz.init,fun j t ht=>?_,hz.thr,(H.pred 0 _ rfl:TreeIn S4 w h ccs q.cond).at⟩
 have hj:=(List.getElem?_eq_some_iff.1 ht).1
 obtain ⟨r,hr⟩:∃ r,rows[j]? = some r:=⟨_,List.getElem?_eq_getElem (by omega)⟩
 obtain ⟨B,C,rfl,hB⟩:=(H.pred 2 _ rfl:groveP S3 w rows q.threads) j r t hr ht
 obtain ⟨b,off,rfl,hx⟩:=H.rowsAt 1 rfl hr1 (by decide) j _ hr
 refine ⟨b,off,B,C,rfl,hx 0 _ rfl,fun i cs hi=>?_,hz.ins t (List.mem_of_getElem? ht)⟩
 obtain ⟨b2,o2,h1,_,h2⟩:=hB i cs hi
 exact ⟨b2,o2,h1,h2⟩
theorem finalT_good (f:By) (A:Option Addr) (C:Nat) (T:List Int) (B:Option Addr) (D:Nat) (L:List Int) (n m:Nat) (w0:World) (hA:RowsAt w0 A 1 (intsZ T)) (hB:RowsAt w0 B 1 (intsZ L)) (hn:n=T.length) (hm:m=L.length) (hg:FinGood T L) :
   Calls Tryz.prog 35 #[.agg (bs 38 f).toArray,.slice A n C,.slice B m D] w0 fun e w'=>e = .returned (.tuple #[.agg (bs 38 (finT f T L)).toArray,.int .i64 0])∧Below w0.heap.size w0 w':=by
 have h1:=hg.1
 have h2:=hg.2.1
 refine (finalT_any f A C T B D L n m w0 hA hB hn hm (by omega) (by omega)).mono ?_;rintro e w' ⟨g,er,rfl,h3,h4⟩
 obtain ⟨rfl,h6⟩:=h3 hg
 rw [h6]
 exact ⟨rfl,h4⟩
theorem turn_good (cs:List Value) (p:Prg) (LA:Option Addr) (LC:Nat) (IA:Option Addr) (IC:Nat) (TA:Option Addr) (TC h:Nat) (ccs:List Value) (A:Option Addr) (C:Nat) (T:List Int) (B:Option Addr) (D:Nat) (L:List Int) (nT nL:Nat) (w0:World)
   (hp:ProgIn w0 cs p LA LC IA IC TA TC h ccs) (hN:NeedsAt w0) (h0:rightErr p=0) (hs:Slim h p.cond) (hA:RowsAt w0 A 1 (intsZ T)) (hB:RowsAt w0 B 1 (intsZ L)) (hT:IsPerm p.threads.length T) (hL:IsPerm p.locs.length L) (hnT:nT=p.threads.length) (hnL:nL=p.locs.length) :
   Calls Tryz.prog 34 #[.agg cs.toArray,.slice A nT C,.slice B nL D] w0 fun e w'=>∃ v,e = .returned (.tuple #[v,.int .i64 0])∧ProgOut (turnPr h p T L) w0 w' h v:=by
 have V:=valid h0
 have h6:=V.locs6
 have h4:=V.thr4
 refine (Turn_any cs p LA LC IA IC TA TC h ccs A C T B D L nT nL w0 hp hN (fun _=>hs) hA hB (by rw [hT.len];exact hnT) (by rw [hL.len];exact hnL) (by rw [hT.len];omega) (by rw [hL.len];omega)).mono ?_
 rintro e w' (⟨h1,_⟩ | ⟨_,h1,_⟩ | ⟨_,_,_,v,h1,h2⟩)
 · exact absurd h0 h1
 · exact absurd ⟨hT,hL⟩ h1
 · exact ⟨v,h1,h2.out⟩
end Go.Proofs.YtbgnapmaimkpkaaGreatDoor
