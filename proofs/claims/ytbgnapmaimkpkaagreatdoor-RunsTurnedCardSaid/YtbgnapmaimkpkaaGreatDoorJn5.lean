/-
  Package verdict: the order of outcomes, and what it calls. Conditions: the lists are as long as each other.
-/
import Derived.Test.YtbgnapmaimkpkaaGreatDoorJn4
import Derived.BigQuiet
import Derived.Sort.Grow
import Derived.Test.YtbgnapmaimkpkaaGreatDoorVcL
import Derived.Shelf.GgSortFunc.InsertionK
import Derived.Test.YtbgnapmaimkpkaaGreatDoorJn1
import Derived.Deep.OwnRows
import Derived.Laws.OwnMore
import Derived.Laws.IdiomCopy
import Derived.Lib.BufferMore
import Derived.Shelf.SlSortCmp.WholeK
import Derived.Shelf.SlicesQ.Reverse
import Derived.Test.YtbgnapmaimkpkaaGreatDoorProg
set_option linter.unusedSimpArgs false
set_option linter.unusedVariables false
namespace Go.Proofs.YtbgnapmaimkpkaaGreatDoor
-- RnO
open Go.RowKit
set_option maxRecDepth 100000
def c8 (x y:UInt8):Int:=if x < y then -1 else if y < x then 1 else 0
theorem isNaN8 (x:UInt8) (w:World):Calls Tryz.prog 192 #[b8 x] w fun e w'=>e = .returned (.bool false)∧w'=w:=by
 unfold Go.Proofs.YtbgnapmaimkpkaaGreatDoor.b8
 go_enter Tryz.func192,Tryz.ntmps192
 go_wp2
 go_ret
 exact ⟨by simp,rfl⟩
theorem cmp8_any (x y:UInt8) (w:World):Calls Tryz.prog 181 #[b8 x,b8 y] w fun e w'=>e = .returned (.int .i64 (c8 x y))∧w'=w:=by
 have n1:=isNaN8 x
 have n2:=isNaN8 y
 unfold Go.Proofs.YtbgnapmaimkpkaaGreatDoor.b8 at *
 go_enter Tryz.func181,Tryz.ntmps181
 go_wp2_with (go_at_call 192;first | (refine (n1 _).mono ?_;rintro e w' ⟨rfl,rfl⟩) | (refine (n2 _).mono ?_;rintro e w' ⟨rfl,rfl⟩))
 all_goals (go_ret;refine ⟨?_,rfl⟩;unfold c8;simp only [UInt8.lt_iff_toNat_lt];(repeat' split) <;> first | rfl | (exfalso;omega))
theorem lex_step {xs ys:List UInt8} {i:Nat} {x y:UInt8} (hx:xs[i]? = some x) (hy:ys[i]? = some y):lexC (xs.drop i) (ys.drop i)=if c8 x y=0 then lexC (xs.drop (i+1)) (ys.drop (i+1)) else c8 x y:=by
 obtain ⟨h1,rfl⟩:=List.getElem?_eq_some_iff.1 hx
 obtain ⟨h2,rfl⟩:=List.getElem?_eq_some_iff.1 hy
 rw [List.drop_eq_getElem_cons h1,List.drop_eq_getElem_cons h2,lexC]
 unfold c8
 by_cases h3:xs[i] < ys[i]
 · rw [if_pos h3,if_pos h3,if_neg (by decide)]
 · rw [if_neg h3,if_neg h3]
   by_cases h4:ys[i] < xs[i]
   · rw [if_pos h4,if_pos h4,if_neg (by decide)]
   · rw [if_neg h4,if_neg h4,if_pos rfl]
theorem cmpS_any (b1 o1 C1 b2 o2 C2 n:Nat) (xs ys:List UInt8) (w:World) (hx:xs.length=n) (hy:ys.length=n) (hn:n≤1000) (h1:w.rangeAt b1 o1 (xs.map b8)) (h2:w.rangeAt b2 o2 (ys.map b8)) :
   Calls Tryz.prog 139 #[.slice (some ⟨b1,o1,none⟩) n C1,.slice (some ⟨b2,o2,none⟩) n C2] w fun e w'=>e = .returned (.int .i64 (lexC xs ys))∧w'=w:=by
 go_enter Tryz.func139,Tryz.ntmps139
 go_wp2
 go_loopg [11] n (fun m v wr=>∃ i:Nat,Hid (m=n - i)∧v = .int .i64 i∧i≤n∧wr=w∧Hid (lexC xs ys=lexC (xs.drop i) (ys.drop i)))
 case atStart=>exact ⟨0,Lib.hid rfl,rfl,Nat.zero_le _,rfl,Lib.hid rfl⟩
 case round=>
   obtain ⟨i,hm,rfl,hi,rfl,he⟩:=hrel
   by_cases hlt:i < n
   · obtain ⟨x,ex⟩:∃ x,xs[i]? = some x:=⟨_,List.getElem?_eq_getElem (by omega)⟩
     obtain ⟨y,ey⟩:∃ x,ys[i]? = some x:=⟨_,List.getElem?_eq_getElem (by omega)⟩
     have c1:=h1 i (b8 x) (by rw [List.getElem?_map,ex];rfl)
     have c2:=h2 i (b8 y) (by rw [List.getElem?_map,ey];rfl)
     have c3:wr.cell? ⟨b1,o1+i * 1,none⟩=some (b8 x):=by rw [Nat.mul_one];exact c1
     have c4:wr.cell? ⟨b2,o2+i * 1,none⟩=some (b8 y):=by rw [Nat.mul_one];exact c2
     have st:=lex_step ex ey
     have hcon:=cmp8_any x y
     unfold Go.Proofs.YtbgnapmaimkpkaaGreatDoor.b8 at c1 c2 c3 c4 hcon
     generalize c8 x y=c at st hcon
     have Hst:=Lib.hid st
     clear st h1 h2 ex ey hx hy
     by_cases h0:c=0
     · subst h0
       go_wp2_with (go_at_call 181;refine (hcon _).mono ?_;rintro e w' ⟨rfl,rfl⟩)
       go_roundg (n - (i+1))
       case measure=>rw [hm.out];omega
       case rel=>exact ⟨i+1,Lib.hid rfl,by simp,by omega,rfl,Lib.hid (he.out.trans (by rw [Hst.out];simp))⟩
     · have Hc:=Lib.hid h0
       go_wp2_with (go_at_call 181;refine (hcon _).mono ?_;rintro e w' ⟨rfl,rfl⟩)
       go_returns
       exact ⟨ret_int (by rw [he.out,Hst.out,if_neg Hc.out]),rfl⟩
   · have hl:lexC (xs.drop i) (ys.drop i)=0:=by rw [List.drop_eq_nil_of_le (by omega),List.drop_eq_nil_of_le (by omega)];rfl
     have Hl:=Lib.hid hl
     clear hl h1 h2 hx hy
     go_wp2
     go_returns
     exact ⟨ret_int (by rw [he.out,Hl.out]),rfl⟩
def cutL (o n:Nat) (f:By):List UInt8:=((toL 38 f).drop o).take n
theorem cut_len {o n:Nat} (f:By) (h:o+n≤38):(cutL o n f).length=n:=by
 unfold cutL
 rw [List.length_take,List.length_drop,toL_len];omega
theorem cut_range {w:World} {b o n:Nat} {f:By} (h:w.rangeAt b 0 (bs 38 f)) (hn:o+n≤38):w.rangeAt b o ((cutL o n f).map b8):=fun j v hv=>by
 have hj:=(List.getElem?_eq_some_iff.1 hv).1
 rw [List.length_map,cut_len f hn] at hj
 have:=h (o+j) v (by
   rw [List.getElem?_map] at hv
   unfold cutL at hv
   rw [List.getElem?_take_of_lt hj,List.getElem?_drop,toL_at (by omega)] at hv;rw [bs_map];rw [List.getElem?_map,List.getElem?_map,List.getElem?_range (by omega)]
   exact hv)
 rwa [Nat.zero_add] at this
theorem lex_cut {f g:By} {o n:Nat} (h:o+n≤38):lexC ((toL 38 f).drop o) ((toL 38 g).drop o)=if lexC (cutL o n f) (cutL o n g)=0 then lexC ((toL 38 f).drop (o+n)) ((toL 38 g).drop (o+n)) else lexC (cutL o n f) (cutL o n g):=by
 have e:∀ f:By,(toL 38 f).drop o=cutL o n f++(toL 38 f).drop (o+n):=fun f=>by
   unfold cutL
   rw [← List.drop_drop,List.take_append_drop]
 rw [e f,e g,lex_append _ _ (by rw [cut_len f h,cut_len g h])]
theorem grow_more {w wr:World} (n:Nat) (h:∃ q os,wr=Go.Sort.grow (w.drewN q) os):∃ q os,wr.drewN n=Go.Sort.grow (w.drewN q) os:=by
 obtain ⟨q,os,rfl⟩:=h
 exact ⟨q+n,os,by rw [← World.drewN_drewN];rfl⟩
theorem lex_rest (f g:By):lexC ((toL 38 f).drop (32+6)) ((toL 38 g).drop (32+6))=0:=by
 rw [List.drop_eq_nil_of_le (by rw [toL_len];omega),List.drop_eq_nil_of_le (by rw [toL_len];omega)];rfl
theorem order_any (x y:By) (w:World) :
   Calls Tryz.prog 99 #[.agg (bs 38 x).toArray,.agg (bs 38 y).toArray] w fun e w'=>e = .returned (.int .i64 (lexC (toL 38 x) (toL 38 y)))∧∃ q os,w'=Go.Sort.grow (w.drewN q) os:=by
 go_enter Tryz.func99,Tryz.ntmps99
 go_wp2
 go_loopg [7] 4 (fun m v wr=>∃ i:Nat,Hid (m=4 - i)∧v = .int .i64 i∧i≤4∧Hid (Blk wr w.heap.size (bs 38 x) 47∧Blk wr (w.heap.size+1) (bs 38 y) 47∧∃ q os,wr=Go.Sort.grow (w.drewN q) os)∧Hid (lexC (toL 38 x) (toL 38 y)=lexC ((toL 38 x).drop (i * 8)) ((toL 38 y).drop (i * 8))))
 case atStart=>
   refine ⟨0,Lib.hid rfl,rfl,by omega,Lib.hid ⟨(Blk.new _ _ _).alloc _,Blk.newAt (by simp),0,#[.cells (bs 38 x).toArray 47,.cells (bs 38 y).toArray 47],?_⟩,Lib.hid (by simp)⟩
   rw [Go.Sort.alloc_eq_grow,Go.Sort.alloc_eq_grow,Go.Sort.grow_grow]
   rfl
 case round=>
   obtain ⟨i,hm,rfl,hi,hw,he⟩:=hrel
   have r1:=hw.out.1
   have r2:=hw.out.2.1
   by_cases hlt:i < 4
   · have g:i * 8+8≤38:=by omega
     have hcon:=fun q=>cmpS_any w.heap.size (i * 8) 8 (w.heap.size+1) (i * 8) 8 8 _ _ (wr.drewN q) (cut_len x g) (cut_len y g) (by omega) (cut_range (r1.range 0 38) g) (cut_range (r2.range 0 38) g)
     have st:=lex_cut (f:=x) (g:=y) g
     generalize lexC (cutL (i * 8) 8 x) (cutL (i * 8) 8 y)=c at st hcon
     have Hst:=Lib.hid st
     clear st
     by_cases h0:c=0
     · subst h0
       go_wp2
       go_quiet ((go_at_call 139;exact Calls.quiet_of_same (hcon _)))
       go_wp2
       go_roundg (4 - (i+1))
       case measure=>rw [hm.out];omega
       case rel=>exact ⟨i+1,Lib.hid rfl,by simp,by omega,Lib.hid ⟨r1,r2,grow_more _ hw.out.2.2⟩,Lib.hid (he.out.trans (by rw [Hst.out];simp [Nat.add_mul]))⟩
     · have Hc:=Lib.hid h0
       go_wp2
       go_quiet ((go_at_call 139;exact Calls.quiet_of_same (hcon _)))
       go_wp2
       go_returns
       exact ⟨ret_int (by rw [he.out,Hst.out,if_neg Hc.out]),grow_more _ hw.out.2.2⟩
   · obtain rfl:i=4:=by omega
     have hcon:=fun q=>cmpS_any w.heap.size 32 6 (w.heap.size+1) 32 6 6 _ _ (wr.drewN q) (cut_len x (by omega)) (cut_len y (by omega)) (by omega) (cut_range (r1.range 0 38) (by omega)) (cut_range (r2.range 0 38) (by omega))
     have st:=lex_cut (f:=x) (g:=y) (o:=32) (n:=6) (by omega)
     generalize lexC (cutL 32 6 x) (cutL 32 6 y)=c at st hcon
     have Hst:=Lib.hid st
     clear st
     go_wp2
     go_quiet ((go_at_call 139;exact Calls.quiet_of_same (hcon _)))
     go_wp2
     go_returns
     exact ⟨ret_int (by rw [he.out];refine Eq.trans ?_ Hst.out.symm;rw [lex_rest];split <;> simp_all),grow_more _ hw.out.2.2⟩
-- VcI
open Go.RowKit
section
variable {P:Program} {l:List Oper} {Q:Exit→Act→World→Prop} {N:Nat} {a:Act} {env:List (Nat × Value)} {rest:List Oper} {d:Tmp} {ty:TypeId} {pos:String} {af:Array Edge} {g:Option (Nat × Bool)}
 {w0 w:World} {row:Option Nat} {rs:List Res} {Kt:Act→World→Prop}
def CkT (P:Program) (D:Nat) (t:TypeId) (n:Nat) (ag:Bool):Prop:=∀ (em:Bool) (d:Nat) (w:World) (vs:List Value),vs.length=n→(Instr.checkKey em (d+D) t (pk ag vs)).run P w = .ok () w
theorem CkT.up {D n:Nat} {t:TypeId} {ag:Bool} (h:CkT P D t n ag) (m:Nat):CkT P (D+m) t n ag:=fun em d w vs hl=>by
 have:=h em (d+m) w vs hl
 rwa [show d+(D+m)=d+m+D by omega]
theorem ckInt {t:TypeId} {k:IntKind} (hu:P.underlying t=some (.int k)):CkT P 1 t 1 false:=fun em d w vs _=>by
 unfold Instr.checkKey
 simp [run_underlying hu]
theorem ckArr {D n m:Nat} {t e:TypeId} {ag:Bool} (hu:P.underlying t=some (.array m e)) (hs:∀ w,(sizeOf e).run P w = .ok n w) (ha:∀ w,(isAgg e).run P w = .ok ag w) (h1:ag=false→n=1) (h:CkT P D e n ag):CkT P (D+1) t (m * n) true:=fun em d w vs hl=>by
 show (Instr.checkKey em (d+D+1) t (.agg vs.toArray)).run P w=_
 rw [Instr.checkKey]
 simp only [Sem.run_bind,run_underlying hu,Result.andThen_ok]
 simp only [Std.Legacy.Range.forIn_eq_forIn_range',Std.Legacy.Range.size,Nat.sub_zero,Nat.add_one_sub_one,Nat.div_one]
 have each:∀ j ∈ List.range' 0 m,j < m:=fun j hj=>by simpa using hj
 generalize List.range' 0 m=is at each
 induction is with
 | nil=>simp
 | cons j is ih=>
   have hj:=each j (by simp)
   have hle:j * n+n≤vs.length:=by
     have:=Nat.mul_le_mul_right n (show j+1≤m from hj)
     rw [Nat.add_mul] at this
     omega
   have p1:=part_pk (P:=P) (vs:=vs) (off:=j * n) w hs ha h1 hle
   have p2:=h em d w ((vs.drop (j * n)).take n) (by rw [List.length_take,List.length_drop];omega)
   simp only [List.forIn_cons,Sem.run_bind,hs,Result.andThen_ok,p1,p2,Sem.run_pure]
   exact ih (fun y hy=>each y (by simp [hy]))
def CkF (P:Program) (D n:Nat):List Field→Prop
 | []=>True
 | f :: r => (f.name != "_") = true ∧ (∃ m ag, (∀ w, (sizeOf f.type).run P w = .ok m w) ∧ (∀ w, (isAgg f.type).run P w = .ok ag w) ∧ (ag = false → m = 1) ∧ f.offset + m ≤ n ∧ CkT P D f.type m ag) ∧ CkF P D n r
theorem ckStruct {D n:Nat} {t:TypeId} {fs:Array Field} (hu:P.underlying t=some (.struct fs)) (h:CkF P D n fs.toList):CkT P (D+1) t n true:=fun em d w vs hl=>by
 show (Instr.checkKey em (d+D+1) t (.agg vs.toArray)).run P w=_
 rw [Instr.checkKey]
 simp only [Sem.run_bind,run_underlying hu,Result.andThen_ok]
 rw [← Array.forIn_toList]
 generalize fs.toList=L at h
 induction L with
 | nil=>simp
 | cons f L ih=>
   obtain ⟨hn,⟨m,ag,hs,ha,h1,hle,hc⟩,hr⟩:=h
   have hn : f.name ≠ "_" := by simpa using hn
   have p1:=part_pk (P:=P) (vs:=vs) (off:=f.offset) w hs ha h1 (by omega)
   have p2:=hc em d w ((vs.drop f.offset).take m) (by rw [List.length_take,List.length_drop];omega)
   simp only [List.forIn_cons,Sem.run_bind,hn,ne_eq,not_false_eq_true,if_true,Result.andThen_ok,p1,p2,Sem.run_pure]
   exact ih hr
def Res.mpS (b n:Nat) (ks:List By):Res where
 foot:=(· = b)
 pred:=fun w=>∃ es clock,w.heap[b]? = some (.map es clock)∧es.toList.map (fun e=>(e.key,e.val))=ks.map fun s=>(.agg (bs n s).toArray,.bool true)
 loc:=fun _ _ h hp=>by
   obtain ⟨es,c,h1,h2⟩:=hp
   exact ⟨es,c,(h b rfl).trans h1,h2⟩
structure KeyS (P:Program) (t:TypeId) (n:Nat):Prop where
 wide:∃ fs,P.underlying t=some (.struct fs)
 eq:∀ (w:World) (u v:By),(Op.equal t (.agg (bs n u).toArray) (.agg (bs n v).toArray)).run P w = .ok (same n u v) w
 ck:∀ (em:Bool) (w:World) (u:By),(Instr.checkKey em 10000 t (.agg (bs n u).toArray)).run P w = .ok () w
theorem keyS {D D2 n:Nat} {t:TypeId} {fs:Array Field} (hu:P.underlying t=some (.struct fs)) (h:EqT P D t (List.replicate n .u8) true) (hD:Nat.ble D 10000=true) (hc:CkT P D2 t n true) (hD2:Nat.ble D2 10000=true):KeyS P t n where
 wide:=⟨fs,hu⟩
 eq:=fun w u v=>by
   have hD:=Nat.le_of_ble_eq_true hD
   have:=h (10000 - D) w (bs n u) (bs n v) (by rw [bs_map];have:=fits_bytes ((List.range n).map u);simpa using this) (by rw [bs_map];have:=fits_bytes ((List.range n).map v);simpa using this)
   rw [show 10000 - D+D=10000 by omega,bs_map,bs_map,ceq_bytes] at this;rw [bs_map,bs_map]
   exact this
 ck:=fun em w u=>by
   have hD:=Nat.le_of_ble_eq_true hD2
   have:=hc em (10000 - D2) w (bs n u) (bs_length _ _)
   rwa [show 10000 - D2+D2=10000 by omega] at this
theorem findAsk_S {t:TypeId} {n:Nat} (hk:KeyS P t n) (u:By):∀ (es:List MapEntry) (ks:List By) (i:Nat),es.map (fun e=>(e.key,e.val))=ks.map (fun s=>(.agg (bs n s).toArray,.bool true)) →
   ∃ r,(Instr.findAsking t (.agg (bs n u).toArray) es i).run P w = .ok r w∧(ks.any (fun y=>same n u y)=true→∃ j,r=some (j,.bool true))∧(ks.any (fun y=>same n u y)=false→r=none)
 | [],[],i,_=>⟨none,by simp [Instr.findAsking],fun h=>by simp at h,fun _=>rfl⟩
 | e :: es,y :: ks,i,h=>by
   simp only [List.map_cons,List.cons.injEq,Prod.mk.injEq] at h
   obtain ⟨⟨h1,h2⟩,h3⟩:=h
   have he:=hk.eq w u y
   rw [← h1] at he
   cases hs:same n u y with
   | true=>
     rw [hs] at he
     refine ⟨some (i,.bool true),by simp [Instr.findAsking,he,h2],fun _=>⟨i,rfl⟩,fun hh=>by simp [hs] at hh⟩
   | false=>
     rw [hs] at he
     obtain ⟨r,hr,hr1,hr2⟩:=findAsk_S hk u es ks (i+1) h3
     refine ⟨r,by simp [Instr.findAsking,he,hr],fun hh=>hr1 (by simpa [hs] using hh),fun hh=>hr2 (by simpa [hs] using hh)⟩
 | [],_ :: _,_,h=>by simp at h
 | _ :: _,[],_,h=>by simp at h
theorem findKey_S {t:TypeId} {n:Nat} (hk:KeyS P t n) (u:By) {es:List MapEntry} {ks:List By} (h:es.map (fun e=>(e.key,e.val))=ks.map (fun s=>(.agg (bs n s).toArray,.bool true))) (w:World) :
   ∃ r,(Instr.findKey t (.agg (bs n u).toArray) es).run P w = .ok r w∧(ks.any (fun y=>same n u y)=true→∃ j,r=some (j,.bool true))∧(ks.any (fun y=>same n u y)=false→r=none):=by
 obtain ⟨fs,hu⟩:=hk.wide
 obtain ⟨r,hr,hr1,hr2⟩:=findAsk_S (w:=w) hk u es ks 0 h
 cases es with
 | nil=>
   refine ⟨none,by simp [Instr.findKey,run_underlying hu,Instr.findNow],fun hh=>?_,fun _=>rfl⟩
   cases ks with
   | nil=>simp at hh
   | cons _ _=>simp at h
 | cons e es=>
   refine ⟨r,?_,hr1,hr2⟩
   unfold Instr.findKey
   simp only [Sem.run_bind,run_underlying hu,Result.andThen_ok,Instr.findNow,Instr.sameNow]
   exact hr
theorem sMkS {t:TypeId} (n:Nat) (H:Own w0 row w rs) (F:Has N a env) (hg:wants l env g=true) (hN:Nat.blt d N=true)
   (K:∀ b a w,Has N a ((d,.map (some b)) :: env)→Own w0 row w (.mpS b n [] :: rs)→wpList P l.toArray Q rest a w):wpList P l.toArray Q (⟨some d,.makeMap t none,ty,pos,af,g⟩ :: rest) a w:=
 stepV F hg rfl hN (v:=.map (some w.heap.size)) (w':=w.alloc (.map #[] 0)) (by simp [execOp,run_makeMap]) (fun a' F'=>K _ _ _ F' (H.add (.mpS w.heap.size n []) ((Below.refl _ _).alloc (Nat.le_refl _) _)
   ⟨#[],0,heap_alloc_new w _,rfl⟩ (fun b hb=>by cases hb;exact ⟨Nat.le_refl _,by simp⟩)))
theorem ins_run {t kt et:TypeId} {n b:Nat} {u:By} {ks:List By} (H:Own w0 row w rs) (i:Nat) (ht:P.underlying t=some (.map kt et)) (hk:KeyS P kt n) (hi:rs[i]? = some (.mpS b n ks)) (hn:ks.any (fun y=>same n u y)=false) :
   ∃ w',(Instr.mapUpdate t (.map (some b)) (.agg (bs n u).toArray) (.bool true)).run P w = .ok () w'∧Own w0 row w' (rs.set i (.mpS b n (ks++[u]))):=by
 obtain ⟨es,clock,h1,h2⟩:=H.pred i _ hi
 obtain ⟨r,hr,_,hr2⟩:=findKey_S (P:=P) hk u h2 w
 have hr2:=hr2 hn
 subst hr2
 have hbs:b < w.heap.size:=by
   rcases Nat.lt_or_ge b w.heap.size with h | h
   · exact h
   · rw [Array.getElem?_eq_none h] at h1;cases h1
 refine ⟨{ w with heap:=w.heap.setIfInBounds b (.map (es.push { key:=.agg (bs n u).toArray,val:=.bool true,born:=clock }) (clock+1)) },?_,?_⟩
 · simp only [Instr.mapUpdate,Sem.run_bind,run_underlying ht,Result.andThen_ok]
   have hgo:(getObj b).run P w = .ok (.map es clock) w:=MapKept.run_getObj_map h1
   simp only [hgo,Result.andThen_ok,Sem.run_bind,hk.ck,hr]
   simp only [MapKept.run_setObj_map _ h1]
 · refine H.turn i hi _ ?_ (by simp) (fun c hc hne=>by simp [Ne.symm hne]) ⟨es.push { key:=.agg (bs n u).toArray,val:=.bool true,born:=clock },clock+1,by simp [hbs],by simp [h2]⟩ (fun c hc=>⟨.inl hc,by cases hc;simpa using hbs⟩)
   refine ⟨H.grown.os,H.grown.tape,H.grown.output,by simpa using H.grown.size,fun c hc hne=>?_⟩
   have hcb:c ≠ b:=by
     rintro rfl
     rcases (H.foot i _ hi c rfl).1 with h | h
     · omega
     · exact hne h
   have:=H.grown.block c hc hne
   simpa [Array.getElem?_setIfInBounds,Ne.symm hcb] using this
theorem sInsS {t kt et:TypeId} {m x y:Operand} {n b:Nat} {u:By} {ks:List By} (H:Own w0 row w rs) (i:Nat) (ht:P.underlying t=some (.map kt et)) (hk:KeyS P kt n) (F:Has N a env) (hg:wants l env g=true)
   (hm:ev env m=some (.map (some b))) (hx:ev env x=some (.agg (bs n u).toArray)) (hy:ev env y=some (.bool true)) (hi:rs[i]? = some (.mpS b n ks)) (hn:ks.any (fun y=>same n u y)=false)
   (K:∀ w,Own w0 row w (rs.set i (.mpS b n (ks++[u])))→wpList P l.toArray Q rest a w):wpList P l.toArray Q (⟨none,.insert t m x y,ty,pos,af,g⟩ :: rest) a w:=by
 obtain ⟨w',h1,h2⟩:=ins_run (P:=P) H i ht hk hi hn
 exact stepU F hg rfl (w':=w') (by simp only [execOp,F.eval hm,F.eval hx,F.eval hy,Sem.run_bind,h1,Result.andThen_ok,Sem.run_pure]) (K _ h2)
theorem sUpdS {t kt et:TypeId} {m x y:Operand} {n b:Nat} {u:By} {ks:List By} (H:Own w0 row w rs) (i:Nat) (ht:P.underlying t=some (.map kt et)) (hk:KeyS P kt n) (F:Has N a env) (hg:wants l env g=true)
   (hm:ev env m=some (.map (some b))) (hx:ev env x=some (.agg (bs n u).toArray)) (hy:ev env y=some (.bool true)) (hi:rs[i]? = some (.mpS b n ks)) (hn:ks.any (fun y=>same n u y)=false)
   (K:∀ w,Own w0 row w (rs.set i (.mpS b n (ks++[u])))→wpList P l.toArray Q rest a w):wpList P l.toArray Q (⟨none,.mapUpdate t m x y,ty,pos,af,g⟩ :: rest) a w:=by
 obtain ⟨w',h1,h2⟩:=ins_run (P:=P) H i ht hk hi hn
 exact stepU F hg rfl (w':=w') (by simp only [execOp,F.eval hm,F.eval hx,F.eval hy,Sem.run_bind,h1,Result.andThen_ok,Sem.run_pure]) (K _ h2)
theorem sLkS {t kt et:TypeId} {m x:Operand} {n b:Nat} {u:By} {ks:List By} (H:Own w0 row w rs) (i:Nat) (ht:P.underlying t=some (.map kt et)) (hk:KeyS P kt n) (hz:∀ w,(zeroValue et).run P w = .ok (.bool false) w) (F:Has N a env) (hg:wants l env g=true) (hN:Nat.blt d N=true)
   (hm:ev env m=some (.map (some b))) (hx:ev env x=some (.agg (bs n u).toArray)) (hi:rs[i]? = some (.mpS b n ks))
   (K:∀ a,Has N a ((d,.bool (ks.any fun y=>same n u y)) :: env)→wpList P l.toArray Q rest a w):wpList P l.toArray Q (⟨some d,.lookup t m x false,ty,pos,af,g⟩ :: rest) a w:=
 stepV F hg rfl hN (by
   obtain ⟨es,clock,h1,h2⟩:=H.pred i _ hi
   obtain ⟨r,hr,hr1,hr2⟩:=findKey_S (P:=P) hk u h2 w
   have hgo:(getObj b).run P w = .ok (.map es clock) w:=MapKept.run_getObj_map h1
   cases hs:ks.any (fun y=>same n u y) with
   | true=>
     obtain ⟨j,rfl⟩:=hr1 hs
     simp only [execOp,F.eval hm,F.eval hx,Instr.lookup,Sem.run_bind,run_underlying ht,Result.andThen_ok,hgo,Sem.run_pure,hk.ck,hr]
     rfl
   | false=>
     have:=hr2 hs
     subst this
     simp only [execOp,F.eval hm,F.eval hx,Instr.lookup,Sem.run_bind,run_underlying ht,Result.andThen_ok,hgo,Sem.run_pure,hk.ck,hr,hz]
     rfl) K
theorem qLkS {t kt et:TypeId} {m x:Operand} {n b:Nat} {u:By} {ks:List By} (H:Own w0 row w rs) (i:Nat) (ht:P.underlying t=some (.map kt et)) (hk:KeyS P kt n) (hz:∀ w,(zeroValue et).run P w = .ok (.bool false) w) (hg:wants l env g=true) (hN:Nat.blt d N=true) (hm:ev env m=some (.map (some b))) (hx:ev env x=some (.agg (bs n u).toArray)) (hi:rs[i]? = some (.mpS b n ks)) (K:∀ a,Has N a ((d,.bool (ks.any fun y=>same n u y)) :: env)→wpList P l.toArray Q rest a w):∀ a,Has N a env→wpList P l.toArray Q (⟨some d,.lookup t m x false,ty,pos,af,g⟩ :: rest) a w:=fun a F=>sLkS H i ht hk hz F hg hN hm hx hi K
theorem bRetD1 {fn:Func} {R:Ending→World→Prop} {t u:Tmp} {st:TypeId} {b n:Nat} {cs:List Value} {bt:TypeId} {dd:TypeDesc} {y:Value} (hres:fn.results = #[.cell t st,.tmp u]) (F:Has N a env) (hv:lk env t=some (.pointer (some ⟨b,0,.none⟩))) (hy:lk env u=some y)
   (hu:P.underlying st=some dd) (hdd:dd.isRow=true) (H:Own w0 row w rs) (i:Nat) (hi:rs[i]? = some (.blk b cs bt)) (hz:∀ w,(sizeOf st).run P w = .ok n w) (hn:Nat.beq cs.length n=true) (h:R (.returned (.tuple #[.agg cs.toArray,y])) w):bodyPost P fn R .ret a w:=
 bodyPost_ret (results_own_tmp hres F hv hy hu hdd (by rw [Nat.eq_of_beq_eq_true hn];exact info_size hz) (H.blk i hi)) F.nod h
end
-- RnG
open Go.RowKit Go.Sort
theorem flat_at {sz:Nat}:∀ (rows:List (List Value)),(∀ r ∈ rows,r.length=sz)→∀ (j:Nat) (cs:List Value),rows[j]? = some cs→∀ (k:Nat) (v:Value),cs[k]? = some v→rows.flatten[j * sz+k]? = some v
 | [],_,j,cs,hj,_,_,_=>by simp at hj
 | r0 :: rest,hr,j,cs,hj,k,v,hk=>by
   have h0:r0.length=sz:=hr r0 (by simp)
   cases j with
   | zero=>
     simp at hj;subst hj
     have:k < r0.length:=(List.getElem?_eq_some_iff.1 hk).1
     rw [List.flatten_cons,List.getElem?_append_left (by omega)];simpa using hk
   | succ j=>
     rw [List.flatten_cons,List.getElem?_append_right (by rw [h0,Nat.add_mul];omega),h0]
     have e1:(j+1) * sz+k - sz=j * sz+k:=by rw [Nat.add_mul];omega
     rw [e1]
     exact flat_at rest (fun r hm=>hr r (by simp [hm])) j cs (by simpa using hj) k v hk
theorem flat_len {sz:Nat}:∀ (rows:List (List Value)),(∀ r ∈ rows,r.length=sz)→rows.flatten.length=rows.length * sz
 | [],_=>by simp
 | r0 :: rest,hr=>by rw [List.flatten_cons,List.length_append,flat_len rest (fun r hm=>hr r (by simp [hm])),hr r0 (by simp),List.length_cons,Nat.add_mul];omega
variable {α:Type} [Inhabited α]
theorem flatK_list {enc:α→List Value} {k:Nat} (hk:∀ x,(enc x).length=k) (d:Array α):(flatK enc k d).toList=(d.toList.map enc).flatten:=by
 have hr:∀ r ∈ d.toList.map enc,r.length=k:=fun r hm=>by
   obtain ⟨x,_,rfl⟩:=List.mem_map.1 hm
   exact hk x
 have hl:(d.toList.map enc).flatten.length=d.size * k:=by rw [flat_len _ hr];simp
 apply List.ext_getElem?
 intro t
 by_cases ht:t < d.size * k
 · have k0:0 < k:=by
     rcases Nat.eq_zero_or_pos k with h | h
     · subst h;simp at ht
     · exact h
   have hj:t / k < d.size:=Nat.div_lt_of_lt_mul (by rw [Nat.mul_comm];exact ht)
   have hm:t % k < (enc d[t / k]!).length:=by rw [hk];exact Nat.mod_lt _ k0
   have e:=flat_at (d.toList.map enc) hr (t / k) (enc d[t / k]!) (by
     rw [List.getElem?_map,Array.getElem?_toList,Array.getElem?_eq_getElem hj,getElem!_pos d _ hj];rfl) (t % k) ((enc d[t / k]!)[t % k]!) (by rw [List.getElem?_eq_getElem hm,getElem!_pos (enc d[t / k]!) _ hm])
   have e1:t / k * k+t % k=t:=by rw [Nat.mul_comm];exact Nat.div_add_mod t k
   rw [e1] at e;rw [e]
   have:=get_flatK enc k d t ht
   rw [← this,Array.getElem?_toList,Array.getElem?_eq_getElem (by simpa using ht),getElem!_pos _ _ (by simpa using ht)]
 · rw [List.getElem?_eq_none (by simp;omega),List.getElem?_eq_none (by omega)]
theorem holdsOf {enc:α→List Value} {k:Nat} (hk:∀ x,(enc x).length=k) {w:World} {e:TypeId} {b c:Nat} {d:Array α} (h:w.ownsRow 0 e k (.slice (some ⟨b,0,none⟩) d.size c) d.size (d.toList.map enc).flatten):HoldsK enc k w b 0 d:=by
 obtain ⟨_,⟨h1,_⟩ | ⟨g,cap,cur,h1,_,hg,hc,_,hs,ht⟩⟩:=h
 · cases h1
 · simp only [Value.slice.injEq,Option.some.injEq,Addr.mk.injEq] at h1
   obtain ⟨⟨rfl,_⟩,_,rfl⟩:=h1
   intro j hj
   have hj':j < (flatK enc k d).size:=hj
   rw [size_flatK] at hj
   have hB:Blk w b cur.toList e:=by unfold Blk;simpa using hg
   refine ⟨?_,by rw [Nat.zero_add];exact hB.frozen j⟩
   rw [Nat.zero_add];refine hB.cell j ?_;rw [← flatK_list hk] at ht
   have:(cur.toList.take (d.size * k))[j]? = some ((flatK enc k d)[j]!):=by
     rw [ht,Array.getElem?_toList,Array.getElem?_eq_getElem hj',getElem!_pos (flatK enc k d) j hj']
   rwa [List.getElem?_take_of_lt hj] at this
theorem putCells_take (F c:Array Value) (h:F.size≤c.size):(putCells id 0 F c).toList.take F.size=F.toList:=by
 apply List.ext_getElem?
 intro j
 by_cases hj:j < F.size
 · rw [List.getElem?_take_of_lt hj,Array.getElem?_toList,Array.getElem?_toList]
   unfold putCells
   rw [Array.getElem?_mapIdx,Array.getElem?_eq_getElem (show j < c.size by omega),Array.getElem?_eq_getElem hj]
   simp [hj]
 · rw [List.getElem?_eq_none (by rw [List.length_take];omega),List.getElem?_eq_none (by rw [Array.length_toList];omega)]
theorem sort_block (enc:α→List Value) (k:Nat) (w:World) (b m:Nat) (d':Array α) (os:Array Obj) (j:Nat) (hj:j < w.heap.size):(sortWorldK enc k w b 0 m d' os).heap[j]? = (w.heap.modify b (onCells (putCells id 0 (flatK enc k d'))))[j]?:=by
 show (w.heap.modify b _++os)[j]? = _
 rw [Array.getElem?_append_left (by simpa using hj)]
theorem sort_grown (enc:α→List Value) (k:Nat) (w:World) (b m:Nat) (d':Array α) (os:Array Obj):w.grownBy (sortWorldK enc k w b 0 m d' os) (some b) where
 os:=rfl
 tape:=rfl
 output:=rfl
 size:=by
   show _≤(w.heap.modify b _++os).size
   simp
 block:=fun j hj hne=>by
   rw [sort_block enc k w b m d' os j hj,Array.getElem?_modify,if_neg (fun e=>hne (by rw [e]))]
theorem putOf {enc:α→List Value} {k:Nat} (hk:∀ x,(enc x).length=k) {w:World} {e:TypeId} {b c:Nat} {d d':Array α} (h:w.ownsRow 0 e k (.slice (some ⟨b,0,none⟩) d.size c) d.size (d.toList.map enc).flatten) (hd:d'.size=d.size) (m:Nat) (os:Array Obj) :
   (sortWorldK enc k w b 0 m d' os).ownsRow 0 e k (.slice (some ⟨b,0,none⟩) d'.size c) d'.size (d'.toList.map enc).flatten:=by
 have hr:∀ r ∈ d'.toList.map enc,r.length=k:=fun r hm=>by
   obtain ⟨x,_,rfl⟩:=List.mem_map.1 hm
   exact hk x
 obtain ⟨_,⟨h1,_⟩ | ⟨g,cap,cur,h1,_,hg,hc,hm,hs,ht⟩⟩:=h
 · cases h1
 · simp only [Value.slice.injEq,Option.some.injEq,Addr.mk.injEq] at h1
   obtain ⟨⟨rfl,_⟩,_,rfl⟩:=h1
   have hb:b < w.heap.size:=(Array.getElem?_eq_some_iff.1 hg).1
   refine ⟨by rw [flat_len _ hr];simp,.inr ⟨b,c,putCells id 0 (flatK enc k d') cur,rfl,Nat.zero_le _,?_,by omega,hm,by unfold putCells;simpa using hs,?_⟩⟩
   · rw [sort_block enc k w b m d' os b hb,Array.getElem?_modify,if_pos rfl,hg]
     rfl
   · rw [← flatK_list hk,← size_flatK enc k d']
     refine putCells_take _ _ ?_;rw [size_flatK,hs,hd]
     exact Nat.mul_le_mul_right k hc
theorem turnedRow {w0 w w':World} {row:Option Nat} {rs:List Res} {e:TypeId} {k b n c n' c':Nat} {rows rows':List (List Value)} (H:Own w0 row w rs) (i:Nat) (hi:rs[i]? = some (.rws e k (.slice (some ⟨b,0,none⟩) n c) rows)) (hg:w.grownBy w' (some b))
   (h':w'.ownsRow 0 e k (.slice (some ⟨b,0,none⟩) n' c') rows'.length rows'.flatten):Own w0 row w' (rs.set i (.rws e k (.slice (some ⟨b,0,none⟩) n' c') rows')):=by
 have hb:=H.foot i _ hi b rfl
 refine H.turn i hi _ ?_ hg.size (fun j hj hn=>hg.block j hj (fun e=>hn (by cases e;rfl))) h' (fun j hj=>?_)
 · refine ⟨?_,?_,?_,Nat.le_trans H.grown.size hg.size,fun j hj hne=>?_⟩
   · rw [hg.os,H.grown.os]
   · rw [hg.tape,H.grown.tape]
   · rw [hg.output,H.grown.output]
   · rw [hg.block j (Nat.lt_of_lt_of_le hj H.grown.size) (fun e=>by
       cases e
       rcases hb.1 with h1 | h1
       · omega
       · exact hne h1),H.grown.block j hj hne]
 · have:j=b:=by
     have hj:Value.ownBlock (.slice (some ⟨b,0,none⟩) n' c')=some j:=hj
     simpa [Value.ownBlock] using hj.symm
   subst this
   exact ⟨.inl rfl,Nat.lt_of_lt_of_le hb.2 hg.size⟩
-- VcY
open Go.RowKit
section
variable {P:Program} {l:List Oper} {Q:Exit→Act→World→Prop} {N:Nat} {a:Act} {env:List (Nat × Value)} {rest:List Oper} {d:Tmp} {ty:TypeId} {pos:String} {af:Array Edge} {g:Option (Nat × Bool)}
 {w0 w:World} {row:Option Nat} {rs:List Res} {Kt:Act→World→Prop}
theorem sMk {t e:TypeId} {x y:Operand} {n bytes:Nat} {z:Value} {k k':IntKind} (H:Own w0 row w rs) (ht:P.underlying t=some (.slice e)) (hinfo:(P.info? e).map (fun i=>(i.zero,i.size,i.bytes))=some (some z,1,bytes)) (hz1:z.cells = #[z])
   (F:Has N a env) (hg:wants l env g=true) (hN:Nat.blt d N=true) (hx:ev env x=some (.int k (n:Int))) (hy:ev env y=some (.int k' (n:Int))) (hb:bytes * n≤281474976710656) (h63:n≤9223372036854775807)
   (K:∀ b a w,Has N a ((d,.slice (some ⟨b,0,none⟩) n n) :: env)→Own w0 row w (.blk b (List.replicate n z) e :: rs)→wpList P l.toArray Q rest a w):wpList P l.toArray Q (⟨some d,.makeSlice t x y,ty,pos,af,g⟩ :: rest) a w:=by
 have h2:=run_make_row' (P:=P) t e z bytes ht hinfo hz1 k k' n hb h63 w
 have h3:(execOp a.eval ⟨some d,.makeSlice t x y,ty,pos,af,g⟩).run P w = .ok (.value (.slice (some ⟨w.heap.size,0,none⟩) n n)) (w.alloc (.cells (madeCells #[z] n) e)):=by
   simp only [execOp,F.eval hx,F.eval hy,Sem.run_bind,h2]
   rfl
 refine stepV F hg rfl hN h3 (fun _ F'=>K _ _ _ F' ?_)
 have:=H.alloc (madeCells #[z] n) e
 rw [toList_madeCells_one] at this
 exact this
theorem rSlL {t e:TypeId} {x lo:Operand} {b o n c i sz:Nat} {k':IntKind} (ht:P.underlying t=some (.slice e)) (hz:∀ w,(sizeOf e).run P w = .ok sz w) (F:Has N a env) (hx:ev env x=some (.slice (some ⟨b,o,none⟩) n c)) (hl:ev env lo=some (.int k' (i:Int))) (hi:i≤n) (hc:i < c) :
   (execOp a.eval ⟨some d,.slice t x (some lo) none none,ty,pos,af,g⟩).run P w = .ok (.value (.slice (some ⟨b,o+i * sz,none⟩) (n - i) (c - i))) w:=by
 have he:P.elem t=e:=by simp [Program.elem,ht]
 have h1:=run_slice_l (P:=P) w t (some ⟨b,o,none⟩) n c (elem_of ht) k' (i:Int) (by omega) (by omega)
 rw [he,hz] at h1
 have h3:(Instr.slice t (.slice (some ⟨b,o,none⟩) n c) (some (.int k' (i:Int))) none none).run P w = .ok (.slice (some ⟨b,o+i * sz,none⟩) (n - i) (c - i)) w:=by
   rw [h1]
   simp only [Result.andThen_ok,sliced,Int.toNat_natCast]
   rw [if_neg (by omega)]
   simp [Addr.add_mid]
 simp only [execOp,Option.map_some,Option.map_none,F.eval hx,F.eval hl,Sem.run_bind,run_sliceAt_slice w t _ _ _ none (elem_of ht),h3]
 rfl
theorem sSlL {t e:TypeId} {x lo:Operand} {b o n c i sz:Nat} {k':IntKind} (ht:P.underlying t=some (.slice e)) (hz:∀ w,(sizeOf e).run P w = .ok sz w) (F:Has N a env) (hg:wants l env g=true) (hN:Nat.blt d N=true) (hx:ev env x=some (.slice (some ⟨b,o,none⟩) n c)) (hl:ev env lo=some (.int k' (i:Int))) (hi:i≤n) (hc:i < c)
   (K:∀ a,Has N a ((d,.slice (some ⟨b,o+i * sz,none⟩) (n - i) (c - i)) :: env)→wpList P l.toArray Q rest a w):wpList P l.toArray Q (⟨some d,.slice t x (some lo) none none,ty,pos,af,g⟩ :: rest) a w:=
 stepV F hg rfl hN (rSlL ht hz F hx hl hi hc) K
end
section
variable {P:Program} {t:TypeId} {x y:Operand} {n m:Nat}
end
theorem Own.turned {w0 w w':World} {row:Option Nat} {rs:List Res} {b:Nat} {cs cs':List Value} {t:TypeId} (H:Own w0 row w rs) (i:Nat) (hi:rs[i]? = some (.blk b cs t)) (H2:Own w (some b) w' [.blk b cs' t]):Own w0 row w' (rs.set i (.blk b cs' t)) where
 grown:=by
   have hb:=H.foot i _ hi b rfl
   refine ⟨?_,?_,?_,Nat.le_trans H.grown.size H2.grown.size,fun j hj hne=>?_⟩
   · rw [H2.grown.os,H.grown.os]
   · rw [H2.grown.tape,H.grown.tape]
   · rw [H2.grown.output,H.grown.output]
   · rw [H2.grown.block j (Nat.lt_of_lt_of_le hj H.grown.size) (fun e=>by
       cases e
       rcases hb.1 with h | h
       · omega
       · exact hne h),H.grown.block j hj hne]
 pred:=fun j r hj=>by
   rw [List.getElem?_set] at hj
   split at hj
   · split at hj
     · cases hj;exact H2.pred 0 _ rfl
     · cases hj
   · rename_i hne
     refine r.loc w w' (fun c hc=>?_) (H.pred j r hj)
     have hcb:=H.foot j r hj c hc
     refine H2.grown.block c hcb.2 (fun e=>?_)
     have e:c=b:=Option.some.inj e
     exact H.apart j i r _ hj hi (fun e=>hne e.symm) c hc e
 foot:=fun j r hj c hc=>by
   rw [List.getElem?_set] at hj
   split at hj
   · split at hj
     · cases hj
       exact ⟨(H.foot i _ hi c hc).1,Nat.lt_of_lt_of_le (H.foot i _ hi c hc).2 H2.grown.size⟩
     · cases hj
   · exact ⟨(H.foot j r hj c hc).1,Nat.lt_of_lt_of_le (H.foot j r hj c hc).2 H2.grown.size⟩
 apart:=fun j k r s hj hk hjk c hc hs=>by
   have key:∀ (j:Nat) (r:Res),(rs.set i (.blk b cs' t))[j]? = some r→∃ r',rs[j]? = some r'∧∀ c,r.foot c ↔ r'.foot c:=fun j r hj=>by
     rw [List.getElem?_set] at hj
     split at hj
     · rename_i e
       split at hj
       · cases hj;subst e;exact ⟨_,hi,fun c=>Iff.rfl⟩
       · cases hj
     · exact ⟨r,hj,fun c=>Iff.rfl⟩
   obtain ⟨r',h1,h2⟩:=key j r hj
   obtain ⟨s',h3,h4⟩:=key k s hk
   exact H.apart j k r' s' h1 h3 hjk c ((h2 c).1 hc) ((h4 c).1 hs)
-- VcZ
open Go.RowKit
section
variable {P:Program} {l:List Oper} {Q:Exit→Act→World→Prop} {N:Nat} {a:Act} {env:List (Nat × Value)} {rest:List Oper} {d:Tmp} {ty:TypeId} {pos:String} {af:Array Edge} {g:Option (Nat × Bool)}
 {w0 w:World} {row:Option Nat} {rs:List Res} {Kt:Act→World→Prop}
theorem Own.fuse {r s:Res} (H:Own w0 row w (r :: s :: rs)) (r':Res) (hp:r'.pred w) (hf:∀ b,r'.foot b→r.foot b∨s.foot b):Own w0 row w (r' :: rs) where
 grown:=H.grown
 pred:=fun i q hi=>by
   cases i with
   | zero=>cases hi;exact hp
   | succ i=>exact H.pred (i+2) q hi
 foot:=fun i q hi b hb=>by
   cases i with
   | zero=>
     cases hi
     rcases hf b hb with h | h
     · exact H.foot 0 r rfl b h
     · exact H.foot 1 s rfl b h
   | succ i=>exact H.foot (i+2) q hi b hb
 apart:=fun i j q u hi hj hij b h1 h2=>by
   cases i with
   | zero=>
     cases hi
     cases j with
     | zero=>exact hij rfl
     | succ j=>
       rcases hf b h1 with h | h
       · exact H.apart 0 (j+2) r u rfl hj (by omega) b h h2
       · exact H.apart 1 (j+2) s u rfl hj (by omega) b h h2
   | succ i=>
     cases j with
     | zero=>
       cases hj
       rcases hf b h2 with h | h
       · exact H.apart 0 (i+2) r q rfl hi (by omega) b h h1
       · exact H.apart 1 (i+2) s q rfl hi (by omega) b h h1
     | succ j=>exact H.apart (i+2) (j+2) q u hi hj (by omega) b h1 h2
theorem Own.void (H:Own w0 row w rs) (r:Res) (hp:r.pred w) (hf:∀ b,¬ r.foot b):Own w0 row w (r :: rs):=
 H.add r (Below.refl _ _) hp (fun b hb=>absurd hb (hf b))
theorem Own.seen {r:Res} (H:Own w0 row w (r :: rs)) (r':Res) (hp:r'.pred w) (hf:∀ b,r'.foot b→r.foot b):Own w0 row w (r' :: rs):=
 (H.void ⟨fun _=>False,fun _=>True,fun _ _ _ _=>trivial⟩ trivial (fun _ h=>h)).fuse r' hp (fun b hb=>.inr (hf b hb))
theorem Own.emptyRws {b:Nat} {e:TypeId} (H:Own w0 row w (.blk b [] e :: rs)) (sz:Nat):Own w0 row w (.rws e sz (.slice (some ⟨b,0,.none⟩) 0 0) [] :: rs):=
 H.seen _ (show w.ownsRow 0 e sz (.slice (some ⟨b,0,.none⟩) 0 0) 0 [] from ⟨by simp,.inr ⟨b,0,#[],rfl,Nat.zero_le _,H.blk 0 rfl,Nat.le_refl _,Nat.zero_le _,by simp,by simp⟩⟩)
   (fun c hc=>by
     have:b=c:=by simpa [Res.rws,Res.arr,Value.ownBlock] using hc
     exact this.symm)
theorem appM_run {t e:TypeId} {v:Value} {rows news:List (List Value)} {ad:Addr} {m c:Nat} {ti:TypeInfo} {z:Value} {sz bytes:Nat} (H:Own w0 row w rs) (i:Nat) (ht:P.underlying t=some (.slice e))
   (hi:∀ w,(typeInfo e).run P w = .ok ti w) (hz:ti.zero=some z) (hsize:ti.size=sz) (hby:ti.bytes=bytes) (hzs:z.cells.size=sz) (hsz:Nat.blt 0 sz=true) (hb1:Nat.blt 0 bytes=true)
   (hr:rs[i]? = some (.rws e sz v rows)) (hm:news.length=m) (hnews:∀ j u,news.flatten[j]? = some u→w.cell? (ad.add j)=some u) (hl:∀ r ∈ news,r.length=sz) (h1:∀ r ∈ news,r.all (·.oneCell')=true) (hb:(rows.length+m) * bytes≤140737488355328) (ty:TypeId) :
   ∃ A c' w',(Builtin.append_ #[t,t] ty #[v,.slice (some ad) m c]).run P w = .ok (.slice A (rows++news).length c') w'∧Own w0 row w' (rs.set i (.rws e sz (.slice A (rows++news).length c') (rows++news))):=by
 have hsz':=Nat.blt_eq.mp hsz
 have hb1':=Nat.blt_eq.mp hb1
 have hfl:∀ (q:List (List Value)),(∀ r ∈ q,r.length=sz)→q.flatten.length=q.length * sz:=by
   intro q hq
   induction q with
   | nil=>simp
   | cons r0 rest ih=>rw [List.flatten_cons,List.length_append,ih (fun r hm=>hq r (by simp [hm])),hq r0 (by simp),List.length_cons,Nat.add_mul];omega
 have hlen:rows.length+m≤140737488355328:=Nat.le_trans (Nat.le_mul_of_pos_right _ hb1') hb
 obtain ⟨v',w',hrun,hown,hgr,_,hat⟩:=run_append_own_at (P:=P) w 0 t ty e ti z sz bytes ht (info_of hi) hz hsize hby hzs hsz' v rows.length rows.flatten (H.arr i hr) ad m c news.flatten (by rw [hfl news hl,hm])
   hnews (fun u hu=>by
     obtain ⟨r,hr1,hr2⟩:=List.mem_flatten.1 hu
     exact (List.all_eq_true.1 (h1 r hr1)) u hr2) (by simp only [maxLen];omega) hb (Nat.zero_le _)
 have e1:(rows++news).length=rows.length+m:=by rw [List.length_append,hm]
 obtain ⟨A,c',rfl⟩:∃ A c',v' = .slice A (rows++news).length c':=by
   rcases hown.2 with ⟨h2,h3⟩ | ⟨g,cap,cur,h2,_⟩
   · exact ⟨none,0,by rw [e1,h3];exact h2⟩
   · exact ⟨_,cap,by rw [e1];exact h2⟩
 refine ⟨A,c',w',hrun,?_⟩
 have hlt:∀ k,(Value.slice A (rows++news).length c').ownBlock=some k→k < w'.heap.size:=fun k hk=>(hown.lt k hk).2
 refine H.turn i hr _ ?_ hgr.size (fun b hb hnb=>hgr.block b hb (fun e=>hnb (show v.ownBlock=some b from e.symm))) ?_ ?_
 · refine ⟨hgr.os.trans H.grown.os,hgr.tape.trans H.grown.tape,hgr.output.trans H.grown.output,Nat.le_trans H.grown.size hgr.size,fun k hk hne=>?_⟩
   refine (hgr.block k (Nat.lt_of_lt_of_le hk H.grown.size) (fun e=>?_)).trans (H.grown.block k hk hne)
   rcases (H.foot i _ hr k (show v.ownBlock=some k from e.symm)).1 with h | h
   · exact absurd hk (by omega)
   · exact hne h
 · show w'.ownsRow 0 e sz _ (rows++news).length (rows++news).flatten
   rw [List.flatten_append];rw [e1] at hown ⊢
   exact hown
 · intro b hb
   have hb:(Value.slice A (rows++news).length c').ownBlock=some b:=hb
   refine ⟨?_,hlt b hb⟩
   rcases hat with h | h
   · exact .inl (show v.ownBlock=some b from h ▸ hb)
   · rw [hb] at h
     cases h
     exact .inr (Nat.le_refl _)
theorem sAppM {t e:TypeId} {s x:Operand} {v:Value} {rows news:List (List Value)} {ad:Addr} {m c:Nat} {ti:TypeInfo} {z:Value} {sz bytes:Nat} (H:Own w0 row w rs) (i:Nat) (ht:P.underlying t=some (.slice e))
   (hi:∀ w,(typeInfo e).run P w = .ok ti w) (hz:ti.zero=some z) (hsize:ti.size=sz) (hby:ti.bytes=bytes) (hzs:z.cells.size=sz) (hsz:Nat.blt 0 sz=true) (hb1:Nat.blt 0 bytes=true)
   (F:Has N a env) (hg:wants l env g=true) (hN:Nat.blt d N=true) (hs:ev env s=some v) (hx:ev env x=some (.slice (some ad) m c))
   (hr:rs[i]? = some (.rws e sz v rows)) (hm:news.length=m) (hnews:∀ j u,news.flatten[j]? = some u→w.cell? (ad.add j)=some u) (hl:∀ r ∈ news,r.length=sz) (h1:∀ r ∈ news,r.all (·.oneCell')=true) (hb:(rows.length+m) * bytes≤140737488355328)
   (K:∀ A c a w,Has N a ((d,.slice A (rows++news).length c) :: env)→Own w0 row w (rs.set i (.rws e sz (.slice A (rows++news).length c) (rows++news)))→wpList P l.toArray Q rest a w) :
   wpList P l.toArray Q (⟨some d,.call ⟨.builtin .append,#[s,x],#[t,t]⟩,ty,pos,af,g⟩ :: rest) a w:=by
 obtain ⟨A,c',w',h2,h3⟩:=appM_run (P:=P) (c:=c) H i ht hi hz hsize hby hzs hsz hb1 hr hm hnews hl h1 hb ty
 exact stepV F hg rfl hN (app_exec (ty':=ty) F hs hx h2) (fun a F'=>K A c' a w' F' h3)
theorem bNil {t e:TypeId} {x y:Operand} {A:Option Addr} {n c:Nat} (ht:P.underlying t=some (.slice e)):BinR P .eql t x y (.slice A n c) (.slice none 0 0) (.bool A.isNone):=fun w=>by
 have h0:(eqGuard .eql t x y (.slice A n c) (.slice none 0 0)).run P w = .ok () w:=by
   simp [eqGuard,run_underlying ht,go_sem]
 cases A with
 | none=>simp only [Sem.run_bind,h0,Result.andThen_ok];exact Lib.run_eql_slice_nil_nil w _ _ ht
 | some a=>simp only [Sem.run_bind,h0,Result.andThen_ok];exact Lib.run_eql_slice_some_nil w a _ _ ht
theorem bRetC1 {fn:Func} {R:Ending→World→Prop} {t u:Tmp} {st:TypeId} {b n:Nat} {cs:List Value} {bt:TypeId} {dd:TypeDesc} {y:Value} (hres:fn.results = #[.cell t st,.tmp u]) (F:Has N a env) (hv:lk env t=some (.pointer (some ⟨b,0,.none⟩))) (hy:lk env u=some y)
   (hu:P.underlying st=some dd) (hdd:dd.isRow=true) (H:Own w0 row w rs) (i:Nat) (hi:rs[i]? = some (.blk b cs bt)) (hz:∀ w,(sizeOf st).run P w = .ok n w) (hn:Nat.beq cs.length n=true) (h:R (.returned (.tuple #[.agg cs.toArray,y])) w):bodyPost P fn R .ret a w:=
 bodyPost_ret (results_own_tmp hres F hv hy hu hdd (by rw [Nat.eq_of_beq_eq_true hn];exact info_size hz) (H.blk i hi)) F.nod h
theorem RowsAt.flat {w:World} {A:Addr} {sz:Nat} {rows:List (List Value)} (h:RowsAt w (some A) sz rows) (hl:∀ r ∈ rows,r.length=sz):∀ j u,rows.flatten[j]? = some u→w.cell? (A.add j)=some u:=by
 have key:∀ (rows:List (List Value)) (o:Nat),(∀ r ∈ rows,r.length=sz)→(∀ (j:Nat) (cs:List Value),rows[j]? = some cs→∃ b off,A=⟨b,off,none⟩∧w.rangeAt b (off+(o+j) * sz) cs)→∀ j u,rows.flatten[j]? = some u→w.cell? (A.add (o * sz+j))=some u:=by
   intro rows
   induction rows with
   | nil=>intro o _ _ j u hu;simp at hu
   | cons r rest ih=>
     intro o hl h j u hu
     have hr:r.length=sz:=hl r (by simp)
     rw [List.flatten_cons] at hu
     rcases Nat.lt_or_ge j r.length with hj | hj
     · rw [List.getElem?_append_left hj] at hu
       obtain ⟨b,off,rfl,h2⟩:=h 0 r rfl
       have:=h2 j u hu
       rw [Addr.add_mid,← Nat.add_assoc]
       simpa using this
     · rw [List.getElem?_append_right hj] at hu
       have:=ih (o+1) (fun r hm=>hl r (by simp [hm])) (fun k cs hk=>by
         obtain ⟨b,off,h1,h2⟩:=h (k+1) cs hk
         exact ⟨b,off,h1,by rw [show o+1+k=o+(k+1) by omega];exact h2⟩) (j - r.length) u hu
       rw [Nat.add_mul,Nat.one_mul,← hr,Nat.add_assoc,show r.length+(j - r.length)=j by omega] at this;rw [← hr]
       exact this
 intro j u hu
 have:=key rows 0 hl (fun k cs hk=>by
   obtain ⟨b,off,h1,h2⟩:=h k cs hk
   exact ⟨b,off,Option.some.inj h1,by rw [Nat.zero_add];exact h2⟩) j u hu
 simpa using this
end
-- KtB
open Go.RowKit
variable {P:Program} {l:List Oper} {Q:Exit→Act→World→Prop} {N:Nat} {a:Act} {env:List (Nat × Value)} {rest:List Oper} {d:Tmp} {ty:TypeId} {pos:String} {af:Array Edge} {g:Option (Nat × Bool)}
 {w0 w:World} {row:Option Nat} {rs:List Res} {Kt:Act→World→Prop}
theorem app_none {t e ty:TypeId} {i:TypeInfo} {size n c:Nat} {v:Value} {xs:List Value} (ht:P.underlying t=some (.slice e)) (hi:P.info? e=some i) (ho:w.ownsRow 0 e size v n xs) :
   (Builtin.append_ #[t,t] ty #[v,.slice none 0 c]).run P w = .ok v w:=by
 rcases ho.2 with ⟨h1,h2⟩ | ⟨g,cap,cur,h1,_,_,hnc,_⟩
 · subst h1
   simp [Builtin.append_,run_underlying ht,sizeOf,typeInfo,hi,Builtin.lenOf,Builtin.firstCells]
 · subst h1
   simp [Builtin.append_,run_underlying ht,sizeOf,typeInfo,hi,Builtin.lenOf,Builtin.firstCells,hnc,storeCells]
theorem appO_run {t e:TypeId} {v:Value} {rows news:List (List Value)} {A0:Option Addr} {m c:Nat} {ti:TypeInfo} {z:Value} {sz bytes:Nat} (H:Own w0 row w rs) (i:Nat) (ht:P.underlying t=some (.slice e))
   (hi:∀ w,(typeInfo e).run P w = .ok ti w) (hz:ti.zero=some z) (hsize:ti.size=sz) (hby:ti.bytes=bytes) (hzs:z.cells.size=sz) (hsz:Nat.blt 0 sz=true) (hb1:Nat.blt 0 bytes=true)
   (hr:rs[i]? = some (.rws e sz v rows)) (hm:news.length=m) (hnews:RowsAt w A0 sz news) (hl:∀ r ∈ news,r.length=sz) (h1:∀ r ∈ news,r.all (·.oneCell')=true) (hb:(rows.length+m) * bytes≤140737488355328) (ty:TypeId) :
   ∃ A c' w',(Builtin.append_ #[t,t] ty #[v,.slice A0 m c]).run P w = .ok (.slice A (rows++news).length c') w'∧Own w0 row w' (rs.set i (.rws e sz (.slice A (rows++news).length c') (rows++news))):=by
 cases A0 with
 | some ad=>exact appM_run H i ht hi hz hsize hby hzs hsz hb1 hr hm (hnews.flat hl) hl h1 hb ty
 | none=>
   obtain rfl:news=[]:=by
     cases news with
     | nil=>rfl
     | cons r rs=>
       obtain ⟨b,o,he,_⟩:=hnews 0 r rfl
       cases he
   obtain rfl:0=m:=hm
   have ho:=H.arr i hr
   have h2:=app_none (ty:=ty) (c:=c) ht (info_of hi) ho
   obtain ⟨A,c',rfl⟩:∃ A c',v = .slice A rows.length c':=by
     rcases ho.2 with ⟨h2,h3⟩ | ⟨g,cap,cur,h2,_⟩
     · exact ⟨none,0,by rw [h3];exact h2⟩
     · exact ⟨_,cap,h2⟩
   have e2:rs.set i (.rws e sz (.slice A rows.length c') rows)=rs:=by
     obtain ⟨hi2,he⟩:=List.getElem?_eq_some_iff.1 hr
     rw [← he]
     exact List.set_getElem_self hi2
   refine ⟨A,c',w,?_,?_⟩
   · rw [List.append_nil];exact h2
   · rw [List.append_nil,e2];exact H
theorem sAppO {t e:TypeId} {s x:Operand} {v:Value} {rows news:List (List Value)} {A0:Option Addr} {m c:Nat} {ti:TypeInfo} {z:Value} {sz bytes:Nat} (H:Own w0 row w rs) (i:Nat) (ht:P.underlying t=some (.slice e))
   (hi:∀ w,(typeInfo e).run P w = .ok ti w) (hz:ti.zero=some z) (hsize:ti.size=sz) (hby:ti.bytes=bytes) (hzs:z.cells.size=sz) (hsz:Nat.blt 0 sz=true) (hb1:Nat.blt 0 bytes=true)
   (F:Has N a env) (hg:wants l env g=true) (hN:Nat.blt d N=true) (hs:ev env s=some v) (hx:ev env x=some (.slice A0 m c))
   (hr:rs[i]? = some (.rws e sz v rows)) (hm:news.length=m) (hnews:RowsAt w A0 sz news) (hl:∀ r ∈ news,r.length=sz) (h1:∀ r ∈ news,r.all (·.oneCell')=true) (hb:(rows.length+m) * bytes≤140737488355328)
   (K:∀ A c a w,Has N a ((d,.slice A (rows++news).length c) :: env)→Own w0 row w (rs.set i (.rws e sz (.slice A (rows++news).length c) (rows++news)))→wpList P l.toArray Q rest a w) :
   wpList P l.toArray Q (⟨some d,.call ⟨.builtin .append,#[s,x],#[t,t]⟩,ty,pos,af,g⟩ :: rest) a w:=by
 obtain ⟨A,c',w',h2,h3⟩:=appO_run (P:=P) (c:=c) H i ht hi hz hsize hby hzs hsz hb1 hr hm hnews hl h1 hb ty
 exact stepV F hg rfl hN (app_exec (ty':=ty) F hs hx h2) (fun a F'=>K A c' a w' F' h3)
theorem oAppO {t e:TypeId} {s x:Operand} {v:Value} {rows news:List (List Value)} {A0:Option Addr} {m c:Nat} {ti:TypeInfo} {z:Value} {sz bytes:Nat} (H:Own w0 row w rs) (i:Nat) (ht:P.underlying t=some (.slice e))
   (hi:∀ w,(typeInfo e).run P w = .ok ti w) (hz:ti.zero=some z) (hsize:ti.size=sz) (hby:ti.bytes=bytes) (hzs:z.cells.size=sz) (hsz:Nat.blt 0 sz=true) (hb1:Nat.blt 0 bytes=true)
   (F:Has N a env) (hN:Nat.blt d N=true) (hs:ev env s=some v) (hx:ev env x=some (.slice A0 m c))
   (hr:rs[i]? = some (.rws e sz v rows)) (hm:news.length=m) (hnews:RowsAt w A0 sz news) (hl:∀ r ∈ news,r.length=sz) (h1:∀ r ∈ news,r.all (·.oneCell')=true) (hb:(rows.length+m) * bytes≤140737488355328)
   (K:∀ A c a w,Has N a ((d,.slice A (rows++news).length c) :: env)→Own w0 row w (rs.set i (.rws e sz (.slice A (rows++news).length c) (rows++news)))→Kt a w) :
   (Oper.mk (some d) (.call ⟨.builtin .append,#[s,x],#[t,t]⟩) ty pos af g).wp P a w Kt Q:=by
 obtain ⟨A,c',w',h2,h3⟩:=appO_run (P:=P) (c:=c) H i ht hi hz hsize hby hzs hsz hb1 hr hm hnews hl h1 hb ty
 exact oV F rfl hN (app_exec (ty':=ty) F hs hx h2) (fun a F'=>K A c' a w' F' h3)
-- RnJ
open Go.Proofs.Tryz
open Go.RowKit
set_option maxRecDepth 100000
theorem run_append_make {P:Program} {w:World} (t ti ty e:TypeId) (i:TypeInfo) (z:Value) (k:IntKind) (ht:P.underlying t=some (.slice e)) (hu:P.underlying ti=some (.int k)) (hi:∀ w,(typeInfo e).run P w = .ok i w) (hz:i.zero=some z) (n:Nat) (hs:i.size ≠ 0) (h0:0 < n) (h63:(n:Int)≤9223372036854775807) (h48:n * i.bytes≤281474976710656) :
   (Builtin.append_ #[t,ti] ty #[.slice none 0 0,.int .i64 (n:Int)]).run P w = .ok (.slice (some ⟨w.heap.size,0,none⟩) n (grownCap w n 0 e)) (w.drew.alloc (.cells (Builtin.zeroCells z.cells n++Builtin.zeroCells z.cells (grownCap w n 0 e - n)) e)):=by
 have hn:n ≠ 0:=by omega
 have h63':¬ (9223372036854775807 < (n:Int)):=by omega
 have h48':¬ (281474976710656 < Builtin.nextslicecap n 0 * i.bytes):=by rw [nextslicecap_zero h0];omega
 have h48i:¬ (281474976710656 < (n:Int) * (i.bytes:Int)):=by
   have:((n * i.bytes:Nat):Int)≤281474976710656:=by omega
   rw [Int.natCast_mul] at this;omega
 have hw:IntKind.i64.wrap (n:Int)=n:=by simp [IntKind.wrap,IntKind.bits,IntKind.signed];omega
 have hmax:max (n:Int) 0=n:=by omega
 have hle:¬ ((n:Int)≤0):=by omega
 have hneg:¬ ((n:Int) < 0):=by omega
 have hns:n * i.size ≠ 0:=by
   intro h
   rcases Nat.mul_eq_zero.1 h with h | h
   · exact hn h
   · exact hs h
 simp [Builtin.append_,run_underlying ht,run_underlying hu,sizeOf,zeroValue,hi,hz,Builtin.lenOf,hn,h63',h48',h48i,hw,hneg,hns,hs,Question.forced,run_firstCells_none,newRow,grownCap,asInt,asIntOf,hmax,hle]
theorem zeroCells_size (z:Array Value) (n:Nat):(Builtin.zeroCells z n).size=n * z.size:=by simp [Builtin.zeroCells]
theorem own_made {w0 w:World} {row:Option Nat} {rs:List Res} {e:TypeId} {sz c:Nat} {arr:Array Value} (H:Own w0 row w rs) (hc:c≤maxLen) (ha:arr.size=c * sz):Own w0 row (w.drew.alloc (.cells arr e)) (.rws e sz (.slice (some ⟨w.heap.size,0,none⟩) 0 c) [] :: rs):=by
 have H0:Own w0 row w.drew rs:=⟨only_drew H.grown,fun i r h=>r.loc w w.drew (fun _ _=>rfl) (H.pred i r h),H.foot,H.apart⟩
 refine H0.add _ ((Below.refl _ _).alloc (Nat.le_refl _) _) ?_ ?_
 · exact World.ownsRow_made (w:=w.drew) (e:=e) (size:=sz) (base:=0) arr c (Nat.zero_le _) hc ha
 · intro b hb
   have hb:Value.ownBlock (.slice (some ⟨w.heap.size,0,none⟩) 0 c)=some b:=hb
   simp only [Value.ownBlock,Option.some.injEq] at hb
   subst hb
   exact ⟨Nat.le_refl _,by simp⟩
section
variable {P:Program} {l:List Oper} {Q:Exit→Act→World→Prop} {N:Nat} {a:Act} {env:List (Nat × Value)} {rest:List Oper} {d:Tmp} {ty:TypeId} {pos:String} {af:Array Edge} {g:Option (Nat × Bool)} {w0 w:World} {row:Option Nat} {rs:List Res}
theorem rCap {t:TypeId} {x:Operand} {A:Option Addr} {n c:Nat} {e:TypeId} (ht:P.underlying t=some (.slice e)) (F:Has N a env) (hx:ev env x=some (.slice A n c)):(execOp a.eval ⟨some d,.call ⟨.builtin .cap,#[x],#[t]⟩,ty,pos,af,g⟩).run P w = .ok (.value (.int .i64 (c:Int))) w:=
 (by
   simp only [execOp,resolve,List.map_toArray,List.map_cons,List.map_nil,F.eval hx]
   simp [invoke,builtin,Builtin.cap_,run_underlying ht,goInt,go_sem])
theorem sCap {t:TypeId} {x:Operand} {A:Option Addr} {n c:Nat} {e:TypeId} (ht:P.underlying t=some (.slice e)) (F:Has N a env) (hg:wants l env g=true) (hN:Nat.blt d N=true) (hx:ev env x=some (.slice A n c))
   (K:∀ a,Has N a ((d,.int .i64 (c:Int)) :: env)→wpList P l.toArray Q rest a w):wpList P l.toArray Q (⟨some d,.call ⟨.builtin .cap,#[x],#[t]⟩,ty,pos,af,g⟩ :: rest) a w:=
 stepV F hg rfl hN (rCap ht F hx) K
theorem qCap {t:TypeId} {x:Operand} {A:Option Addr} {n c:Nat} {e:TypeId} (ht:P.underlying t=some (.slice e)) (hg:wants l env g=true) (hN:Nat.blt d N=true) (hx:ev env x=some (.slice A n c)) (K:∀ a,Has N a ((d,.int .i64 (c:Int)) :: env)→wpList P l.toArray Q rest a w):∀ a,Has N a env→wpList P l.toArray Q (⟨some d,.call ⟨.builtin .cap,#[x],#[t]⟩,ty,pos,af,g⟩ :: rest) a w:=fun a F=>sCap ht F hg hN hx K
theorem sMkApp {t tx e:TypeId} {s x:Operand} {n:Nat} {ti:TypeInfo} {z:Value} {k:IntKind} {sz bytes:Nat} (H:Own w0 row w rs) (ht:P.underlying t=some (.slice e)) (hu:P.underlying tx=some (.int k)) (hi:∀ w,(typeInfo e).run P w = .ok ti w) (hz:ti.zero=some z) (hsize:ti.size=sz) (hby:ti.bytes=bytes) (hzs:z.cells.size=sz) (hsz:Nat.blt 0 sz=true)
   (F:Has N a env) (hg:wants l env g=true) (hN:Nat.blt d N=true) (hs:ev env s=some (.slice none 0 0)) (hx:ev env x=some (.int .i64 (n:Int))) (h0:0 < n) (h63:(n:Int)≤9223372036854775807) (h48:n * bytes≤281474976710656)
   (K:∀ b c a w,n≤c→Has N a ((d,.slice (some ⟨b,0,none⟩) n c) :: env)→Own w0 row w (.rws e sz (.slice (some ⟨b,0,none⟩) 0 c) [] :: rs)→wpList P l.toArray Q rest a w) :
   wpList P l.toArray Q (⟨some d,.call ⟨.builtin .append,#[s,x],#[t,tx]⟩,ty,pos,af,g⟩ :: rest) a w:=by
 subst hsize hby
 have hap:=run_append_make (P:=P) (w:=w) t tx ty e ti z k ht hu hi hz n (by have h1:=hsz;rw [Nat.blt_eq] at h1;omega) h0 h63 h48
 have hge:=grownCap_ge w n 0 e
 have hcm:=grownCap_le_maxLen w n 0 e (by simp only [maxLen];omega)
 have hr:(execOp a.eval ⟨some d,.call ⟨.builtin .append,#[s,x],#[t,tx]⟩,ty,pos,af,g⟩).run P w = .ok (.value (.slice (some ⟨w.heap.size,0,none⟩) n (grownCap w n 0 e))) (w.drew.alloc (.cells (Builtin.zeroCells z.cells n++Builtin.zeroCells z.cells (grownCap w n 0 e - n)) e)):=by
   simp only [execOp,resolve,invoke,builtin,Sem.run_bind,Sem.run_pure,Result.andThen_ok,List.map_toArray,List.map_cons,List.map_nil,F.eval hs,F.eval hx,hap]
 refine stepV F hg rfl hN hr (fun a F'=>K _ _ a _ hge F' (own_made H hcm ?_));rw [Array.size_append,zeroCells_size,zeroCells_size,hzs,← Nat.add_mul]
 congr 1
 omega
end
theorem grow_any (n:Nat) (hn:n≤65536) (w0:World) :
   Calls Tryz.prog 136 #[.slice none 0 0,.int .i64 (n:Int)] w0 fun e w'=>∃ A c,e = .returned (.slice A 0 c)∧Own w0 none w' [.rws 47 38 (.slice A 0 c) []]:=by
 have H:=Own.start w0 none
 refine enterF func136 rfl ntmps136 rfl (fun a F=>?_);refine cSR fun K1 hK1=>sAs F rfl rfl rfl (qNK hK1 ?_);clear hK1;clear F a;intro a F;refine cSeq (fun K2 hK2=>?_);refine cSR fun K3 hK3=>sMv F rfl rfl rfl (qBin rfl rfl rfl rfl bLss (qNK hK3 ?_));clear hK3;clear F a;intro a F
 refine cIf F rfl (fun h6=>?_) (fun h6=>?_)
 ·
  replace h6:=of_decide_eq_true h6
  exact absurd h6 (by omega)
 replace h6:=of_decide_eq_false h6;refine wp_skip (hK2 _ _ ?_);clear hK2;refine cSeq (fun K4 hK4=>?_);refine cSR fun K5 hK5=>sMv F rfl rfl rfl (qMv rfl rfl rfl (qCap underlying30 rfl rfl rfl (qMv rfl rfl rfl (qLen underlying30 rfl rfl rfl ?_))));clear F a;intro a F
 refine sBin F rfl rfl rfl rfl (bSubI ?_) ?_
 focus omega
 clear F a;intro a F
 refine sBin F rfl rfl rfl rfl (bSubI ?_) ?_
 focus omega
 clear F a;intro a F;refine sAs F rfl rfl rfl (qNK hK5 (qSR fun K6 hK6=>qMv rfl rfl rfl (qBin rfl rfl rfl rfl bGtr (qNK hK6 ?_))));clear hK5 hK6;clear F a;intro a F
 refine cIf F rfl (fun h16=>?_) (fun h16=>?_)
 ·
  replace h16:=of_decide_eq_true h16;refine cReg (sMv F rfl rfl rfl (qMv rfl rfl rfl (qCap underlying30 rfl rfl rfl ?_)));clear F a;intro a F
  refine sSlH underlying30 (fun w=>⟨_,sizeOf47 w⟩) F rfl rfl rfl rfl ?_ ?_
  focus (first | omega | decide | (simp;omega))
  clear F a;intro a F;refine sMv F rfl rfl rfl ?_;clear F a;intro a F;refine sMkApp (n:=n) (bytes:=38) H underlying30 underlying3 typeInfo47 rfl rfl rfl rfl rfl F rfl rfl rfl rfl (by omega) (by omega) (by omega) ?_;clear F a H;intro A22 c22 a w hc22 F H;refine sMv F rfl rfl rfl (qLen underlying30 rfl rfl rfl ?_);clear F a;intro a F
  refine sSlH underlying30 (fun w=>⟨_,sizeOf47 w⟩) F rfl rfl rfl rfl ?_ ?_
  focus (first | omega | decide | (simp;omega))
  clear F a;intro a F;refine sAs F rfl rfl rfl (qNK hK4 (qSR fun K7 hK7=>qMv rfl rfl rfl (qAs rfl rfl rfl (qNK hK7 ?_))));clear hK4 hK7;clear F a;intro a F;refine wp_ret ?_;refine bRet results136 F rfl ?_
  first
  | exact ⟨_,_,rfl,H.pick 0 rfl⟩
  | exact ⟨none,0,rfl,(H.nilRws 47 38).pick 0 rfl⟩
 replace h16:=of_decide_eq_false h16;refine wp_skip (hK4 _ _ (cSR fun K8 hK8=>sMv F rfl rfl rfl (qAs rfl rfl rfl (qNK hK8 ?_))));clear hK4 hK8;clear F a;intro a F;refine wp_ret ?_;refine bRet results136 F rfl ?_
 first
 | exact ⟨_,_,rfl,H.pick 0 rfl⟩
 | exact ⟨none,0,rfl,(H.nilRws 47 38).pick 0 rfl⟩
theorem bs38_one (l:List By):∀ r ∈ l.map (bs 38),r.all (·.oneCell')=true:=fun r hr=>by
 obtain ⟨s,_,rfl⟩:=List.mem_map.1 hr
 rw [bs_map,List.all_eq_true]
 intro v hv
 obtain ⟨x,_,rfl⟩:=List.mem_map.1 hv
 rfl
theorem bs38_len (l:List By):∀ r ∈ l.map (bs 38),r.length=38:=fun r hr=>by
 obtain ⟨s,_,rfl⟩:=List.mem_map.1 hr
 exact bs_length _ _
theorem concat_any (bx ox cx:Nat) (A0:Option Addr) (C0:Nat) (l:List By) (w0:World) (hx:w0.rangeAt bx ox [.slice A0 l.length C0]) (hR:RowsAt w0 A0 38 (l.map (bs 38))) (hl:l.length≤65536) :
   Calls Tryz.prog 97 #[.slice (some ⟨bx,ox,none⟩) 1 cx] w0 fun e w'=>∃ A c,e = .returned (.slice A l.length c)∧Own w0 none w' [.rws 47 38 (.slice A l.length c) (l.map (bs 38))]:=by
 have H:=Own.start w0 none
 have hx0:w0.cell? ⟨bx,ox,none⟩=some (.slice A0 l.length C0):=by simpa using hx 0 _ rfl
 refine enterF func97 rfl ntmps97 rfl (fun a F=>?_);refine cSR fun K1 hK1=>sAs F rfl rfl rfl (qNK hK1 (qSR fun K2 hK2=>qAs rfl rfl rfl (qNK hK2 ?_)));clear hK1 hK2;clear F a;intro a F;refine cSeq (fun K3 hK3=>?_);refine cSR fun K4 hK4=>sMv F rfl rfl rfl (qLen underlying200 rfl rfl rfl (qMv rfl rfl rfl (qNK hK4 ?_)));clear hK4;clear F a;intro a F;refine wp_block ?_
 refine cLoopR [0,9,10] (fun m ups w=>∃ (j:Nat) (v:Int),m=1 - j∧ups=[(3,.int .i64 v),(11,.int .i64 ((j:Nat):Int))]∧j≤1∧(j=0→v=0)∧(1≤j→v=(l.length:Int))∧Own w0 none w []) F (1) [(3,.int .i64 0),(11,.int .i64 ((0:Nat):Int))] (by repeat (first | exact SubR.nil | (apply SubR.cons;· rfl))) ?_ ?_ ?_
 · exact ⟨0,0,rfl,rfl,by omega,fun _=>rfl,fun h=>absurd h (by omega),H⟩
 · repeat (first | exact trivial | refine Le.cons rfl ?_)
 clear F
 clear H
 intro m ups a w hI F
 obtain ⟨j,v,rfl,rfl,hj,hv0,hv1,H⟩:=hI
 refine cSR fun K5 hK5=>sBin F rfl rfl rfl rfl bLss (qNK hK5 ?_);clear hK5;clear F a;intro a F;refine cSeq (fun K6 hK6=>?_)
 refine cIf F rfl (fun h12=>?_) (fun h12=>?_)
 ·
  replace h12:=of_decide_eq_true h12
  obtain rfl:j=0:=by omega
  have hv:=hv0 rfl
  refine wp_skip (hK6 _ _ ?_);clear hK6;refine cSeq (fun K7 hK7=>?_);refine wp_block ?_;refine cSR fun K8 hK8=>?_
  refine sIx underlying200 sizeOf30 F rfl rfl rfl rfl ?_ ?_
  focus (first | omega | decide | (simp;omega))
  clear F a;intro a F;refine sLd isAgg30 F rfl rfl rfl (by simpa using H.arg hx0) (qAs rfl rfl rfl (qNK hK8 (qSR fun K9 hK9=>qMv rfl rfl rfl (qMv rfl rfl rfl (qLen underlying30 rfl rfl rfl ?_)))));clear hK8;clear F a;intro a F
  refine sBin F rfl rfl rfl rfl (bAddI ?_) ?_
  focus omega
  clear F a;intro a F;refine sAs F rfl rfl rfl (qNK hK9 (qSR fun K10 hK10=>qMv rfl rfl rfl (qBin rfl rfl rfl rfl bLss (qNK hK10 ?_))));clear hK9 hK10;clear F a;intro a F
  refine cIf F rfl (fun h20=>?_) (fun h20=>?_)
  ·
   replace h20:=of_decide_eq_true h20
   exact absurd h20 (by omega)
  replace h20:=of_decide_eq_false h20;refine wp_skip (hK7 _ _ (cReg ?_));clear hK7
  refine sBin F rfl rfl rfl rfl (bAddN (j:=1) ?_) ?_
  focus omega
  clear F a;intro a F;refine sMv F rfl rfl rfl ?_;clear F a;intro a F;refine sNil ?_
  exact ⟨_,by omega,_,⟨1,v+(l.length:Int),rfl,rfl,by omega,fun h=>absurd h (by omega),fun _=>by omega,H.sel [] rfl rfl⟩,F.to (by repeat (first | exact trivial | refine Le.cons rfl ?_))⟩
 replace h12:=of_decide_eq_false h12
 obtain rfl:j=1:=by omega
 obtain rfl:=hv1 (by omega)
 refine wp_exit ?_;refine hK3 _ _ (cSR fun K11 hK11=>sMv F rfl rfl rfl ?_);clear hK3;clear F a;intro a F;refine sCall call136 F rfl rfl rfl (grow_any l.length hl _) ?_;rintro e w ⟨AG,cG,rfl,H2⟩;replace H:=H.join H2;clear H2;refine ⟨_,rfl,?_⟩;clear F a;intro a F;refine sAs F rfl rfl rfl (qNK hK11 ?_);clear hK11;clear F a;intro a F;refine cSeq (fun K12 hK12=>?_);refine cSR fun K13 hK13=>sMv F rfl rfl rfl (qLen underlying200 rfl rfl rfl (qMv rfl rfl rfl (qNK hK13 ?_)));clear hK13;clear F a;intro a F;refine wp_block ?_
 refine cLoopR [25,26] (fun m ups w=>∃ (j:Nat) (A:Option Addr) (c:Nat) (rows:List (List Value)),m=1 - j∧ups=[(6,.slice A rows.length c),(27,.int .i64 ((j:Nat):Int))]∧j≤1∧(j=0→rows=[])∧(1≤j→rows=l.map (bs 38))∧Own w0 none w [.rws 47 38 (.slice A rows.length c) rows]) F (1) [(6,.slice AG 0 cG),(27,.int .i64 ((0:Nat):Int))] (by repeat (first | exact SubR.nil | (apply SubR.cons;· rfl))) ?_ ?_ ?_
 · exact ⟨0,AG,cG,[],rfl,rfl,by omega,fun _=>rfl,fun h=>absurd h (by omega),H.sel [0] rfl rfl⟩
 · repeat (first | exact trivial | refine Le.cons rfl ?_)
 clear F
 clear H
 intro m ups a w hI F
 obtain ⟨j,A,c,rows,rfl,rfl,hj,hr0,hr1,H⟩:=hI
 refine cSR fun K14 hK14=>sBin F rfl rfl rfl rfl bLss (qNK hK14 ?_);clear hK14;clear F a;intro a F;refine cSeq (fun K15 hK15=>?_)
 refine cIf F rfl (fun h28=>?_) (fun h28=>?_)
 ·
  replace h28:=of_decide_eq_true h28
  obtain rfl:j=0:=by omega
  obtain rfl:=hr0 rfl
  refine wp_skip (hK15 _ _ ?_);clear hK15;refine cSeq (fun K16 hK16=>?_);refine wp_block ?_;refine cSR fun K17 hK17=>?_
  refine sIx underlying200 sizeOf30 F rfl rfl rfl rfl ?_ ?_
  focus (first | omega | decide | (simp;omega))
  clear F a;intro a F;refine sLd isAgg30 F rfl rfl rfl (by simpa using H.arg hx0) (qAs rfl rfl rfl (qNK hK17 (qReg (qMv rfl rfl rfl (qMv rfl rfl rfl ?_)))));clear hK17;clear F a;intro a F;refine sAppO (bytes:=38) (sz:=38) H 0 underlying30 typeInfo47 rfl rfl rfl rfl rfl rfl F rfl rfl rfl rfl rfl ?hm (hR.own H) (bs38_len l) (bs38_one l) ?hb ?_
  case hm=>first | rfl | (simp;done) | omega | (simp only [List.length_take,List.length_map];omega) | (simp;omega)
  case hb=>exact ((by simp;omega))
  clear F a H;intro A33 c33 a w F H;refine sAs F rfl rfl rfl (qNK hK16 (qReg ?_));clear hK16;clear F a;intro a F
  refine sBin F rfl rfl rfl rfl (bAddN (j:=1) ?_) ?_
  focus omega
  clear F a;intro a F;refine sMv F rfl rfl rfl ?_;clear F a;intro a F;refine sNil ?_
  exact ⟨_,by omega,_,⟨1,A33,c33,_,rfl,rfl,by omega,fun h=>absurd h (by omega),fun _=>by simp,H.sel [0] rfl rfl⟩,F.to (by repeat (first | exact trivial | refine Le.cons rfl ?_))⟩
 replace h28:=of_decide_eq_false h28
 obtain rfl:j=1:=by omega
 obtain rfl:=hr1 (by omega)
 rw [List.length_map] at F H;refine wp_exit ?_;refine hK12 _ _ (cSR fun K18 hK18=>sMv F rfl rfl rfl (qAs rfl rfl rfl (qNK hK18 ?_)));clear hK12 hK18;clear F a;intro a F;refine wp_ret ?_;refine bRet results97 F rfl ?_
 exact ⟨_,_,rfl,H.pick 0 rfl⟩
-- RnZ
open Go.Proofs.Tryz
open Go.Shelf
def sortFin_ren:Go.Shelf.Ren:=⟨fun | 6=>98 | 15=>138 | 14=>137 | 28=>179 | 29=>180 | 20=>171 | 21=>172 | 22=>173 | 23=>174 | 24=>175 | 25=>176 | 26=>177 | 27=>178 | 46=>187 | 47=>188 | 48=>189 | 49=>190 | 50=>191 | 57=>198 | n=>n,fun | 22=>30 | 24=>47 | 25=>160 | 3=>3 | 39=>204 | 0=>0 | 53=>233 | 55=>235 | 4=>4 | 46=>227 | 45=>226 | 50=>82 | 5=>5 | 9=>9 | 66=>246 | 70=>250 | 76=>253 | 77=>254 | n=>n,fun | n=>n⟩
theorem sortFin:Go.Proofs.SlLaysF0.n6 Tryz.prog sortFin_ren:={
 mixed:=by kernel_rfl
 f6:=⟨Tryz.f98.name,by decide,func98.trans (congrArg some (by kernel_rfl))⟩
 f14:=⟨Tryz.f137.name,by decide,func137.trans (congrArg some (by kernel_rfl))⟩
 f15:=func138.trans (congrArg some (by kernel_rfl))
 f20:=⟨Tryz.f171.name,by decide,func171.trans (congrArg some (by kernel_rfl))⟩
 f21:=⟨Tryz.f172.name,by decide,func172.trans (congrArg some (by kernel_rfl))⟩
 f22:=⟨Tryz.f173.name,by decide,func173.trans (congrArg some (by kernel_rfl))⟩
 f23:=⟨Tryz.f174.name,by decide,func174.trans (congrArg some (by kernel_rfl))⟩
 f24:=⟨Tryz.f175.name,by decide,func175.trans (congrArg some (by kernel_rfl))⟩
 f25:=⟨Tryz.f176.name,by decide,func176.trans (congrArg some (by kernel_rfl))⟩
 f26:=⟨Tryz.f177.name,by decide,func177.trans (congrArg some (by kernel_rfl))⟩
 f27:=⟨Tryz.f178.name,by decide,func178.trans (congrArg some (by kernel_rfl))⟩
 f28:=func179.trans (congrArg some (by kernel_rfl))
 f29:=func180.trans (congrArg some (by kernel_rfl))
 f46:=⟨Tryz.f187.name,by decide,func187.trans (congrArg some (by kernel_rfl))⟩
 f47:=func188.trans (congrArg some (by kernel_rfl))
 f48:=func189.trans (congrArg some (by kernel_rfl))
 f49:=⟨Tryz.f190.name,by decide,func190.trans (congrArg some (by kernel_rfl))⟩
 f50:=⟨Tryz.f191.name,by decide,func191.trans (congrArg some (by kernel_rfl))⟩
 f57:=⟨Tryz.f198.name,by decide,func198.trans (congrArg some (by kernel_rfl))⟩
 t0:=underlying0
 a0:=isAgg0
 z0:=sizeOf0
 v0:=zeroValue0
 t3:=underlying3
 a3:=isAgg3
 z3:=sizeOf3
 v3:=zeroValue3
 t4:=underlying4
 a4:=isAgg4
 z4:=sizeOf4
 v4:=zeroValue4
 t5:=underlying5
 a5:=isAgg5
 z5:=sizeOf5
 v5:=zeroValue5
 t9:=underlying9
 a9:=isAgg9
 z9:=sizeOf9
 v9:=zeroValue9
 t22:=underlying30
 a22:=isAgg30
 z22:=sizeOf30
 v22:=zeroValue30
 t25:=underlying160
 a25:=isAgg160
 z25:=sizeOf160
 v25:=zeroValue160
 t39:=underlying204
 a39:=isAgg204
 z39:=sizeOf204
 v39:=zeroValue204
 t45:=underlying226
 a45:=isAgg226
 z45:=sizeOf226
 v45:=zeroValue226
 t46:=underlying227
 a46:=isAgg227
 z46:=sizeOf227
 v46:=zeroValue227
 t50:=underlying82
 a50:=isAgg82
 z50:=sizeOf82
 v50:=zeroValue82
 t53:=underlying233
 a53:=isAgg233
 z53:=sizeOf233
 v53:=zeroValue233
 t55:=underlying235
 a55:=isAgg235
 z55:=sizeOf235
 v55:=zeroValue235
 t66:=underlying246
 a66:=isAgg246
 z66:=sizeOf246
 v66:=zeroValue246
 t70:=underlying250
 a70:=isAgg250
 z70:=sizeOf250
 v70:=zeroValue250
 t76:=underlying253
 a76:=isAgg253
 z76:=sizeOf253
 v76:=zeroValue253
 t77:=underlying254
 a77:=isAgg254
 z77:=sizeOf254
 v77:=zeroValue254 }
def revPass_ren:Go.Shelf.Ren:=⟨fun | 35=>101 | n=>n,fun | 22=>58 | 23=>86 | 3=>3 | 4=>4 | 0=>0 | n=>n,fun | n=>n⟩
theorem revPass:Go.Proofs.SlLaysE0.n35 Tryz.prog revPass_ren:={
 mixed:=by kernel_rfl
 f35:=⟨Tryz.f101.name,by decide,func101.trans (congrArg some (by kernel_rfl))⟩
 t0:=underlying0
 a0:=isAgg0
 z0:=sizeOf0
 v0:=zeroValue0
 t3:=underlying3
 a3:=isAgg3
 z3:=sizeOf3
 v3:=zeroValue3
 t4:=underlying4
 a4:=isAgg4
 z4:=sizeOf4
 v4:=zeroValue4
 t22:=underlying58
 a22:=isAgg58
 z22:=sizeOf58
 v22:=zeroValue58 }
-- RnK
open Go.RowKit Go.Sort
set_option maxRecDepth 100000
def cfF (x y:By):Int:=lexC (toL 38 x) (toL 38 y)
theorem lt_cf (x y:By):ltOf cfF x y=decide (lexC (toL 38 x) (toL 38 y) < 0):=rfl
theorem lex_le {a b c:List UInt8} (h1:¬ lexC a b < 0) (h2:¬ lexC b c < 0):¬ lexC a c < 0:=by
 have e1:=lex_neg a b
 have e2:=lex_neg b c
 have e3:=lex_neg a c
 by_cases z1:lexC a b=0
 · rw [lex_eq z1];exact h2
 · by_cases z2:lexC b c=0
   · rw [← lex_eq z2];exact h1
   · have:=lex_trans (l:=c) (q:=b) (s:=a) (by omega) (by omega)
     omega
theorem swoF:SWO (ltOf cfF) where
 irrefl x:=by rw [lt_cf,lex_self];rfl
 trans x y z h1 h2:=by
   rw [lt_cf] at h1 h2 ⊢
   simp only [decide_eq_true_eq] at h1 h2 ⊢
   exact lex_trans h1 h2
 ntrans x y z h1 h2:=by
   rw [lt_cf] at h1 h2 ⊢
   simp only [decide_eq_false_iff_not] at h1 h2 ⊢
   exact lex_le h1 h2
theorem one38 (x:By):∀ v ∈ bs 38 x,v.oneCell'=true:=fun v hv=>by
 have:=bs38_one [x] (bs 38 x) (by simp)
 exact List.all_eq_true.1 this v hv
theorem sort_own {w0 w:World} {row:Option Nat} {rs:List Res} {A:Option Addr} {c:Nat} {l:List By} (H:Own w0 row w rs) (i:Nat) (hi:rs[i]? = some (.rws 47 38 (.slice A l.length c) (l.map (bs 38)))) (hn:l.length≤65536) (h0:l ≠ []) :
   Calls Tryz.prog 98 #[.slice A l.length c,.func (.func 99) #[] #[]] w fun e w'=>e = .returned (.tuple #[])∧∃ l':List By,l'.length=l.length∧(∀ x,x ∈ l' ↔ x ∈ l)∧(l'.Pairwise fun x y=>¬ lexC (toL 38 y) (toL 38 x) < 0)∧Own w0 row w' (rs.set i (.rws 47 38 (.slice A l'.length c) (l'.map (bs 38)))):=by
 have hw:w.ownsRow 0 47 38 (.slice A l.length c) (l.map (bs 38)).length (l.map (bs 38)).flatten:=H.pred i _ hi
 rw [List.length_map] at hw
 have hw2:=hw
 obtain ⟨_,⟨h1,h2⟩ | ⟨g,cap,cur,h1,_,hg,_⟩⟩:=hw2
 · exact absurd (List.eq_nil_of_length_eq_zero h2) h0
 · have hA:A=some ⟨g,0,none⟩:=by simp only [Value.slice.injEq] at h1;exact h1.1
   subst hA
   have hk:∀ x:By,(bs 38 x).length=38:=fun x=>bs_length _ _
   have hH:=holdsOf (enc:=bs 38) hk (d:=l.toArray) (by simpa using hw)
   have hb:g < w.heap.size:=(Array.getElem?_eq_some_iff.1 hg).1
   have eg:∀ args w,(callFunc 99 args).run Tryz.prog w = .ok (.enter 99 args) w:=Tryz.call99
   have hcon:=AnyQ.slices_SortFunc sortFin 38 Tryz.isAgg47 Tryz.sizeOf47 (bs 38) hk one38 cfF swoF 99 #[] g 0 c l.toArray w eg (fun m os dk hs x y=>by simpa [cfF] using order_any x y _) hH hb (by simp;omega)
   change Calls Tryz.prog 98 _ _ _ at hcon
   rw [List.size_toArray] at hcon;refine hcon.mono ?_;rintro e w' ⟨rfl,d',n,os,hp,hs,rfl⟩
   obtain ⟨p1,_,p3⟩:=hp
   have p1:d'.size=l.length:=by simpa using p1
   have hperm:d'.toList.Perm l:=by
     have e1:d'.extract 0 l.length=d':=by rw [← p1];simp
     have e2:l.toArray.extract 0 l.length=l.toArray:=by simp
     rw [e1,e2] at p3
     simpa using p3
   have hp:=putOf (enc:=bs 38) hk (d:=l.toArray) (d':=d') (by simpa using hw) (by rw [List.size_toArray];exact p1) n os
   refine ⟨rfl,d'.toList,by simpa using p1,fun x=>hperm.mem_iff,?_,turnedRow H i hi (sort_grown (bs 38) 38 w g n d' os) (by simpa using hp)⟩
   rw [List.pairwise_iff_getElem]
   intro i j hi hj hij
   have hi':i < d'.size:=by simpa using hi
   have hj':j < d'.size:=by simpa using hj
   have:=hs i j (Nat.zero_le _) hij (by omega)
   rw [getElem!_pos d' j hj',getElem!_pos d' i hi',lt_cf] at this
   simp only [decide_eq_false_iff_not] at this
   simpa using this
end Go.Proofs.YtbgnapmaimkpkaaGreatDoor
