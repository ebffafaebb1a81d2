/-
  WALK2. make([]T, 0, n); append of a slice of the caller's that may be nil. Conditions: sizes.
-/
import Derived.Test.YtagnefpgidbhnaaGreatDoorJn1
import Derived.Test.YtagnefpgidbhnaaGreatDoorJn8
set_option linter.unusedSimpArgs false
set_option linter.unusedVariables false
namespace Go.Proofs.YtagnefpgidbhnaaGreatDoor
-- KtB
open Go.RowKit
variable {P:Program} {l:List Oper} {Q:Exit→Act→World→Prop} {N:Nat} {a:Act} {env:List (Nat × Value)} {rest:List Oper} {d:Tmp} {ty:TypeId} {pos:String} {af:Array Edge} {g:Option (Nat × Bool)}
 {w0 w:World} {row:Option Nat} {rs:List Res} {Kt:Act→World→Prop}
theorem sMkC {t e:TypeId} {x y:Operand} {ti:TypeInfo} {z:Value} {sz bytes c:Nat} {k k':IntKind} (H:Own w0 row w rs) (ht:P.underlying t=some (.slice e)) (hi:∀ w,(typeInfo e).run P w = .ok ti w) (hz:ti.zero=some z) (hsize:ti.size=sz) (hby:ti.bytes=bytes)
   (F:Has N a env) (hg:wants l env g=true) (hN:Nat.blt d N=true) (hx:ev env x=some (.int k 0)) (hy:ev env y=some (.int k' (c:Int))) (hb:bytes * c≤281474976710656) (h63:c≤maxLen)
   (K:∀ b a w,Has N a ((d,.slice (some ⟨b,0,none⟩) 0 c) :: env)→Own w0 row w (.rws e sz (.slice (some ⟨b,0,none⟩) 0 c) [] :: rs)→wpList P l.toArray Q rest a w):wpList P l.toArray Q (⟨some d,.makeSlice t x y,ty,pos,af,g⟩ :: rest) a w:=by
 have h63':(c:Int)≤9223372036854775807:=by
   have h:=h63
   simp [maxLen] at h
   omega
 have hb':(ti.bytes:Int) * (c:Int)≤281474976710656:=by
   have h:((ti.bytes * c:Nat):Int)≤281474976710656:=by rw [hby];omega
   rwa [Int.natCast_mul] at h
 have h2:=run_make (P:=P) w t e ti z ht (GD hi) hz k k' 0 c (Int.le_refl _) (by omega) hb' h63'
 simp only [Int.toNat_zero,Int.toNat_natCast] at h2
 have h3:(execOp a.eval ⟨some d,.makeSlice t x y,ty,pos,af,g⟩).run P w = .ok (.value (.slice (some ⟨w.heap.size,0,none⟩) 0 c)) (w.alloc (.cells (madeCells z.cells (c * ti.size)) e)):=by
   simp only [execOp,F.eval hx,F.eval hy,Sem.run_bind,h2]
   rfl
 subst hsize
 exact YM F hg rfl hN h3 (fun _ F'=>K _ _ _ F' ((H.alloc (madeCells z.cells (c * ti.size)) e).seen _ (World.ownsRow_made w _ c (Nat.zero_le _) h63 (size_madeCells _ _)) (fun b hb=>by
   have:w.heap.size=b:=by simpa [Res.rws,Res.arr,Value.ownBlock] using hb
   exact this.symm)))
theorem Xai {t e ty:TypeId} {i:TypeInfo} {size n c:Nat} {v:Value} {xs:List Value} (ht:P.underlying t=some (.slice e)) (hi:P.info? e=some i) (ho:w.ownsRow 0 e size v n xs) :
   (Builtin.append_ #[t,t] ty #[v,.slice none 0 c]).run P w = .ok v w:=by
 rcases ho.2 with ⟨h1,h2⟩ | ⟨g,cap,cur,h1,_,_,hnc,_⟩
 · subst h1
   simp [Builtin.append_,run_underlying ht,sizeOf,typeInfo,hi,Builtin.lenOf,Builtin.firstCells]
 · subst h1
   simp [Builtin.append_,run_underlying ht,sizeOf,typeInfo,hi,Builtin.lenOf,Builtin.firstCells,hnc,storeCells]
theorem Lq {t e:TypeId} {v:Value} {rows news:List (List Value)} {A0:Option Addr} {m c:Nat} {ti:TypeInfo} {z:Value} {sz bytes:Nat} (H:Own w0 row w rs) (i:Nat) (ht:P.underlying t=some (.slice e))
   (hi:∀ w,(typeInfo e).run P w = .ok ti w) (hz:ti.zero=some z) (hsize:ti.size=sz) (hby:ti.bytes=bytes) (hzs:z.cells.size=sz) (hsz:Nat.blt 0 sz=true) (hb1:Nat.blt 0 bytes=true)
   (hr:rs[i]? = some (.rws e sz v rows)) (hm:news.length=m) (hnews:RowsAt w A0 sz news) (hl:∀ r ∈ news,r.length=sz) (h1:∀ r ∈ news,r.all (·.oneCell')=true) (hb:(rows.length+m) * bytes≤140737488355328) (ty:TypeId) :
   ∃ A c' w',(Builtin.append_ #[t,t] ty #[v,.slice A0 m c]).run P w = .ok (.slice A (rows++news).length c') w'∧Own w0 row w' (rs.set i (.rws e sz (.slice A (rows++news).length c') (rows++news))):=by
 cases A0 with
 | some ad=>exact Lr H i ht hi hz hsize hby hzs hsz hb1 hr hm (hnews.flat hl) hl h1 hb ty
 | none=>
   obtain rfl:news=[]:=by
     cases news with
     | nil=>rfl
     | cons r rs=>
       obtain ⟨b,o,he,_⟩:=hnews 0 r rfl
       cases he
   obtain rfl:0=m:=hm
   have ho:=H.arr i hr
   have h2:=Xai (ty:=ty) (c:=c) ht (GD hi) ho
   obtain ⟨A,c',rfl⟩:∃ A c',v = .slice A rows.length c':=by
     rcases ho.2 with ⟨h2,h3⟩ | ⟨g,cap,cur,h2,_⟩
     · exact ⟨none,0,by rw [h3];exact h2⟩
     · exact ⟨_,cap,h2⟩
   have e2:rs.set i (.rws e sz (.slice A rows.length c') rows)=rs:=by
     obtain ⟨hi2,he⟩:=List.getElem?_eq_some_iff.1 hr
     rw [← he]
     exact List.set_getElem_self hi2
   refine ⟨A,c',w,?_,?_⟩
   · rw [List.append_nil];exact h2
   · rw [List.append_nil,e2];exact H
theorem E0 {t e:TypeId} {s x:Operand} {v:Value} {rows news:List (List Value)} {A0:Option Addr} {m c:Nat} {ti:TypeInfo} {z:Value} {sz bytes:Nat} (H:Own w0 row w rs) (i:Nat) (ht:P.underlying t=some (.slice e))
   (hi:∀ w,(typeInfo e).run P w = .ok ti w) (hz:ti.zero=some z) (hsize:ti.size=sz) (hby:ti.bytes=bytes) (hzs:z.cells.size=sz) (hsz:Nat.blt 0 sz=true) (hb1:Nat.blt 0 bytes=true)
   (F:Has N a env) (hg:wants l env g=true) (hN:Nat.blt d N=true) (hs:ev env s=some v) (hx:ev env x=some (.slice A0 m c))
   (hr:rs[i]? = some (.rws e sz v rows)) (hm:news.length=m) (hnews:RowsAt w A0 sz news) (hl:∀ r ∈ news,r.length=sz) (h1:∀ r ∈ news,r.all (·.oneCell')=true) (hb:(rows.length+m) * bytes≤140737488355328)
   (K:∀ A c a w,Has N a ((d,.slice A (rows++news).length c) :: env)→Own w0 row w (rs.set i (.rws e sz (.slice A (rows++news).length c) (rows++news)))→wpList P l.toArray Q rest a w) :
   wpList P l.toArray Q (⟨some d,.call ⟨.builtin .append,#[s,x],#[t,t]⟩,ty,pos,af,g⟩ :: rest) a w:=by
 obtain ⟨A,c',w',h2,h3⟩:=Lq (P:=P) (c:=c) H i ht hi hz hsize hby hzs hsz hb1 hr hm hnews hl h1 hb ty
 exact YM F hg rfl hN (Ui (ty':=ty) F hs hx h2) (fun a F'=>K A c' a w' F' h3)
theorem J1 {t e:TypeId} {s x:Operand} {v:Value} {rows news:List (List Value)} {A0:Option Addr} {m c:Nat} {ti:TypeInfo} {z:Value} {sz bytes:Nat} (H:Own w0 row w rs) (i:Nat) (ht:P.underlying t=some (.slice e))
   (hi:∀ w,(typeInfo e).run P w = .ok ti w) (hz:ti.zero=some z) (hsize:ti.size=sz) (hby:ti.bytes=bytes) (hzs:z.cells.size=sz) (hsz:Nat.blt 0 sz=true) (hb1:Nat.blt 0 bytes=true)
   (F:Has N a env) (hN:Nat.blt d N=true) (hs:ev env s=some v) (hx:ev env x=some (.slice A0 m c))
   (hr:rs[i]? = some (.rws e sz v rows)) (hm:news.length=m) (hnews:RowsAt w A0 sz news) (hl:∀ r ∈ news,r.length=sz) (h1:∀ r ∈ news,r.all (·.oneCell')=true) (hb:(rows.length+m) * bytes≤140737488355328)
   (K:∀ A c a w,Has N a ((d,.slice A (rows++news).length c) :: env)→Own w0 row w (rs.set i (.rws e sz (.slice A (rows++news).length c) (rows++news)))→Kt a w) :
   (Oper.mk (some d) (.call ⟨.builtin .append,#[s,x],#[t,t]⟩) ty pos af g).wp P a w Kt Q:=by
 obtain ⟨A,c',w',h2,h3⟩:=Lq (P:=P) (c:=c) H i ht hi hz hsize hby hzs hsz hb1 hr hm hnews hl h1 hb ty
 exact oV F rfl hN (Ui (ty':=ty) F hs hx h2) (fun a F'=>K A c' a w' F' h3)
-- SqF
open Go.RowKit
set_option maxRecDepth 100000
section
variable {w0 w:World} {row:Option Nat} {rs xs ys zs:List Res}
theorem Own.front (H:Own w0 row w (xs++ys)):Own w0 row w xs:=(H.perm List.perm_append_comm).suf
theorem Own.swapN (H:Own w0 row w rs) (i j:Nat):Own w0 row w ((rs.drop i).take j++(rs.take i++rs.drop (i+j))):=by
 refine H.perm ?_
 have e:rs=rs.take i++((rs.drop i).take j++rs.drop (i+j)):=by
   rw [← List.drop_drop,List.take_append_drop,List.take_append_drop]
 have h:(rs.take i++((rs.drop i).take j++rs.drop (i+j))).Perm ((rs.drop i).take j++(rs.take i++rs.drop (i+j))):=by
   rw [← List.append_assoc,← List.append_assoc]
   exact List.Perm.append_right _ List.perm_append_comm
 exact (List.Perm.of_eq e).trans h
theorem E6 {P:Program} {g:Operand} {p:Tmp} {assign body:Code} {Q:Exit→Act→World→Prop} {N:Nat} {a:Act} {env:List (Nat × Value)} {ds:List Deferred} {α:Type}
   {gf:Nat} {lb:Array Value} {T:TypeId} {cells:α→List Value} {ok:α→Prop} {all:List α} (k:Nat) (F:Has N a env) (hpN:Nat.blt p N=true) (hg:ev env g=some (.func (.func gf) #[] lb)) (eg:∀ args w,(callFunc gf args).run P w = .ok (.enter gf args) w)
   (H:Own w0 none w rs) (hit:Iter P gf lb T cells ok all w0 (rs.drop k)) (I:List α→List Res→Prop) (Ix:Code→List α→List Res→Prop) (h0:I [] (rs.take k)) (asg:Value→List (Nat × Value))
   (hassign:∀ (l:Nat) (a1:Act) (W:World) (v:Value) (K:Act→World→Prop),Has N a1 ((p,v) :: env)→(∀ a2,Has N a2 (asg v++(p,v) :: env)→K (wD a2 []) W)→assign.wpIn (Fence.wide.inRound l) 0 P (Exit.then K (fun _ _ _=>False)) (wD a1 []) W)
   (hbody:∀ (l:Nat) (pre:List α) (x:α) (b:Nat) (W:World) (ps1 qs:List Res) (a2:Act),I pre ps1→pre++[x] <+: all→ok x→Own w0 none W (.blk b (cells x) T :: (ps1++qs))→Has N a2 (asg (.pointer (some ⟨b,0,none⟩))++(p,.pointer (some ⟨b,0,none⟩)) :: env) →
     body.wpIn (Fence.wide.inRound l) 0 P (Cl I Ix (pre++[x]) (fun ps2 w2=>Own w0 none w2 (.blk b (cells x) T :: (ps2++qs)))) (wD a2 []) W)
   (hdone:∀ (D:Nat) (W:World) (us':List Res),I all us'→Own w0 none W (.obj D (.deferred (some [])) :: (us'++rs.drop k))→Q .normal (wD a (LZ D :: ds)) W)
   (hstop:∀ (D:Nat) (c:Code) (pre:List α) (W:World) (us':List Res),pre <+: all→Ix c pre us'→Own w0 none W (.obj D (.deferred (some [])) :: (us'++rs.drop k))→c.wpIn Fence.wide 0 P Q (wD a (LZ D :: ds)) W) :
   (Code.rangeFunc g #[p] assign body).wpIn Fence.wide 0 P Q (wD a ds) w:=
 rfOwn (us:=rs.take k) (ts:=rs.drop k) F hpN hg eg (by rw [List.take_append_drop];exact H) hit I Ix h0 asg hassign hbody hdone hstop
end
structure PlP where
 path:PathP
 A1:Option Addr
 c1:Nat
 A2:Option Addr
 c2:Nat
 A3:Option Addr
 c3:Nat
 A4:Option Addr
 c4:Nat
def PlP.cells (q:PlP):List Value:=q.path.cells q.A1 q.c1 q.A2 q.c2 q.A3 q.c3 q.A4 q.c4
def PlP.res (q:PlP):List Res:=q.path.res q.A1 q.c1 q.A2 q.c2 q.A3 q.c3 q.A4 q.c4
theorem Xbd (b:Nat) (r:RunP) (w0:World) (hB:Wm w0 b r) (hT:TabAt w0) (hm:r.many≤24) (hs:SetsOk r) :
   Calls Tryz.prog 21 #[.pointer (some ⟨b,0,none⟩)] w0 fun e w'=>∃ q:PlP,q.path=XX r∧e = .returned (.agg q.cells.toArray)∧Own w0 none w' q.res:=by
 refine (MV b r w0 hB hT hm hs).mono ?_;rintro e w' ⟨A1,c1,A2,c2,A3,c3,A4,c4,rfl,H⟩
 have h:=VE r
 refine ⟨⟨XX r,A1,c1,A2,c2,A3,c3,A4,c4⟩,rfl,?_,?_⟩
 · simp only [PlP.cells,PathP.cells,Wg,XX,h]
 · simp only [PlP.res,PathP.res,Gt,XX,h] at H ⊢
   exact H
theorem Own.addP {w0 w:World} {row:Option Nat} {q:PlP} {ps:List PlP} {qs hd:List Res} (H:Own w0 row w (q.res++(hd++(ps.flatMap PlP.res++qs)))):Own w0 row w (hd++((ps++[q]).flatMap PlP.res++qs)):=by
 refine H.perm ?_
 have e:(ps++[q]).flatMap PlP.res=ps.flatMap PlP.res++q.res:=by simp
 rw [e]
 have h1:(q.res++(hd++(ps.flatMap PlP.res++qs))).Perm (hd++(q.res++(ps.flatMap PlP.res++qs))):=by
   have:=List.Perm.append_right (ps.flatMap PlP.res++qs) (List.perm_append_comm (l₁:=q.res) (l₂:=hd))
   simpa only [List.append_assoc] using this
 refine h1.trans (List.Perm.append_left _ ?_);rw [← List.append_assoc]
 exact List.Perm.append_right _ List.perm_append_comm
theorem GO (l:List UInt8):(XP l).length≤256:=by
 unfold XP
 refine Nat.le_trans (List.length_filter_le _ _) ?_
 simp
def YV (l:List Ins) (dom:List UInt8) (most:Int):List PathP × Nat:=
 if most < 0∨4096 < most∨XH 6 l=false then ([],2)
 else if most < ((YY l (XP dom)).length:Int) then ([],5)
 else ((YY l (XP dom)).map XX,0)
def G0 (q:List PathP × Nat) (w0:World) (e:Ending) (w':World):Prop:=
 ∃ (ps:List PlP) (A:Option Addr) (C:Nat),ps.map PlP.path=q.1∧e = .returned (.tuple #[.slice A ps.length C,.int .i64 (q.2:Int)])∧Own w0 none w' (.rws 37 12 (.slice A ps.length C) (ps.map PlP.cells) :: ps.flatMap PlP.res)
theorem Wf {l:List Ins} {dom:List UInt8} {most:Int} (h:most < 0∨4096 < most∨XH 6 l=false):YV l dom most=([],2):=by unfold YV;rw [if_pos h]
theorem Uz {l:List Ins} {dom:List UInt8} {most:Int} (h0:¬ most < 0) (h1:¬ 4096 < most) (h2:XH 6 l=true) (h:most < ((YY l (XP dom)).length:Int)):YV l dom most=([],5):=by
 unfold YV
 rw [if_neg (by rintro (h | h | h);exact h0 h;exact h1 h;rw [h2] at h;cases h),if_pos h]
theorem U2 {l:List Ins} {dom:List UInt8} {most:Int} (h0:¬ most < 0) (h1:¬ 4096 < most) (h2:XH 6 l=true) (h:((YY l (XP dom)).length:Int)≤most):YV l dom most=((YY l (XP dom)).map XX,0):=by
 unfold YV
 rw [if_neg (by rintro (h | h | h);exact h0 h;exact h1 h;rw [h2] at h;cases h),if_neg (by omega)]
theorem U4 {w0 w:World} {rs:List Res} (H:Own w0 none w rs) (err:Nat):G0 ([],err) w0 (.returned (.tuple #[.slice none 0 0,.int .i64 (err:Int)])) w:=
 ⟨[],none,0,rfl,rfl,(H.nilRws 37 12).sel [0] rfl rfl⟩
theorem Nw {r:List Value} {l:List UInt8} (hr:r ∈ l.map fun x=>[b8 x]):r.length=1:=by
 obtain ⟨x,_,rfl⟩:=List.mem_map.1 hr;rfl
namespace Md
set_option maxHeartbeats 4000000 in
theorem Paths_any (A:Option Addr) (C:Nat) (l:List Ins) (DA:Option Addr) (DC:Nat) (dom:List UInt8) (most:Int) (w0:World) (hA:RowsAt w0 A 10 (l.map Ins.cells)) (hn:l.length≤9223372036854775807) (hD:BytesAt w0 DA dom) (hdn:dom.length≤1000000) (hN:NeedsAt w0) (hT:TabAt w0) :
   Calls Tryz.prog 11 #[.slice A l.length C,.slice DA dom.length DC,.int .i64 most] w0 (G0 (YV l dom most) w0):=by
 have H:=Own.start w0 none
 refine XaC Tryz.func11 rfl Tryz.ntmps11 rfl (fun a F=>?_);refine cSeq (fun K1 hK1=>?_);refine cReg ?_;refine sBx H F rfl rfl rfl ?_;clear F a H;intro b5 a w F H;refine sAl H Tryz.zeroValue48 F rfl rfl ?_;clear F a H;intro b6 a w F H;refine sAl H Tryz.zeroValue38 F rfl rfl ?_;clear F a H;intro b7 a w F H;refine sNil ?_;refine hK1 _ _ ?_;clear hK1;refine cSeq (fun K2 hK2=>?_);refine cSeq (fun K3 hK3=>?_);refine cReg ?_;refine sLd Tryz.isAgg3 F rfl rfl rfl (H.cell 2 rfl rfl) (Xj rfl rfl YW (Xd rfl ?_));clear F a;intro a F
 refine F.split 13 rfl ?_ ?_ <;> (clear F;intro h13 F)
 ·
  replace h13:=of_decide_eq_true h13;refine Xe F (Xf (Xg rfl rfl (Xd rfl (Xf (Xf (Xf (Xg rfl rfl ?_)))))));clear F a;intro a F;refine sNil ?_;refine hK3 _ _ ?_;clear hK3;refine cIfT F rfl ?_;refine cSeq (fun K4 hK4=>?_);refine cReg ?_;refine sSt H 1 Tryz.sizeOf48 F rfl rfl rfl rfl rfl rfl ?_;clear H;intro w H;refine sSt H 0 Tryz.sizeOf38 F rfl rfl rfl rfl rfl rfl ?_;clear H;intro w H;refine sNil ?_;refine hK4 _ _ ?_;clear hK4;refine wp_ret ?_;simp only [Exit.then];refine Xa5 ?_;refine NX Tryz.results11 F rfl rfl Tryz.isAgg48 Tryz.isAgg38 H 1 0 rfl rfl ?_
  (rw [Wf (.inl h13)];exact U4 H 2)
 replace h13:=of_decide_eq_false h13;refine sLd Tryz.isAgg3 F rfl rfl rfl (H.cell 2 rfl rfl) (Xj rfl rfl UO (Xg rfl rfl (Xd rfl ?_)));clear F a;intro a F
 refine F.split 17 rfl ?_ ?_ <;> (clear F;intro h17 F)
 ·
  replace h17:=of_decide_eq_true h17;refine Xe F (Xf (Xf (Xg rfl rfl ?_)));clear F a;intro a F;refine sNil ?_;refine hK3 _ _ ?_;clear hK3;refine cIfT F rfl ?_;refine cSeq (fun K5 hK5=>?_);refine cReg ?_;refine sSt H 1 Tryz.sizeOf48 F rfl rfl rfl rfl rfl rfl ?_;clear H;intro w H;refine sSt H 0 Tryz.sizeOf38 F rfl rfl rfl rfl rfl rfl ?_;clear H;intro w H;refine sNil ?_;refine hK5 _ _ ?_;clear hK5;refine wp_ret ?_;simp only [Exit.then];refine Xa5 ?_;refine NX Tryz.results11 F rfl rfl Tryz.isAgg48 Tryz.isAgg38 H 1 0 rfl rfl ?_
  (rw [Wf (.inr (.inl h17))];exact U4 H 2)
 replace h17:=of_decide_eq_false h17;refine Xl F rfl ?_;clear F a;intro a F;refine Xn Tryz.call18 F rfl (Jj A C l _ (hA.own H) (hN.own H) hn) (gG H ?_);clear F a H;intro a w F H;refine UV F rfl rfl rfl (Xg rfl rfl ?_);clear F a;intro a F;refine sNil ?_;refine hK3 _ _ ?_;clear hK3
 refine cIf F rfl (fun h21=>?_) (fun h21=>?_)
 ·
  replace h21:=ZA h21;refine cSeq (fun K6 hK6=>?_);refine cReg ?_;refine sSt H 1 Tryz.sizeOf48 F rfl rfl rfl rfl rfl rfl ?_;clear H;intro w H;refine sSt H 0 Tryz.sizeOf38 F rfl rfl rfl rfl rfl rfl ?_;clear H;intro w H;refine sNil ?_;refine hK6 _ _ ?_;clear hK6;refine wp_ret ?_;simp only [Exit.then];refine Xa5 ?_;refine NX Tryz.results11 F rfl rfl Tryz.isAgg48 Tryz.isAgg38 H 1 0 rfl rfl ?_
  (rw [Wf (.inr (.inr h21))];exact U4 H 2)
 replace h21:=ZB h21
 have hl:XH 6 l=true:=by exact h21
 refine wp_skip ?_;refine hK2 _ _ ?_;clear hK2;refine cSeq (fun K7 hK7=>?_);refine cReg ?_;refine Xl F rfl ?_;clear F a;intro a F;refine Xn Tryz.call24 F rfl (WW DA DC dom _ (hD.own H) hdn) ?_;rintro e w ⟨A2,c2,rfl,H2⟩;replace H:=H.join H2;clear H2;refine ⟨_,rfl,?_⟩;clear F a;intro a F;refine Xa F rfl ?_;clear F a;intro a F;refine sNil ?_;refine hK7 _ _ ?_;clear hK7;refine cSeq (fun K8 hK8=>?_);refine cReg ?_;refine sAl H Tryz.zeroValue3 F rfl rfl ?_;clear F a H;intro b8 a w F H;refine sSt H 0 Tryz.sizeOf3 F rfl rfl rfl rfl rfl rfl ?_;clear H;intro w H;refine sNil ?_;refine hK8 _ _ ?_;clear hK8;refine cSeq (fun K9 hK9=>?_);refine cSeq (fun K10 hK10=>?_);refine cReg ?_;refine Xl F rfl (Xd rfl ?_);clear F a;intro a F;refine Xn Tryz.call25 F rfl (Qm A l.length C A2 (XP dom).length c2 _) ?_;rintro e w ⟨b2,b3,rfl,H2⟩;replace H:=H.join H2;clear H2;refine ⟨_,rfl,?_⟩;clear F a;intro a F;refine sNil ?_;refine hK10 _ _ ?_;clear hK10;refine wp_block ?_
 have HU:=(H.sel [2,5,4,6,1,0,3] rfl rfl)
 refine E6 4 F rfl rfl (enters_of Tryz.func40 (by kernel_rfl) rfl) HU (GM l (XP dom) hl A C A2 c2 w0 hA (Nat.le_trans (GO dom) (by omega)) _ b2 b3 (fun w H=>H.cell 0 rfl rfl) (fun w H=>H.cell 1 rfl rfl) (fun w H=>H.rowsAt 2 rfl (fun r hr=>Nw hr) (by omega))) (fun pre us'=>us'=[.blk b8 [.int .i64 (pre.length:Int)] 3,.blk b6 [.slice none 0 0] 48,.blk b7 [.int .i64 0] 38,.blk b5 [.int .i64 most] 3]∧(pre.length:Int)≤most) (fun c pre us'=>c = .ret∧us'=[.blk b8 [.int .i64 ((pre.length - 1:Nat):Int)] 3,.blk b6 [.slice none 0 0] 48,.blk b7 [.int .i64 5] 38,.blk b5 [.int .i64 most] 3]∧most < (pre.length:Int)) (⟨rfl,by simp;omega⟩) (fun _=>[]) ?_ ?_ ?_ ?_
 ·
  clear HU H F a;intro lp9 a w v K hF hK
  exact Md.wp_skip (hK _ hF)
 ·
  clear HU H F a;intro lp9 pre x bx w ps1 qs a hi hpx hox H F
  obtain ⟨rfl,hpm⟩:=hi
  refine wp_block ?_;refine cSeq (fun K11 hK11=>?_);refine cSeq (fun K12 hK12=>?_);refine cReg ?_;refine sLd Tryz.isAgg3 F rfl rfl rfl (H.cell 1 rfl rfl) (Xc Tryz.isAgg3 rfl (H.cell 4 rfl rfl) (Xj rfl rfl ZQ ?_));clear F a;intro a F;refine sNil ?_;refine hK12 _ _ ?_;clear hK12
  refine cIf F rfl (fun h30=>?_) (fun h30=>?_)
  ·
   replace h30:=Yh h30;refine cSeq (fun K13 hK13=>?_);refine cReg ?_;refine sSt H 2 Tryz.sizeOf48 F rfl rfl rfl rfl rfl rfl ?_;clear H;intro w H;refine sSt H 3 Tryz.sizeOf38 F rfl rfl rfl rfl rfl rfl ?_;clear H;intro w H;refine sNil ?_;refine hK13 _ _ ?_;clear hK13;refine wp_ret ?_;simp only [Exit.inBlock,Exit.then]
   exact rRet _ ⟨rfl,rfl,by rw [List.length_append,List.length_singleton];omega⟩ (by rw [List.length_append,List.length_singleton];exact H)
  replace h30:=Yi h30;refine wp_skip ?_;refine hK11 _ _ ?_;clear hK11;refine cReg ?_;refine sLd Tryz.isAgg3 F rfl rfl rfl (H.cell 1 rfl rfl) ?_;clear F a;intro a F
  refine Xm F rfl rfl (Z9 ?_) ?_
  focus omega
  clear F a;intro a F;refine sSt H 1 Tryz.sizeOf3 F rfl rfl rfl rfl rfl rfl ?_;clear H;intro w H;refine sNil ?_;simp only [Exit.inBlock,Exit.then,if_true]
  repeat (first | rw [if_pos rfl] | rw [if_neg (by decide)])
  exact Xba _ ⟨rfl,by rw [List.length_append,List.length_singleton];omega⟩ (by rw [List.length_append,List.length_singleton];exact H)
 ·
  intro D w us' hi H
  obtain ⟨rfl,hpm⟩:=hi
  refine hK9 _ _ ?_;clear hK9;refine cSeq (fun K14 hK14=>?_);refine cReg ?_;refine sLd Tryz.isAgg3 F rfl rfl rfl (H.cell 1 rfl rfl) ?_;clear F a;intro a F;refine sMkC (bytes:=104) (sz:=12) H Tryz.underlying48 Tryz.typeInfo37 rfl rfl rfl F rfl rfl rfl rfl (by omega) (by (simp only [maxLen];omega)) ?_;clear F a H;intro b34 a w F H;refine sAl H Tryz.zeroValue48 F rfl rfl ?_;clear F a H;intro b9 a w F H;refine sSt H 0 Tryz.sizeOf48 F rfl rfl rfl rfl rfl rfl ?_;clear H;intro w H;refine sNil ?_;refine hK14 _ _ ?_;clear hK14;refine cSeq (fun K15 hK15=>?_);refine cSeq (fun K16 hK16=>?_);refine cReg ?_;refine Xl F rfl (Xd rfl ?_);clear F a;intro a F;refine Xn Tryz.call25 F rfl (Qm A l.length C A2 (XP dom).length c2 _) ?_;rintro e w ⟨b2',b3',rfl,H2⟩;replace H:=H.join H2;clear H2;refine ⟨_,rfl,?_⟩;clear F a;intro a F;refine sNil ?_;refine hK16 _ _ ?_;clear hK16;refine wp_block ?_
  have HU:=(H.sel [2,3,6,7,4,1,0,11] rfl rfl)
  refine E6 5 F rfl rfl (enters_of Tryz.func40 (by kernel_rfl) rfl) HU (GM l (XP dom) hl A C A2 c2 w0 hA (Nat.le_trans (GO dom) (by omega)) _ b2' b3' (fun w H=>H.cell 0 rfl rfl) (fun w H=>H.cell 1 rfl rfl) (fun w H=>H.rowsAt 2 rfl (fun r hr=>Nw hr) (by omega))) (fun pre us'=>∃ (ps:List PlP) (A4:Option Addr) (c4:Nat),ps.map PlP.path=pre.map XX∧us' = .blk b9 [.slice A4 ps.length c4] 48 :: .rws 37 12 (.slice A4 ps.length c4) (ps.map PlP.cells) :: .blk b6 [.slice none 0 0] 48 :: .blk b7 [.int .i64 0] 38 :: .obj D (.deferred (some [])) :: ps.flatMap PlP.res) (fun _ _ _=>False) (⟨[],_,_,rfl,rfl⟩) (fun v=>[(10,v)]) ?_ ?_ ?_ ?_
  ·
   clear HU H F a;intro lp9 a w v K hF hK;refine Md.cReg ?_;refine Xa hF rfl ?_;clear hF;intro a hF
   refine Md.sNil ?_ hF
   exact hK _ hF
  ·
   clear HU H F a;intro lp9 pre x bx w ps1 qs a hi hpx hox H F
   obtain ⟨ps,A4,c4,hps,rfl⟩:=hi
   have hpl:ps.length=pre.length:=by have:=congrArg List.length hps;simpa using this
   have hpc:pre.length < (YY l (XP dom)).length:=by have:=hpx.length_le;simp at this;omega
   refine wp_block ?_;refine cRegRO (by kernel_rfl) (H.sel [1] rfl rfl) ?_;replace H:=H.drew;refine Xw 0 rfl F rfl rfl (fun w H=>rLd Tryz.isAgg48 F rfl (H.cell 0 rfl rfl)) (H.sel [1] rfl rfl) qq0 (Xu 1 rfl rfl (fun a F w=>rMv F rfl) (H.sel [1] rfl rfl) qq0 ?_);clear F a;intro a F;refine Xx (k:=2) (i:=2) rfl (by kernel_rfl) F (XS Tryz.call21 F rfl rfl (Xbd bx x _ (H.blk 0 rfl) (hT.own H) (by have:=hox.many;have:=hox.pc;have:=Z4 hl;omega) hox.sets) ?_);rintro e w ⟨q,hq,rfl,H2⟩;replace H:=H.join H2;clear H2;refine ⟨_,rfl,?_⟩;clear F a;intro a F;refine XM (H.sel [5] rfl rfl) ?_;refine Xx (k:=3) (i:=3) rfl (by kernel_rfl) F (LT H Tryz.underlying48 Tryz.sizeOf37 Tryz.zeroValue37 rfl F rfl rfl rfl rfl ?_);clear F a H;intro b42 a w F H;refine XM (H.sel [6] rfl rfl) ?_
   refine Xx (k:=4) (i:=4) rfl (by kernel_rfl) F (Ct (bytes:=104) H 7 Tryz.underlying48 Tryz.typeInfo37 rfl rfl rfl rfl rfl rfl F rfl rfl rfl rfl (H.whole 0 rfl) rfl ?s1 ?s2 ?_)
   case s1=>rfl
   case s2=>(rw [List.length_map];omega)
   clear F a H;intro A43 c43 a w F H;refine XF (by kernel_rfl) H ?_;refine Xx (k:=5) (i:=5) rfl (by kernel_rfl) F (oSt H 6 Tryz.sizeOf48 F rfl rfl rfl rfl rfl ?_);clear H;intro w H;refine XF (by kernel_rfl) H ?_;refine eNil (k:=6) (by kernel_rfl) ?_;simp only [Exit.inBlock,Exit.then,if_true]
   repeat (first | rw [if_pos rfl] | rw [if_neg (by decide)])
   have e9:ps.map PlP.cells++[q.cells]=(ps++[q]).map PlP.cells:=by simp
   have e8:(ps.map PlP.cells++[q.cells]).length=(ps++[q]).length:=by simp
   rw [e8,e9] at H
   exact Xba _ ⟨ps++[q],_,_,by rw [List.map_append,hps,List.map_append];simp [hq],rfl⟩ (Own.addP (hd:=[_,_,_,_,_,_]) H.tail)
  ·
   intro D w us' hi H
   obtain ⟨ps,A4,c4,hps,rfl⟩:=hi
   refine hK15 _ _ ?_;clear hK15;refine cSeq (fun K17 hK17=>?_);refine cReg ?_;refine sLd Tryz.isAgg48 F rfl rfl rfl (H.cell 1 rfl rfl) ?_;clear F a;intro a F;refine sSt H 3 Tryz.sizeOf48 F rfl rfl rfl rfl rfl rfl ?_;clear H;intro w H;refine sSt H 4 Tryz.sizeOf38 F rfl rfl rfl rfl rfl rfl ?_;clear H;intro w H;refine sNil ?_;refine hK17 _ _ ?_;clear hK17;refine wp_ret ?_;refine Xa5 ?_;refine DF H 0 rfl ?_;clear H;intro w H;refine DF H 5 rfl ?_;clear H;intro w H;refine NX Tryz.results11 F rfl rfl Tryz.isAgg48 Tryz.isAgg38 H 3 4 rfl rfl ?_
   (rw [U2 (by omega) (by omega) hl hpm]
    refine ⟨ps,A4,c4,hps,rfl,?_⟩
    exact Own.front (xs:=_ :: ps.flatMap PlP.res) (H.tail.tail.swapN 1 3).tail.tail.tail)
  ·
   intro D c pre w us' hpx hi H
   exact hi.elim
 ·
  intro D c pre w us' hpx hi H
  obtain ⟨rfl,rfl,hpm⟩:=hi
  have hlen:=hpx.length_le
  refine wp_ret ?_;refine xI ?_;refine Xa5 ?_;refine DF H 0 rfl ?_;clear H;intro w H;refine NX Tryz.results11 F rfl rfl Tryz.isAgg48 Tryz.isAgg38 H 2 3 rfl rfl ?_
  (rw [Uz (by omega) (by omega) hl (by omega)];exact U4 H 5)
end Md
-- SqG
open Go.Proofs.Tryz
open Go.RowKit
set_option maxRecDepth 100000
/-! ### What is marked -/
def WO (W:Nat→Bool):List Value:=(List.range 256).map fun v=>.bool (W v)
theorem Ex {W:Nat→Bool} {k:Nat} (h:k < 256):(WO W)[k]? = some (.bool (W k)):=by
 unfold WO;rw [List.getElem?_map,List.getElem?_range h];rfl
theorem Xb3 {W:Nat→Bool} {k:Nat} (h:k < 256):(WO W).set k (.bool true)=WO fun v=>W v || v == k:=by
 refine List.ext_getElem? fun i=>?_
 rcases Nat.lt_or_ge i 256 with hi | hi
 · rw [List.getElem?_set,Ex hi]
   by_cases he:k=i
   · subst he
     rw [if_pos rfl,if_pos (by simp [WO,h]),Ex hi,beq_self_eq_true,Bool.or_true]
   · rw [if_neg he,Ex hi]
     have:(i == k)=false:=by simpa using fun e:i=k=>he e.symm
     rw [this,Bool.or_false]
 · rw [List.getElem?_eq_none (by simp [WO];omega),List.getElem?_eq_none (by simp [WO];omega)]
def evW (e:Ev) (v:Nat):Bool:=e.kind == 2 && v == e.val.toNat
def Vq (r:RunP) (j v:Nat):Bool:=(List.range j).any fun k=>evW (r.ev k) v
def YH (rs:List RunP) (v:Nat):Bool:=rs.any fun r=>Vq r r.many v
theorem Jd (r:RunP) (j v:Nat):Vq r (j+1) v=(Vq r j v || evW (r.ev j) v):=by
 unfold Vq;rw [List.range_succ,List.any_append];simp
theorem NC (rs:List RunP) (r:RunP) (v:Nat):YH (rs++[r]) v=(YH rs v || Vq r r.many v):=by
 unfold YH;rw [List.any_append];simp
def byW (k:Nat) (W:Nat→Bool):List UInt8:=((List.range k).filter W).map UInt8.ofNat
theorem byW_T {k:Nat} {W:Nat→Bool} (h:W k=true):byW (k+1) W=byW k W++[UInt8.ofNat k]:=by
 unfold byW;rw [List.range_succ,List.filter_append];simp [h]
theorem XcR {k:Nat} {W:Nat→Bool} (h:W k=false):byW (k+1) W=byW k W:=by
 unfold byW;rw [List.range_succ,List.filter_append];simp [h]
theorem XaG (k:Nat) (W:Nat→Bool):(byW k W).length≤k:=by
 unfold byW;rw [List.length_map]
 exact Nat.le_trans (List.length_filter_le _ _) (by simp)
def Yg (l:List Ins) (dom:List UInt8):List UInt8 × Bool:=if 4096 < (YY l dom).length then ([],false) else (byW 256 (YH (YY l dom)),true)
theorem CV {w:World} {b:Nat} {r:RunP} (hB:Wm w b r) (hm:r.many≤24) {j:Nat} (hj:j < r.many):w.rangeAt b (19+j * 7) (r.ev j).cells:=fun i v hv=>by
 have hi:i < 7:=(List.getElem?_eq_some_iff.1 hv).1
 rw [Ev.cells_at _ hi] at hv
 obtain rfl:=Option.some.inj hv
 exact hB.cell _ (Bq r (by omega) hi)
theorem Xb4:(Value.agg Tryz.zeroCells108).cells.toList=WO fun _=>false:=by kernel_rfl
def Ep (q:List UInt8 × Bool) (w0:World) (e:Ending) (w':World):Prop:=
 ∃ (A:Option Addr) (C:Nat),e = .returned (.tuple #[.slice A q.1.length C,.bool q.2])∧Own w0 none w' [.rws 5 1 (.slice A q.1.length C) (q.1.map fun x=>[b8 x])]
namespace Md
set_option maxHeartbeats 4000000 in
theorem writes_any (l:List Ins) (dom:List UInt8) (hl:XH 6 l=true) (A:Option Addr) (C:Nat) (DA:Option Addr) (DC:Nat) (w0:World) (hA:RowsAt w0 A 10 (l.map Ins.cells)) (hD:BytesAt w0 DA dom) (hdn:dom.length≤1000000) :
   Calls Tryz.prog 29 #[.slice A l.length C,.slice DA dom.length DC] w0 (Ep (Yg l dom) w0):=by
 have H:=Own.start w0 none
 have hl12:=Z4 hl
 refine XaC func29 rfl ntmps29 rfl (fun a F=>?_);refine cSeq (fun K1 hK1=>?_);refine cReg ?_;refine sAl H zeroValue23 F rfl rfl ?_;clear F a H;intro b4 a w F H;refine sAl H zeroValue4 F rfl rfl ?_;clear F a H;intro b5 a w F H;refine sNil ?_;refine hK1 _ _ ?_;clear hK1;refine cSeq (fun K2 hK2=>?_);refine cReg ?_;refine sAl H zeroValue108 F rfl rfl ?_;clear F a H;intro b6 a w F H;rw [Xb4] at H;refine sNil ?_;refine hK2 _ _ ?_;clear hK2;refine cSeq (fun K3 hK3=>?_);refine cReg ?_;refine sAl H zeroValue3 F rfl rfl ?_;clear F a H;intro b7 a w F H;refine sSt H 0 sizeOf3 F rfl rfl rfl rfl rfl rfl ?_;clear H;intro w H;refine sNil ?_;refine hK3 _ _ ?_;clear hK3;refine cSeq (fun K4 hK4=>?_);refine cSeq (fun K5 hK5=>?_);refine cReg ?_;refine Xl F rfl (Xd rfl ?_);clear F a;intro a F;refine Xn call25 F rfl (Qm A l.length C DA dom.length DC _) ?_;rintro e w ⟨b2,b3,rfl,H2⟩;replace H:=H.join H2;clear H2;refine ⟨_,rfl,?_⟩;clear F a;intro a F;refine sNil ?_;refine hK5 _ _ ?_;clear hK5;refine wp_block ?_
 have HU:=(H.sel [2,3,5,4,1,0] rfl rfl)
 refine E6 4 F rfl rfl (enters_of func40 (by kernel_rfl) rfl) HU (GM l dom hl A C DA DC w0 hA hdn _ b2 b3 (fun w H=>H.cell 0 rfl rfl) (fun w H=>H.cell 1 rfl rfl) (fun w H=>hD.own H)) (fun pre us'=>us'=[.blk b7 [.int .i64 (pre.length:Int)] 3,.blk b6 (WO (YH pre)) 108,.blk b4 [.slice none 0 0] 23,.blk b5 [.bool false] 4]∧pre.length≤4096) (fun c pre us'=>c = .ret∧us'=[.blk b7 [.int .i64 ((pre.length - 1:Nat):Int)] 3,.blk b6 (WO (YH (pre.take (pre.length - 1)))) 108,.blk b4 [.slice none 0 0] 23,.blk b5 [.bool false] 4]∧4096 < pre.length) (⟨rfl,Nat.zero_le _⟩) (fun v=>[(8,v)]) ?_ ?_ ?_ ?_
 ·
  clear HU H F a;intro lp9 a w v K hF hK;refine Md.cReg ?_;refine Xa hF rfl ?_;clear hF;intro a hF
  refine Md.sNil ?_ hF
  exact hK _ hF
 ·
  clear HU H F a;intro lp9 pre x bx w ps1 qs a hi hpx hox H F
  obtain ⟨rfl,hpm⟩:=hi
  have hm24:x.many≤24:=by have:=hox.many;have:=hox.pc;omega
  refine wp_block ?_;refine cSeq (fun K6 hK6=>?_);refine cSeq (fun K7 hK7=>?_);refine cReg ?_;refine sLd isAgg3 F rfl rfl rfl (H.cell 1 rfl rfl) (Xj rfl rfl ZQ ?_);clear F a;intro a F;refine sNil ?_;refine hK7 _ _ ?_;clear hK7
  refine cIf F rfl (fun h19=>?_) (fun h19=>?_)
  ·
   replace h19:=Yh h19;refine cSeq (fun K8 hK8=>?_);refine cReg ?_;refine sSt H 3 sizeOf23 F rfl rfl rfl rfl rfl rfl ?_;clear H;intro w H;refine sSt H 4 sizeOf4 F rfl rfl rfl rfl rfl rfl ?_;clear H;intro w H;refine sNil ?_;refine hK8 _ _ ?_;clear hK8;refine wp_ret ?_;simp only [Exit.inBlock,Exit.then]
   exact rRet _ ⟨rfl,rfl,by rw [List.length_append,List.length_singleton];omega⟩ (by rw [List.length_append,List.length_singleton,Nat.add_sub_cancel,List.take_left' rfl];exact H)
  replace h19:=Yi h19;refine wp_skip ?_;refine hK6 _ _ ?_;clear hK6;refine cSeq (fun K9 hK9=>?_);refine cReg ?_;refine sLd isAgg3 F rfl rfl rfl (H.cell 1 rfl rfl) ?_;clear F a;intro a F
  refine Xm F rfl rfl (Z9 ?_) ?_
  focus omega
  clear F a;intro a F;refine sSt H 1 sizeOf3 F rfl rfl rfl rfl rfl rfl ?_;clear H;intro w H;refine sNil ?_;refine hK9 _ _ ?_;clear hK9;refine cSeq (fun K10 hK10=>?_);refine cRegRO (by kernel_rfl) H ?_;replace H:=H.drew;refine Xt 0 rfl F rfl (fun w=>rMv F rfl) H qq0 (Xz 1 rfl rfl rfl (fun a F w H=>rNc F rfl) H qq0 (Xu 2 rfl rfl (fun a F w=>rFa (f:=5) (k:=19) underlying71 rfl sizeOf68 rfl rfl F rfl) H qq0 (Xu 3 rfl rfl (fun a F w=>rMv F rfl) H qq0 (Xz 4 rfl rfl rfl (fun a F w H=>rNc F rfl) H qq0 (Xu 5 rfl rfl (fun a F w=>rFa (f:=4) (k:=18) underlying71 rfl sizeOf3 rfl rfl F rfl) H qq0 (Xz 6 rfl rfl rfl (fun a F w H=>rLd isAgg3 F rfl (show _=some (Value.int .i64 (x.many:Int)) from H.cell 0 rfl (Ub x))) H qq0 ?_))))));clear F a;intro a F
  refine XA (k:=7) (i:=7) rfl F rfl rfl (fun w H=>Df underlying68 sizeOf45 F rfl rfl ?_) H (fun _ _ _ h=>h) ?_
  focus (omega)
  clear F a;intro a F;refine Xw 8 rfl F rfl rfl (fun w H=>Dg underlying33 F rfl) H qq0 (Xu 9 rfl rfl (fun a F w=>rMv F rfl) H qq0 ?_);clear F a;intro a F;refine eNil (k:=10) (by kernel_rfl) ?_;refine hK10 _ _ ?_;clear hK10;refine wp_block ?_
  refine cLoopS [4,5,6,29,30] (fun m ups w=>∃ j:Nat,m=x.many - j∧ups=[(31,.int .i64 ((j:Nat):Int))]∧j≤x.many∧Own w0 none w (.blk bx x.cells 71 :: .blk b7 [.int .i64 ((pre.length+1:Nat):Int)] 3 :: .blk b6 (WO fun v=>YH pre v || Vq x j v) 108 :: .blk b4 [.slice none 0 0] 23 :: .blk b5 [.bool false] 4 :: qs)) F (x.many) [(31,.int .i64 ((0:Nat):Int))] ?_ ?_
  · have e0:(fun v=>YH pre v || Vq x 0 v)=YH pre:=funext fun v=>by simp [Vq]
    refine ⟨0,rfl,rfl,Nat.zero_le _,?_⟩
    rw [e0]
    exact H
  clear F
  clear H
  intro m ups a w hI F
  obtain ⟨j,rfl,rfl,hj,H⟩:=hI
  refine cSeq (fun K11 hK11=>?_);refine cReg ?_;refine Xm F rfl rfl YW ?_;clear F a;intro a F;refine sNil ?_;refine hK11 _ _ ?_;clear hK11;refine cSeq (fun K12 hK12=>?_)
  refine cIf F rfl (fun h32=>?_) (fun h32=>?_)
  ·
   replace h32:=of_decide_eq_true h32;refine wp_skip ?_;refine hK12 _ _ ?_;clear hK12;refine cSeq (fun K13 hK13=>?_);refine wp_block ?_;refine cSeq (fun K14 hK14=>?_);refine cReg ?_
   refine sIx underlying33 sizeOf45 F rfl rfl rfl rfl ?_ ?_
   focus (omega)
   clear F a;intro a F
   refine Xo underlying45 rfl ?si F rfl (CV (H.blk 0 rfl) hm24 (by omega)) ?_
   case si=>exact XC sizeOf45
   clear F a;intro a F;refine sAl H zeroValue45 F rfl rfl ?_;clear F a H;intro b10 a w F H
   refine sSr H 0 ?si F rfl rfl rfl ?s1 rfl rfl ?_
   case si=>exact XC sizeOf45
   case s1=>rfl
   clear H;intro w H;refine sNil ?_;refine hK14 _ _ ?_;clear hK14;refine cSeq (fun K15 hK15=>?_);refine cReg ?_;refine Xi (f:=1) (k:=1) underlying45 rfl sizeOf5 rfl rfl F rfl (Xc isAgg5 rfl (H.cell 0 rfl rfl) (Xj rfl rfl (XZ (y:=2)) ?_));clear F a;intro a F;refine sNil ?_;refine hK15 _ _ ?_;clear hK15
   refine cIf F rfl (fun h37=>?_) (fun h37=>?_)
   ·
    replace h37:=Yh h37
    have ej:(fun v=>(YH pre v || Vq x j v) || v == (x.ev j).val.toNat)=fun v=>YH pre v || Vq x (j+1) v:=funext fun v=>by
      rw [Jd,Bool.or_assoc,evW,h37];rfl
    refine cReg ?_;refine Xi (f:=3) (k:=3) underlying45 rfl sizeOf5 rfl rfl F rfl (Xc isAgg5 rfl (H.cell 0 rfl rfl) ?_);clear F a;intro a F
    refine sIaZ1 underlying108 sizeOf4 F rfl rfl rfl rfl ?_ ?_
    focus exact UInt8.toNat_lt _
    clear F a;intro a F;refine sSt H 3 sizeOf4 F rfl rfl rfl rfl rfl (Ex (UInt8.toNat_lt _)) ?_;clear H;intro w H;rw [Xb3 (UInt8.toNat_lt _)] at H;refine sNil ?_;refine hK13 _ _ ?_;clear hK13;refine cReg ?_
    refine Xm F rfl rfl (XJ (j:=1) ?_) ?_
    focus omega
    clear F a;intro a F;refine Xl F rfl ?_;clear F a;intro a F;refine sNil ?_;rw [ej] at H
    exact ⟨_,by omega,_,⟨j+1,rfl,rfl,by omega,H.tail⟩,F.toD (by repeat (first | exact trivial | refine Le.cons rfl ?_))⟩
   replace h37:=Yi h37
   have ej:(fun v=>YH pre v || Vq x j v)=fun v=>YH pre v || Vq x (j+1) v:=funext fun v=>by
     have:((x.ev j).kind == 2)=false:=by simpa using h37
     rw [Jd,evW,this];simp
   refine wp_skip ?_;refine hK13 _ _ ?_;clear hK13;refine cReg ?_
   refine Xm F rfl rfl (XJ (j:=1) ?_) ?_
   focus omega
   clear F a;intro a F;refine Xl F rfl ?_;clear F a;intro a F;refine sNil ?_;rw [ej] at H
   exact ⟨_,by omega,_,⟨j+1,rfl,rfl,by omega,H.tail⟩,F.toD (by repeat (first | exact trivial | refine Le.cons rfl ?_))⟩
  replace h32:=of_decide_eq_false h32;refine wp_exit ?_;simp only [Exit.inBlock,Exit.then,if_true]
  repeat (first | rw [if_pos rfl] | rw [if_neg (by decide)])
  obtain rfl:j=x.many:=by omega
  have el:(fun v=>YH pre v || Vq x x.many v)=YH (pre++[x]):=funext fun v=>(NC pre x v).symm
  rw [el] at H
  exact Xba _ ⟨rfl,by rw [List.length_append,List.length_singleton];omega⟩ (by rw [List.length_append,List.length_singleton];exact H)
 ·
  intro D w us' hi H
  obtain ⟨rfl,hpm⟩:=hi
  refine hK4 _ _ ?_;clear hK4;refine cSeq (fun K16 hK16=>?_);refine cReg ?_;refine Xa F rfl ?_;clear F a;intro a F
  replace H:=H.nilRws 5 1
  refine sNil ?_;refine hK16 _ _ ?_;clear hK16;refine cSeq (fun K17 hK17=>?_);refine cSeq (fun K18 hK18=>?_);refine cReg ?_
  refine Xo underlying108 rfl ?si F rfl (H.whole 3 rfl) ?_
  case si=>exact XC sizeOf108
  clear F a;intro a F;refine Xl F rfl ?_;clear F a;intro a F;refine sNil ?_;refine hK18 _ _ ?_;clear hK18;refine wp_block ?_
  refine cLoopS [4,5,42] (fun m ups w=>∃ (k:Nat) (A4:Option Addr) (c4:Nat),m=256 - k∧ups=[(11,.slice A4 (byW k (YH (YY l dom))).length c4),(43,.int .i64 ((k:Nat):Int))]∧k≤256∧Own w0 none w [.rws 5 1 (.slice A4 (byW k (YH (YY l dom))).length c4) ((byW k (YH (YY l dom))).map fun x=>[Go.Proofs.YtagnefpgidbhnaaGreatDoor.b8 x]),.obj D (.deferred (some [])),.blk b4 [.slice none 0 0] 23,.blk b5 [.bool false] 4]) F (256) [(11,.slice none 0 0),(43,.int .i64 ((0:Nat):Int))] ?_ ?_
  · exact ⟨0,none,0,rfl,rfl,Nat.zero_le _,H.sel [0,1,4,5] rfl rfl⟩
  clear F
  clear H
  intro m ups a w hI F
  obtain ⟨k,A4,c4,rfl,rfl,hk,H⟩:=hI
  refine cSeq (fun K19 hK19=>?_);refine cReg ?_;refine Xm F rfl rfl YW ?_;clear F a;intro a F;refine sNil ?_;refine hK19 _ _ ?_;clear hK19;refine cSeq (fun K20 hK20=>?_)
  refine cIf F rfl (fun h44=>?_) (fun h44=>?_)
  ·
   replace h44:=of_decide_eq_true h44;refine wp_skip ?_;refine hK20 _ _ ?_;clear hK20;refine cSeq (fun K21 hK21=>?_);refine wp_block ?_;refine cSeq (fun K22 hK22=>?_);refine cReg ?_;refine Xl F rfl (qIdG underlying108 sizeOf4 isAgg4 rfl rfl rfl rfl (by omega) (Ex (by omega)) (Xh rfl (Xh rfl ?_)));clear F a;intro a F;refine sNil ?_;refine hK22 _ _ ?_;clear hK22;refine cSeq (fun K23 hK23=>?_);refine cReg ?_;refine Xl F rfl ?_;clear F a;intro a F;refine sNil ?_;refine hK23 _ _ ?_;clear hK23
   refine cIf F rfl (fun h47=>?_) (fun h47=>?_)
   ·
    refine cReg ?_;refine Xl F rfl (Xd rfl (qCv underlying3 underlying5 rfl rfl rfl (Vr _) ?_));clear F a;intro a F;refine MP H underlying23 sizeOf5 zeroValue5 rfl F rfl rfl rfl rfl ?_;clear F a H;intro b51 a w F H
    refine G7 (bytes:=1) H 1 underlying23 typeInfo5 rfl rfl rfl rfl rfl rfl F rfl rfl rfl rfl rfl (H.whole 0 rfl) rfl ?s1 ?s2 ?_
    case s1=>rfl
    case s2=>(rw [List.length_map];have:=XaG k (YH (YY l dom));omega)
    clear F a H;intro A52 c52 a w F H;refine Xa F rfl ?_;clear F a;intro a F;refine sNil ?_;refine hK21 _ _ ?_;clear hK21;refine cReg ?_
    refine Xm F rfl rfl (XJ (j:=1) ?_) ?_
    focus omega
    clear F a;intro a F;refine Xl F rfl ?_;clear F a;intro a F;refine sNil ?_
    (have hT2:YH (YY l dom) k=true:=h47
     have e9:((byW k (YH (YY l dom))).map fun x=>[Go.Proofs.YtagnefpgidbhnaaGreatDoor.b8 x])++[[Value.int .u8 ((UInt8.ofNat k).toNat:Int)]]=(byW (k+1) (YH (YY l dom))).map fun x=>[Go.Proofs.YtagnefpgidbhnaaGreatDoor.b8 x]:=by rw [byW_T hT2,List.map_append];rfl
     have e8:((byW (k+1) (YH (YY l dom))).map fun x=>[Go.Proofs.YtagnefpgidbhnaaGreatDoor.b8 x]).length=(byW (k+1) (YH (YY l dom))).length:=List.length_map _
     rw [e9,e8] at H F
     exact ⟨_,by omega,_,⟨k+1,_,_,rfl,rfl,by omega,H.tail.sel [0,1,2,3] rfl rfl⟩,F.toD (by repeat (first | exact trivial | refine Le.cons rfl ?_))⟩)
   refine wp_skip ?_;refine hK21 _ _ ?_;clear hK21;refine cReg ?_
   refine Xm F rfl rfl (XJ (j:=1) ?_) ?_
   focus omega
   clear F a;intro a F;refine Xl F rfl ?_;clear F a;intro a F;refine sNil ?_
   (have hF2:YH (YY l dom) k=false:=h47
    refine ⟨_,?_,_,⟨k+1,A4,c4,rfl,rfl,by omega,?_⟩,?_⟩
    · omega
    · rw [XcR hF2];exact H
    · rw [XcR hF2];exact F.toD (by repeat (first | exact trivial | refine Le.cons rfl ?_)))
  replace h44:=of_decide_eq_false h44;refine wp_exit ?_;refine hK17 _ _ ?_;clear hK17;refine cSeq (fun K24 hK24=>?_);refine cReg ?_;refine Xl F rfl ?_;clear F a;intro a F;refine sSt H 2 sizeOf23 F rfl rfl rfl rfl rfl rfl ?_;clear H;intro w H;refine sSt H 3 sizeOf4 F rfl rfl rfl rfl rfl rfl ?_;clear H;intro w H;refine sNil ?_;refine hK24 _ _ ?_;clear hK24;refine wp_ret ?_;refine Xa5 ?_;refine DF H 1 rfl ?_;clear H;intro w H;refine NX results29 F rfl rfl isAgg23 isAgg4 H 2 3 rfl rfl ?_
  (obtain rfl:k=256:=by omega
   have e:Yg l dom=(byW 256 (YH (YY l dom)),true):=by unfold Yg;rw [if_neg (by omega)]
   rw [e]
   exact ⟨A4,c4,rfl,H.sel [0] rfl rfl⟩)
 ·
  intro D c pre w us' hpx hi H
  obtain ⟨rfl,rfl,hpm⟩:=hi
  have hlen:=hpx.length_le
  refine wp_ret ?_;refine xI ?_;refine Xa5 ?_;refine DF H 0 rfl ?_;clear H;intro w H;refine NX results29 F rfl rfl isAgg23 isAgg4 H 3 4 rfl rfl ?_
  (have e:Yg l dom=([],false):=by unfold Yg;rw [if_pos (by omega)]
   rw [e]
   exact ⟨none,0,rfl,(H.nilRws 5 1).sel [0] rfl rfl⟩)
end Md
-- SqH
open Go.RowKit
set_option maxRecDepth 100000
theorem Gc {p:Prg} {k:Nat} {l:List Ins} (h:X5 p=0) (hk:p.threads[k]? = some l):XH 6 l=true:=by
 have hV:=valid h
 have h3:YC p=true:=Zx h 3 (by omega)
 simp only [YC,List.all_eq_true] at h3
 have h4:=h3 l (List.mem_of_getElem? hk)
 simp only [XH,Bool.and_eq_true,decide_eq_true_eq] at h4 ⊢
 have h6:=hV.locs6
 refine ⟨h4.1,?_⟩
 have key:∀ (n:Nat) (q:List Ins) (i:Nat),YP (p.locs.length:Int) n i q=true→YP 6 n i q=true:=by
   intro n q
   induction q with
   | nil=>intro i _;rfl
   | cons x q ih=>
     intro i hi
     simp only [YP,Bool.and_eq_true] at hi ⊢
     refine ⟨?_,ih _ hi.2⟩
     have hx:=hi.1
     unfold ZV at hx ⊢
     rw [List.all_eq_true] at hx ⊢
     intro j hj
     have hj2:=hx j hj
     match j,hj2 with
     | 0,h | 1,h | 2,h | 4,h | 5,h | 6,h | 7,h=>exact h
     | 3,h=>
       simp only [Yr,Bool.or_eq_true,decide_eq_true_eq] at h ⊢
       rcases h with h | h
       · exact .inl h
       · exact .inr (by omega)
     | j+8,_=>rfl
 exact key _ _ _ h4.2
theorem Bg {a b:List UInt8} (h:∀ x ∈ a,x ∈ b):(XP a).length≤(XP b).length:=by
 unfold XP
 rw [← List.countP_eq_length_filter,← List.countP_eq_length_filter]
 refine List.countP_mono_left fun x _ hx=>?_
 simp only [List.contains_iff_mem] at hx ⊢
 exact h x hx
theorem GP (l:List UInt8):XP (XP l)=XP l:=(Ml (l:=XP l) (m:=XP l) (U5 l) fun _=>Iff.rfl).symm
def G6 (p:Prg) (vals:List UInt8):Option (List UInt8):=
 if p.threads.all (fun l=>(Yg l vals).2)=true then some (XP (vals++p.threads.flatMap fun l=>(Yg l vals).1)) else none
def goV (p:Prg) (most:Int):Nat→List UInt8→List UInt8 × Nat
 | 0,_=>([],5)
 | f+1,vals=>if most < (vals.length:Int) then ([],5) else match G6 p vals with
   | none=>([],5)
   | some nx=>if nx.length=vals.length then (vals,0) else goV p most f nx
def YT (p:Prg) (most:Int):List UInt8 × Nat:=if most < 0∨16 < most∨X5 p ≠ 0 then ([],2) else goV p most 18 (XP p.init)
theorem Ld {p:Prg} {most:Int} {f:Nat} {vals:List UInt8} (h:most < (vals.length:Int)):goV p most f vals=([],5):=by
 cases f with
 | zero=>rfl
 | succ f=>unfold goV;rw [if_pos h]
theorem Lc {p:Prg} {most:Int} {f:Nat} {vals:List UInt8} (h:G6 p vals=none):goV p most f vals=([],5):=by
 cases f with
 | zero=>rfl
 | succ f=>
   unfold goV
   split
   · rfl
   · rw [h]
theorem DX {p:Prg} {most:Int} {f:Nat} {vals nx:List UInt8} (h:¬ most < (vals.length:Int)) (hs:G6 p vals=some nx) (hl:nx.length=vals.length):goV p most (f+1) vals=(vals,0):=by
 unfold goV;rw [if_neg h,hs];show (if nx.length=vals.length then _ else _)=_;rw [if_pos hl]
theorem Xax {p:Prg} {most:Int} {f:Nat} {vals nx:List UInt8} (h:¬ most < (vals.length:Int)) (hs:G6 p vals=some nx) (hl:¬ nx.length=vals.length):goV p most (f+1) vals=goV p most f nx:=by
 rw [goV,if_neg h,hs];show (if nx.length=vals.length then _ else _)=_;rw [if_neg hl]
theorem ZL {p:Prg} {most:Int} (h:most < 0∨16 < most∨X5 p ≠ 0):YT p most=([],2):=by unfold YT;rw [if_pos h]
theorem QB {p:Prg} {most:Int} (h0:¬ most < 0) (h1:¬ 16 < most) (h2:X5 p=0):YT p most=goV p most 18 (XP p.init):=by
 unfold YT;rw [if_neg (by rintro (h | h | h);exact h0 h;exact h1 h;exact h h2)]
theorem Qx (l:List Ins) (dom:List UInt8):(Yg l dom).1.length≤256:=by
 unfold Yg;split
 · exact Nat.zero_le _
 · exact XaG _ _
def Wi (p:Prg) (vals:List UInt8) (j:Nat):List UInt8:=vals++(p.threads.take j).flatMap fun l=>(Yg l vals).1
theorem LW {p:Prg} {vals:List UInt8} {j:Nat} {l:List Ins} (h:p.threads[j]? = some l):Wi p vals (j+1)=Wi p vals j++(Yg l vals).1:=by
 unfold Wi;rw [List.take_add_one,h,List.flatMap_append];simp
theorem M2 (p:Prg) (vals:List UInt8):∀ j,(Wi p vals j).length≤vals.length+256 * j:=fun j=>by
 have h:∀ (q:List (List Ins)),(q.flatMap fun l=>(Yg l vals).1).length≤256 * q.length:=fun q=>by
   induction q with
   | nil=>simp
   | cons l q ih=>
     rw [List.flatMap_cons,List.length_append,List.length_cons]
     have:=Qx l vals
     omega
 unfold Wi
 rw [List.length_append]
 have h1:=h (p.threads.take j)
 have h2:(p.threads.take j).length≤j:=by rw [List.length_take];omega
 have:256 * (p.threads.take j).length≤256 * j:=Nat.mul_le_mul_left _ h2
 omega
theorem Jl {p:Prg} {vals:List UInt8} {l:List Ins} (hl:l ∈ p.threads) (h:(Yg l vals).2=false):G6 p vals=none:=by
 unfold G6
 rw [if_neg]
 intro h1
 have:=List.all_eq_true.1 h1 l hl
 rw [h] at this;cases this
theorem Ul {p:Prg} {vals:List UInt8} (h:∀ l ∈ p.threads,(Yg l vals).2=true):G6 p vals=some (XP (Wi p vals p.threads.length)):=by
 unfold G6 Wi
 rw [if_pos (List.all_eq_true.2 h),List.take_length]
theorem XaX {p:Prg} {vals:List UInt8} (hd:XP vals=vals) (j:Nat):vals.length≤(XP (Wi p vals j)).length:=by
 rw [← congrArg List.length hd]
 exact Bg fun x hx=>List.mem_append_left _ hx
abbrev XN (l:List UInt8):List (List Value):=l.map fun x=>[b8 x]
def Wl (q:List UInt8 × Nat) (w0:World) (e:Ending) (w':World):Prop:=
 ∃ (A:Option Addr) (C:Nat),e = .returned (.tuple #[.slice A q.1.length C,.int .i64 (q.2:Int)])∧Own w0 none w' [.rws 5 1 (.slice A q.1.length C) (XN q.1)]
theorem Y5 {w0 w:World} {rs:List Res} (H:Own w0 none w rs) (err:Nat):Wl ([],err) w0 (.returned (.tuple #[.slice none 0 0,.int .i64 (err:Int)])) w:=
 ⟨none,0,rfl,(H.nilRws 5 1).sel [0] rfl rfl⟩
theorem XL {l:List UInt8}:∀ r ∈ XN l,r.length=1:=fun _ hr=>Nw hr
theorem JH {l:List UInt8}:∀ r ∈ XN l,r.all (·.oneCell')=true:=fun r hr=>by
 obtain ⟨x,_,rfl⟩:=List.mem_map.1 hr;rfl
set_option maxHeartbeats 4000000 in
theorem ZS (cs:List Value) (p:Prg) (most:Int) (w0:World) (hP:ProgAt w0 cs p) (hN:NeedsAt w0) :
   Calls Tryz.prog 13 #[.agg cs.toArray,.int .i64 most] w0 (Wl (YT p most) w0):=by
 have H:=Own.start w0 none
 have hP0:=hP
 obtain ⟨LA,LC,IA,IC,TA,TC,h,ccs,hp⟩:=hP
 obtain ⟨d1,d2,d3,d4,d5,rfl⟩:=Xat (Zc hp.cond)
 have hcs:=hp.cs
 subst hcs
 have hn:=hp.threadsN
 refine XE Tryz.func13 rfl Tryz.ntmps13 rfl (fun a F=>?_);refine cSR fun K1 hK1=>?_;refine sBx H F rfl rfl rfl ?_;clear F a H;intro b2 a w F H;refine Xa F rfl (Xh rfl (qNK hK1 ?_));clear hK1;clear F a;intro a F;refine cSeq (fun K2 hK2=>?_);refine cSR fun K3 hK3=>Xl F rfl (Xj rfl rfl YW (Xd rfl ?_));clear F a;intro a F
 refine F.split 14 rfl ?_ ?_ <;> (clear F;intro h14 F)
 ·
  replace h14:=of_decide_eq_true h14;refine Xe F (Xf (Xg rfl rfl (Xd rfl (Xf (Xf (Xf (Xg rfl rfl (qNK hK3 ?_))))))));clear hK3;clear F a;intro a F;refine cIfT F rfl ?_;refine cSR fun K4 hK4=>Xa F rfl (Xh rfl (qNK hK4 ?_));clear hK4;clear F a;intro a F;refine wp_ret ?_;simp only [Exit.then];refine Zo Tryz.results13 F rfl rfl ?_
  (rw [ZL (.inl h14)];exact Y5 H 2)
 replace h14:=of_decide_eq_false h14;refine Xl F rfl (Xj rfl rfl UO (Xg rfl rfl (Xd rfl ?_)));clear F a;intro a F
 refine F.split 18 rfl ?_ ?_ <;> (clear F;intro h18 F)
 ·
  replace h18:=of_decide_eq_true h18;refine Xe F (Xf (Xf (Xg rfl rfl (qNK hK3 ?_))));clear hK3;clear F a;intro a F;refine cIfT F rfl ?_;refine cSR fun K5 hK5=>Xa F rfl (Xh rfl (qNK hK5 ?_));clear hK5;clear F a;intro a F;refine wp_ret ?_;simp only [Exit.then];refine Zo Tryz.results13 F rfl rfl ?_
  (rw [ZL (.inr (.inl h18))];exact Y5 H 2)
 replace h18:=of_decide_eq_false h18
 refine Xo Tryz.underlying30 rfl ?si F rfl (H.whole 0 rfl) ?_
 case si=>exact XC Tryz.sizeOf30
 clear F a;intro a F;refine Xn Tryz.call27 F rfl (LI _ p _ (hP0.own H) (hN.own H)) (gG H ?_);clear F a H;intro a w F H;refine Xm F rfl rfl U7 (Xg rfl rfl (qNK hK3 ?_));clear hK3;clear F a;intro a F
 refine cIf F rfl (fun h22=>?_) (fun h22=>?_)
 ·
  replace h22:=UL h22;refine cSR fun K6 hK6=>Xa F rfl (Xh rfl (qNK hK6 ?_));clear hK6;clear F a;intro a F;refine wp_ret ?_;simp only [Exit.then];refine Zo Tryz.results13 F rfl rfl ?_
  (rw [ZL (.inr (.inr h22))];exact Y5 H 2)
 replace h22:=UM h22
 have hr0:X5 p=0:=h22
 have hV:=valid hr0
 refine wp_skip (hK2 _ _ (cSR fun K7 hK7=>Xi (f:=2) (k:=2) Tryz.underlying30 rfl Tryz.sizeOf23 rfl rfl F rfl (Xc Tryz.isAgg23 rfl (H.cell 0 rfl rfl) ?_)));clear hK2;clear F a;intro a F;refine Xn Tryz.call24 F rfl (WW IA IC p.init _ (RowsAt.own hp.init H) (by have:=hV.init;have:=hV.locs6;omega)) ?_;rintro e w ⟨A2,c2,rfl,H2⟩;replace H:=H.join H2;clear H2;refine ⟨_,rfl,?_⟩;clear F a;intro a F;refine Xa F rfl (qNK hK7 ?_);clear hK7;clear F a;intro a F;refine wp_block ?_
 refine cLoopS [1,2] (fun m ups w=>∃ (f:Nat) (vals:List UInt8) (A2:Option Addr) (c2:Nat),m=f∧ups=[(6,.slice A2 vals.length c2)]∧XP vals=vals∧18≤vals.length+f∧goV p most f vals=YT p most∧Own w0 none w [.rws 5 1 (.slice A2 vals.length c2) (XN vals),.blk b2 ([.string p.name,.slice LA p.locs.length LC,.slice IA p.init.length IC,.slice TA p.threads.length TC,Go.Proofs.YtagnefpgidbhnaaGreatDoor.b8 p.ask]++[d1,d2,d3,d4,d5]) 30]) F (18) [(6,.slice A2 (XP p.init).length c2)] ?_ ?_
 · exact ⟨18,XP p.init,A2,c2,rfl,rfl,GP _,by omega,(QB h14 h18 hr0).symm,H⟩
 clear F
 clear H
 intro m ups a w hI F
 obtain ⟨f,vals,A2,c2,rfl,rfl,hdd,hfl,hgo,H⟩:=hI
 refine wp_block ?_;refine cSeq (fun K8 hK8=>?_);refine cSR fun K9 hK9=>Xl F rfl (Xs Tryz.underlying23 rfl (Xd rfl (Xj rfl rfl UO (qNK hK9 ?_))));clear hK9;clear F a;intro a F
 refine cIf F rfl (fun h29=>?_) (fun h29=>?_)
 ·
  replace h29:=of_decide_eq_true h29;refine cSR fun K10 hK10=>Xa F rfl (Xh rfl (qNK hK10 ?_));clear hK10;clear F a;intro a F;refine wp_ret ?_;refine xI ?_;refine Zo Tryz.results13 F rfl rfl ?_
  (rw [← hgo,Ld h29];exact Y5 H 5)
 replace h29:=of_decide_eq_false h29
 have h29':¬ most < (vals.length:Int):=by omega
 obtain ⟨f,rfl⟩:∃ f',m=f'+1:=⟨m - 1,by omega⟩
 refine wp_skip (hK8 _ _ (cSR fun K11 hK11=>Xl F rfl ?_));clear hK8;clear F a;intro a F;refine Xn Tryz.call28 F rfl (UJ A2 c2 vals _ (H.rowsAt 0 rfl XL (by omega)) (by omega)) ?_;rintro e w ⟨A3,c3,rfl,H2⟩;replace H:=H.join H2;clear H2;refine ⟨_,rfl,?_⟩;clear F a;intro a F;refine Xa F rfl (qNK hK11 ?_);clear hK11;clear F a;intro a F;refine cSeq (fun K12 hK12=>?_);refine cSR fun K13 hK13=>Xi (f:=3) (k:=3) Tryz.underlying30 rfl Tryz.sizeOf25 rfl rfl F rfl (Xc Tryz.isAgg25 rfl (H.cell 2 rfl rfl) (Xs Tryz.underlying25 rfl (Xd rfl (qNK hK13 ?_))));clear hK13;clear F a;intro a F;refine wp_block ?_
 refine cLoopS [1,2,6,33,34] (fun m ups w=>∃ (j:Nat) (A3:Option Addr) (c3:Nat),m=p.threads.length - j∧ups=[(7,.slice A3 (Wi p vals j).length c3),(35,.int .i64 ((j:Nat):Int))]∧j≤p.threads.length∧(∀ i l,i < j→p.threads[i]? = some l→(Yg l vals).2=true)∧Own w0 none w [.rws 5 1 (.slice A3 (Wi p vals j).length c3) (XN (Wi p vals j)),.rws 5 1 (.slice A2 vals.length c2) (XN vals),.blk b2 ([.string p.name,.slice LA p.locs.length LC,.slice IA p.init.length IC,.slice TA p.threads.length TC,Go.Proofs.YtagnefpgidbhnaaGreatDoor.b8 p.ask]++[d1,d2,d3,d4,d5]) 30]) F (p.threads.length) [(7,.slice A3 vals.length c3),(35,.int .i64 ((0:Nat):Int))] ?_ ?_
 · have e0:Wi p vals 0=vals:=by simp [Wi]
   refine ⟨0,A3,c3,rfl,by rw [e0],Nat.zero_le _,fun i l hi=>by omega,?_⟩
   rw [e0];exact H
 clear F
 clear H
 intro m ups a w hI F
 obtain ⟨j,A3,c3,rfl,rfl,hj,hok,H⟩:=hI
 refine cSR fun K14 hK14=>Xm F rfl rfl YW (qNK hK14 ?_);clear hK14;clear F a;intro a F;refine cSeq (fun K15 hK15=>?_)
 refine cIf F rfl (fun h36=>?_) (fun h36=>?_)
 ·
  replace h36:=of_decide_eq_true h36
  have hjl:j < p.threads.length:=by omega
  obtain ⟨l,hl⟩:∃ l,p.threads[j]? = some l:=⟨_,List.getElem?_eq_getElem hjl⟩
  obtain ⟨bT,oT,BT,CT,rfl,hT1,hT2,hT3⟩:=hp.threads j l hl
  have hl6:=Gc hr0 hl
  refine wp_skip (hK15 _ _ ?_);clear hK15;refine cSeq (fun K16 hK16=>?_);refine wp_block ?_;refine cSR fun K17 hK17=>?_
  refine sIx Tryz.underlying25 Tryz.sizeOf22 F rfl rfl rfl rfl ?_ ?_
  focus (omega)
  clear F a;intro a F;refine sLd Tryz.isAgg22 F rfl rfl rfl (H.arg hT1) (Xh rfl (qNK hK17 (qSR fun K18 hK18=>Xd rfl (Xd rfl ?_))));clear hK17;clear F a;intro a F;refine Xn Tryz.call29 F rfl (Md.writes_any l vals hl6 BT CT A2 c2 _ (hT2.own H) (H.rowsAt 1 rfl XL (by omega)) (by omega)) ?_;rintro e w ⟨A5,c5,rfl,H2⟩;replace H:=H.join H2;clear H2;refine ⟨_,rfl,?_⟩;clear F a;intro a F;refine Xl F rfl (XB rfl rfl (XB rfl rfl (Xh rfl (Xh rfl (qNK hK18 ?_)))));clear hK18;clear F a;intro a F;refine cSeq (fun K19 hK19=>?_);refine cSR fun K20 hK20=>Xl F rfl (Es rfl rfl rfl (qNK hK20 ?_));clear hK20;clear F a;intro a F
  refine cIf F rfl (fun h46=>?_) (fun h46=>?_)
  ·
   replace h46:=ZA h46;refine cSR fun K21 hK21=>Xa F rfl (Xh rfl (qNK hK21 ?_));clear hK21;clear F a;intro a F;refine wp_ret ?_;refine xI ?_;refine Zo Tryz.results13 F rfl rfl ?_
   (rw [← hgo,Lc (Jl (List.mem_of_getElem? hl) h46)];exact Y5 H 5)
  replace h46:=ZB h46;refine wp_skip (hK19 _ _ (cReg (Xl F rfl (Xd rfl ?_))));clear hK19;clear F a;intro a F;refine E0 (bytes:=1) (sz:=1) H 1 Tryz.underlying23 Tryz.typeInfo5 rfl rfl rfl rfl rfl rfl F rfl rfl rfl rfl rfl ?hm ((H.rowsAt 0 rfl XL (by omega))) (XL) (JH) ?hb ?_
  case hm=>(simp;done)
  case hb=>exact ((by rw [List.length_map];have:=M2 p vals j;have:=Qx l vals;have:=hV.thr4;omega))
  clear F a H;intro A49 c49 a w F H;refine Xa F rfl (qNK hK16 (WN ?_));clear hK16;clear F a;intro a F
  refine Xm F rfl rfl (XJ (j:=1) ?_) ?_
  focus omega
  clear F a;intro a F;refine Xl F rfl ?_;clear F a;intro a F;refine sNil ?_
  have e9:XN (Wi p vals j)++XN (Yg l vals).1=XN (Wi p vals (j+1)):=by rw [LW hl];simp [XN]
  have e8:(XN (Wi p vals (j+1))).length=(Wi p vals (j+1)).length:=List.length_map _
  rw [e9,e8] at H F
  refine ⟨_,by omega,_,⟨j+1,A49,c49,rfl,rfl,by omega,fun i l' hi hl'=>?_,H.tail⟩,F.tt⟩
  rcases Nat.lt_or_ge i j with hij | hij
  · exact hok i l' hij hl'
  · obtain rfl:i=j:=by omega
    obtain rfl:=Option.some.inj (hl.symm.trans hl')
    exact h46
 replace h36:=of_decide_eq_false h36
 obtain rfl:j=p.threads.length:=by omega
 refine wp_exit ?_;refine hK12 _ _ (cSR fun K22 hK22=>Xl F rfl ?_);clear hK12;clear F a;intro a F;refine Xn Tryz.call24 F rfl (WW A3 c3 (Wi p vals p.threads.length) _ (H.rowsAt 0 rfl XL (by omega)) (by have:=M2 p vals p.threads.length;have:=hV.thr4;omega)) ?_;rintro e w ⟨A6,c6,rfl,H2⟩;replace H:=H.join H2;clear H2;refine ⟨_,rfl,?_⟩;clear F a;intro a F;refine Xa F rfl (qNK hK22 ?_);clear hK22;clear F a;intro a F;refine cSeq (fun K23 hK23=>?_);refine cSR fun K24 hK24=>Xl F rfl (Xs Tryz.underlying23 rfl (Xd rfl (Xs Tryz.underlying23 rfl (Xj rfl rfl ZQ (qNK hK24 ?_)))));clear hK24;clear F a;intro a F
 refine cIf F rfl (fun h57=>?_) (fun h57=>?_)
 ·
  replace h57:=Yh h57
  have hst:=Ul (p:=p) (vals:=vals) (fun l hl=>by obtain ⟨i,hi⟩:=List.mem_iff_getElem?.1 hl;exact hok i l (List.getElem?_eq_some_iff.1 hi).1 hi)
  refine cSR fun K25 hK25=>Xl F rfl (Xh rfl (Xh rfl (qNK hK25 ?_)));clear hK25;clear F a;intro a F;refine wp_ret ?_;refine xI ?_;refine Zo Tryz.results13 F rfl rfl ?_
  (rw [← hgo,DX h29' hst (by omega)];exact ⟨A2,c2,rfl,H.sel [2] rfl rfl⟩)
 replace h57:=Yi h57
 have hst:=Ul (p:=p) (vals:=vals) (fun l hl=>by obtain ⟨i,hi⟩:=List.mem_iff_getElem?.1 hl;exact hok i l (List.getElem?_eq_some_iff.1 hi).1 hi)
 refine wp_skip (hK23 _ _ (cReg (Xl F rfl (Xh rfl ?_))));clear hK23;clear F a;intro a F;refine sNil ?_
 have hle:=XaX hdd (p:=p) p.threads.length
 exact ⟨f,by omega,_,⟨f,XP (Wi p vals p.threads.length),A6,c6,rfl,rfl,GP _,by omega,by rw [← hgo,Xax h29' hst (by omega)],H.sel [0,3] rfl rfl⟩,F.tt⟩
-- SqI
open Go.RowKit
set_option maxRecDepth 100000
def Ye (evs:List Ev):List UInt8:=(evs.filter fun e=>e.kind == 1).map Ev.val
theorem Cj {evs:List Ev} {j:Nat} {e:Ev} (h:evs[j]? = some e) (hk:e.kind=1):Ye (evs.take (j+1))=Ye (evs.take j)++[e.val]:=by
 unfold Ye;rw [List.take_add_one,h,List.filter_append];simp [hk]
theorem Ck {evs:List Ev} {j:Nat} {e:Ev} (h:evs[j]? = some e) (hk:e.kind ≠ 1):Ye (evs.take (j+1))=Ye (evs.take j):=by
 have:(e.kind == 1)=false:=by simpa using hk
 unfold Ye;rw [List.take_add_one,h,List.filter_append];simp [this]
theorem Db (evs:List Ev) (j:Nat):(Ye (evs.take j)).length≤j:=by
 unfold Ye;rw [List.length_map]
 exact Nat.le_trans (List.length_filter_le _ _) (by rw [List.length_take];omega)
set_option maxHeartbeats 4000000 in
theorem BH (q:PlP) (w0:World) (hE:RowsAt w0 q.A1 7 (q.path.evs.map Ev.cells)) (hn:q.path.evs.length≤1000000) :
   Calls Tryz.prog 10 #[.agg q.cells.toArray] w0 fun e w'=>∃ (A:Option Addr) (C:Nat),e = .returned (.slice A (Ye q.path.evs).length C)∧Own w0 none w' [.rws 5 1 (.slice A (Ye q.path.evs).length C) (XN (Ye q.path.evs))]:=by
 have H:=Own.start w0 none
 refine XE Tryz.func10 rfl Tryz.ntmps10 rfl (fun a F=>?_);refine cSR fun K1 hK1=>?_;refine sBx H F rfl rfl rfl ?_;clear F a H;intro b1 a w F H;refine Xa F rfl (qNK hK1 (qSR fun K2 hK2=>Xh rfl ?_));clear hK1;clear F a;intro a F
 replace H:=H.nilRws 5 1
 refine nK hK2 ?_;clear hK2;refine cSeq (fun K3 hK3=>?_);refine cSR fun K4 hK4=>Xi (f:=0) (k:=0) Tryz.underlying37 rfl Tryz.sizeOf33 rfl rfl F rfl (Xc Tryz.isAgg33 rfl (H.cell 1 rfl rfl) (Xs Tryz.underlying33 rfl (Xd rfl (qNK hK4 ?_))));clear hK4;clear F a;intro a F;refine wp_block ?_
 refine cLoopS [7,8] (fun m ups w=>∃ (j:Nat) (A3:Option Addr) (c3:Nat),m=q.path.evs.length - j∧ups=[(3,.slice A3 (Ye (q.path.evs.take j)).length c3),(9,.int .i64 ((j:Nat):Int))]∧j≤q.path.evs.length∧Own w0 none w [.rws 5 1 (.slice A3 (Ye (q.path.evs.take j)).length c3) (XN (Ye (q.path.evs.take j)))]) F (q.path.evs.length) [(3,.slice none 0 0),(9,.int .i64 ((0:Nat):Int))] ?_ ?_
 · exact ⟨0,none,0,rfl,rfl,Nat.zero_le _,H.sel [0] rfl rfl⟩
 clear F
 clear H
 intro m ups a w hI F
 obtain ⟨j,A3,c3,rfl,rfl,hj,H⟩:=hI
 refine cSR fun K5 hK5=>Xm F rfl rfl YW (qNK hK5 ?_);clear hK5;clear F a;intro a F;refine cSeq (fun K6 hK6=>?_)
 refine cIf F rfl (fun h10=>?_) (fun h10=>?_)
 ·
  replace h10:=of_decide_eq_true h10
  have hjl:j < q.path.evs.length:=by omega
  obtain ⟨x,hx⟩:∃ x,q.path.evs[j]? = some x:=⟨_,List.getElem?_eq_getElem hjl⟩
  obtain ⟨bE,oE,hA1,hR1⟩:=hE j x.cells (by rw [List.getElem?_map,hx];rfl)
  refine wp_skip (hK6 _ _ ?_);clear hK6;refine cSeq (fun K7 hK7=>?_);refine wp_block ?_;refine cSR fun K8 hK8=>sIx (b:=bE) (o:=oE) Tryz.underlying33 Tryz.sizeOf45 F rfl rfl (by rw [← hA1];rfl) rfl (by omega) ?_;clear F a;intro a F
  refine Xo Tryz.underlying45 rfl ?si F rfl (H.argR hR1) ?_
  case si=>exact XC Tryz.sizeOf45
  clear F a;intro a F;refine sAl H Tryz.zeroValue45 F rfl rfl ?_;clear F a H;intro b5 a w F H
  refine sSr H 0 ?si F rfl rfl rfl ?s1 rfl rfl ?_
  case si=>exact XC Tryz.sizeOf45
  case s1=>rfl
  clear H;intro w H;refine nK hK8 (cSR fun K9 hK9=>Xi (f:=1) (k:=1) Tryz.underlying45 rfl Tryz.sizeOf5 rfl rfl F rfl (Xc Tryz.isAgg5 rfl (H.cell 0 rfl rfl) (Xj rfl rfl (XZ (y:=1)) (qNK hK9 ?_))));clear hK8 hK9;clear F a;intro a F
  refine cIf F rfl (fun h15=>?_) (fun h15=>?_)
  ·
   replace h15:=Yh h15;refine cReg (Xl F rfl (Xb (f:=3) (k:=3) Tryz.underlying45 rfl Tryz.sizeOf5 rfl rfl rfl (Xc Tryz.isAgg5 rfl (H.cell 0 rfl rfl) ?_)));clear F a;intro a F;refine MP H Tryz.underlying23 Tryz.sizeOf5 Tryz.zeroValue5 rfl F rfl rfl rfl rfl ?_;clear F a H;intro b19 a w F H
   refine G7 (bytes:=1) H 2 Tryz.underlying23 Tryz.typeInfo5 rfl rfl rfl rfl rfl rfl F rfl rfl rfl rfl rfl (H.whole 0 rfl) rfl ?s1 ?s2 ?_
   case s1=>rfl
   case s2=>(rw [List.length_map];have:=Db q.path.evs j;omega)
   clear F a H;intro A20 c20 a w F H;refine Xa F rfl (qNK hK7 (WN ?_));clear hK7;clear F a;intro a F
   refine Xm F rfl rfl (XJ (j:=1) ?_) ?_
   focus omega
   clear F a;intro a F;refine Xl F rfl ?_;clear F a;intro a F;refine sNil ?_
   (have hk:x.kind=1:=h15
    have e9:XN (Ye (q.path.evs.take j))++[[Go.Proofs.YtagnefpgidbhnaaGreatDoor.b8 x.val]]=XN (Ye (q.path.evs.take (j+1))):=by rw [Cj hx hk];simp [XN]
    have e8:(XN (Ye (q.path.evs.take (j+1)))).length=(Ye (q.path.evs.take (j+1))).length:=List.length_map _
    rw [e9,e8] at H F
    exact ⟨_,by omega,_,⟨j+1,_,_,rfl,rfl,by omega,H.sel [2] rfl rfl⟩,F.tt⟩)
  replace h15:=Yi h15;refine wp_skip (hK7 _ _ (cReg ?_));clear hK7
  refine Xm F rfl rfl (XJ (j:=1) ?_) ?_
  focus omega
  clear F a;intro a F;refine Xl F rfl ?_;clear F a;intro a F;refine sNil ?_
  (have hk:x.kind ≠ 1:=h15
   rw [← Ck hx hk] at H F
   exact ⟨_,by omega,_,⟨j+1,_,_,rfl,rfl,by omega,H.sel [1] rfl rfl⟩,F.tt⟩)
 replace h10:=of_decide_eq_false h10;refine wp_exit ?_;refine hK3 _ _ (cSR fun K10 hK10=>Xl F rfl (Xh rfl (qNK hK10 ?_)));clear hK3 hK10;clear F a;intro a F;refine wp_ret ?_;refine bRet Tryz.results10 F rfl ?_
 obtain rfl:j=q.path.evs.length:=by omega
 rw [List.take_length] at H
 exact ⟨A3,c3,by rw [List.take_length],H⟩
end Go.Proofs.YtagnefpgidbhnaaGreatDoor
