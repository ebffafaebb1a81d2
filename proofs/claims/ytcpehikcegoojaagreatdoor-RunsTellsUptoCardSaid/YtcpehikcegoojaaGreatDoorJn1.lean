/-
  Plain Lean: machines with store Qz (a store of thread t: its location at 42 + 24 t + 2 i, its value behind; the buffer's length at 138 + t). Conditions: none.
-/
import Derived.Test.YtcpehikcegoojaaGreatDoorAtK
import Derived.Test.YtcpehikcegoojaaGreatDoorVcL
import Derived.Laws.IdiomCopy
set_option linter.unusedSimpArgs false
set_option linter.unusedVariables false
namespace Go.Proofs.YtcpehikcegoojaaGreatDoor
-- BfP
structure Pss where
 t:UInt8
 d:Bool
 l:UInt8
deriving DecidableEq
def Pss.cells (x:Pss):List Value:=[b8 x.t,.bool x.d,b8 x.l]
def JA (s:By) (t:Nat):Nat:=(s (138+t)).toNat
def JU (s:By) (t i:Nat):UInt8:=s (42+t * 24+i * 2)
def Nm (s:By) (t i:Nat):UInt8:=s (42+t * 24+i * 2+1)
def QS (m:UInt8):Bool:=decide (1≤m) && decide (m≤3)
def Qf (s:By):By:=fun i=>if i < 42 then s i else 0
def Mm (p:Prg) (m:UInt8) (s:By) (t:Nat):Nat:=if m ≠ 1∧t < p.threads.length then (s (t * 9)).toNat else 0
def Qo (p:Prg) (m:UInt8) (s:By) (t i:Nat):Bool:=
 if JA s t≤i then JU s t i == 0 && Nm s t i == 0
 else decide ((JU s t i).toNat < p.locs.length) && !(m == 3 && decide (0 < i) && decide (JU s t i < JU s t (i - 1)))
def Nd (p:Prg) (m:UInt8) (s:By) (t:Nat):Bool:=decide (JA s t≤Mm p m s t) && Xg6 12 (Qo p m s t)
def N0 (p:Prg) (m:UInt8) (s:By):Bool:=QS m && Qi p (Qf s) && Xg6 4 (Nd p m s)
def QQ (x:Ins) (m:UInt8) (s:By) (t:Nat):Bool:=
 if x.op=4∨x.op=5∨x.op=6 then s (138+t) == 0
 else if x.op=7 then !(x.mode == 3 || (m == 3 && x.mode == 5)) || s (138+t) == 0
 else true
def JP (p:Prg) (m:UInt8) (s:By) (t:Nat):Bool:=match EQ p s t with
 | some x=>QQ x m s t
 | none=>false
def JM (m:UInt8) (s:By) (t i:Nat):Pss:=⟨UInt8.ofNat t,true,if m=3 then JU s t i else 0⟩
def J0 (m:UInt8) (s:By) (t:Nat):Nat→List Pss
 | 0=>[]
 | n+1=>if n=0∨(m=3∧JU s t n ≠ JU s t (n - 1)) then J0 m s t n++[JM m s t n] else J0 m s t n
def BG (p:Prg) (m:UInt8) (s:By) (t:Nat):List Pss:=(if JP p m s t=true then [⟨UInt8.ofNat t,false,0⟩] else [])++J0 m s t (JA s t)
def QZ (p:Prg) (m:UInt8) (s:By):Nat→List Pss
 | 0=>[]
 | n+1=>QZ p m s n++BG p m s n
def JG (p:Prg) (m:UInt8) (s:By):List Pss:=QZ p m s p.threads.length
def Qj (p:Prg) (m:UInt8) (s:By):List Pss:=if N0 p m s then JG p m s else []
def Mn (m:UInt8) (s:By) (t:Nat) (loc:UInt8):Nat→Nat
 | 0=>0
 | n+1=>if m=3∧loc < JU s t n then Mn m s t loc n else n+1
def stP (loc val:UInt8):By:=fun i=>if i=0 then loc else if i=1 then val else 0
def Xbj (s:By) (t a:Nat) (st:By):By:=put (lay (lay s (42+t * 24+(a+1) * 2) ((JA s t - a) * 2) (cut s (42+t * 24+a * 2))) (42+t * 24+a * 2) 2 st) (138+t) (s (138+t)+1)
def Ce (m:UInt8) (s:By) (t:Nat) (st:By):By:=Xbj s t (Mn m s t (st 0) (JA s t)) st
def MM (m:UInt8) (s:By) (t:Nat) (loc:UInt8):Nat→Nat→Nat
 | 0,i=>i
 | f+1,i=>if m=3∧JU s t i ≠ loc then MM m s t loc f (i+1) else i
def L1 (m:UInt8) (s:By) (t:Nat) (loc:UInt8):Nat:=MM m s t loc (JA s t) 0
def Qy (s:By) (t a:Nat):By:=
 put (put (lay (lay s (42+t * 24+a * 2) ((JA s t - 1 - a) * 2) (cut s (42+t * 24+(a+1) * 2))) (42+t * 24+(JA s t - 1) * 2) 2 zb) (138+t) (s (138+t) - 1)) (36+(JU s t a).toNat) (Nm s t a)
def BY (m:UInt8) (s:By) (t:Nat) (loc:UInt8):By:=Qy s t (L1 m s t loc)
def seenN (s:By) (t:Nat) (loc:UInt8):Nat→UInt8
 | 0=>s (36+loc.toNat)
 | n+1=>if JU s t n=loc then Nm s t n else seenN s t loc n
def LU (s:By) (t:Nat) (loc:UInt8):UInt8:=seenN s t loc (min (JA s t) 12)
def Ql (m:UInt8) (x:Ins) (s:By) (t:Nat):By:=
 if x.op=1 then lay s (t * 9) 9 (Xdd x (cut s (t * 9)) (LU s t x.loc))
 else if x.op=2 then lay (if m=1 then put s (36+x.loc.toNat) (Ns x (cut s (t * 9))) else Ce m s t (stP x.loc (Ns x (cut s (t * 9))))) (t * 9) 9 (put (cut s (t * 9)) 0 (s (t * 9)+1))
 else if x.op=4∨x.op=5∨x.op=6 then Lp x s t
 else lay s (t * 9) 9 (Ni x (cut s (t * 9)))
def J5 (p:Prg) (m:UInt8) (s:By) (x:Pss):By:=
 if x.d=true then BY m s x.t.toNat x.l
 else match EQ p s x.t.toNat with
   | some i=>Ql m i s x.t.toNat
   | none=>s
def XcU (picks:List UInt8) (n:Nat) (l:List Pss):Pss:=l.getD (match picks[n]? with | some x=>x.toNat % l.length | none=>0) ⟨0,false,0⟩
def XcS (p:Prg) (m:UInt8) (picks:List UInt8):Nat→By→List Pss→By × List Pss
 | 0,s,run=>(s,run)
 | n+1,s,run=>let l:=JG p m s
   if l=[] then (s,run) else XcS p m picks n (J5 p m s (XcU picks run.length l)) (run++[XcU picks run.length l])
-- VcX
open Go.RowKit
section
variable {P:Program} {l:List Oper} {Q:Exit→Act→World→Prop} {N:Nat} {a:Act} {env:List (Nat × Value)} {rest:List Oper} {d:Tmp} {ty:TypeId} {pos:String} {af:Array Edge} {g:Option (Nat × Bool)} {w:World}
theorem rBa {t e:TypeId} {n size:Nat} {parts:List (Nat × Operand)} {ps:List (Nat × Value)} {zs:Array Value} {cs:List Value} (hz:∀ w,(zeroValue t).run P w = .ok (.agg zs) w) (hu:P.underlying t=some (.array n e)) (hs:∀ w,(sizeOf e).run P w = .ok size w)
   (F:Has N a env) (he:evP env parts=some ps) (hf:M9 (fun i=>some (i * size,size)) zs.toList ps=some cs) :
   (execOp a.eval ⟨some d,.build t parts.toArray,ty,pos,af,g⟩).run P w = .ok (.value (.agg cs.toArray)) w:=by
 have h1:=Mb _ _ _ _ hf
 have h2:(Instr.build t (parts.toArray.map fun (i,x)=>(i,a.eval x))).run P w = .ok (.agg cs.toArray) w:=by
   rw [List.map_toArray,F.parts he]
   have h1':Instr.fill (fun i=>some (i * size,size)) zs ps=some cs.toArray:=by simpa using h1
   simp [Instr.build,run_underlying hu,hz,hs,h1',Value.cells,go_sem]
 simp only [execOp,Sem.run_bind,h2]
 rfl
theorem rBaB {t e:TypeId} {n m size:Nat} {parts:List (Nat × Operand)} {ps:List (Nat × Value)} {s:By} (hz:∀ w,(zeroValue t).run P w = .ok (.agg (bs n zb).toArray) w) (hu:P.underlying t=some (.array m e)) (hs:∀ w,(sizeOf e).run P w = .ok size w)
   (F:Has N a env) (he:evP env parts=some ps) (hf:FillB (fun i=>some (i * size,size)) n zb ps s) :
   (execOp a.eval ⟨some d,.build t parts.toArray,ty,pos,af,g⟩).run P w = .ok (.value (.agg (bs n s).toArray)) w:=
 rBa hz hu hs F he hf.to
theorem sBaB {t e:TypeId} {n m size:Nat} {parts:List (Nat × Operand)} {ps:List (Nat × Value)} {s:By} (hz:∀ w,(zeroValue t).run P w = .ok (.agg (bs n zb).toArray) w) (hu:P.underlying t=some (.array m e)) (hs:∀ w,(sizeOf e).run P w = .ok size w)
   (F:Has N a env) (hg:JK l env g=true) (hN:Nat.blt d N=true) (he:evP env parts=some ps) (hf:FillB (fun i=>some (i * size,size)) n zb ps s)
   (K:∀ a,Has N a ((d,.agg (bs n s).toArray) :: env)→wpList P l.toArray Q rest a w):wpList P l.toArray Q (⟨some d,.build t parts.toArray,ty,pos,af,g⟩ :: rest) a w:=
 Q2 F hg rfl hN (rBaB hz hu hs F he hf) K
theorem qBaB {t e:TypeId} {n m size:Nat} {parts:List (Nat × Operand)} {ps:List (Nat × Value)} {s:By} (hz:∀ w,(zeroValue t).run P w = .ok (.agg (bs n zb).toArray) w) (hu:P.underlying t=some (.array m e)) (hs:∀ w,(sizeOf e).run P w = .ok size w) (hg:JK l env g=true) (hN:Nat.blt d N=true) (he:evP env parts=some ps) (hf:FillB (fun i=>some (i * size,size)) n zb ps s) (K:∀ a,Has N a ((d,.agg (bs n s).toArray) :: env)→wpList P l.toArray Q rest a w):∀ a,Has N a env→wpList P l.toArray Q (⟨some d,.build t parts.toArray,ty,pos,af,g⟩ :: rest) a w:=fun a F=>sBaB hz hu hs F hg hN he hf K
theorem rMaxN {x y:Operand} {ts:Array TypeId} {i j:Nat} {k k':IntKind} (F:Has N a env) (hx:ev env x=some (.int k (i:Int))) (hy:ev env y=some (.int k' (j:Int))) :
   (execOp a.eval ⟨some d,.call ⟨.builtin .max,#[x,y],ts⟩,ty,pos,af,g⟩).run P w = .ok (.value (.int k ((max i j:Nat):Int))) w:=by
 simp only [execOp,resolve,invoke,builtin,Sem.run_bind,Sem.run_pure,Result.andThen_ok,List.map_toArray,List.map_cons,List.map_nil,F.eval hx,F.eval hy,Builtin.max_,List.foldlM,Builtin.max2]
 congr 4
 split <;> omega
theorem sMaxN {x y:Operand} {ts:Array TypeId} {i j:Nat} {k k':IntKind} (F:Has N a env) (hg:JK l env g=true) (hN:Nat.blt d N=true) (hx:ev env x=some (.int k (i:Int))) (hy:ev env y=some (.int k' (j:Int)))
   (K:∀ a,Has N a ((d,.int k ((max i j:Nat):Int)) :: env)→wpList P l.toArray Q rest a w):wpList P l.toArray Q (⟨some d,.call ⟨.builtin .max,#[x,y],ts⟩,ty,pos,af,g⟩ :: rest) a w:=
 Q2 F hg rfl hN (rMaxN F hx hy) K
end
section
variable {P:Program} {l:List Oper} {Q:Exit→Act→World→Prop} {N:Nat} {a:Act} {env:List (Nat × Value)} {rest:List Oper} {d:Tmp} {ty:TypeId} {pos:String} {af:Array Edge} {g:Option (Nat × Bool)} {w0 w:World} {row:Option Nat} {rs:List Res}
end
-- VcM
open Go.RowKit
section
variable {P:Program} {l:List Oper} {Q:Exit→Act→World→Prop} {N:Nat} {a:Act} {env:List (Nat × Value)} {rest:List Oper} {d:Tmp} {ty:TypeId} {pos:String} {af:Array Edge} {g:Option (Nat × Bool)}
 {w0 w:World} {row:Option Nat} {rs:List Res} {Kt:Act→World→Prop}
def BE (i n sz:Nat):Nat:=if n=i then 0 else i * sz
theorem L0 {t e:TypeId} {x lo hi:Operand} {b o n i j sz:Nat} {k k':IntKind} (ht:P.underlying t=some (.array n e)) (hz:∀ w,(sizeOf e).run P w = .ok sz w) (F:Has N a env) (hx:ev env x=some (.pointer (some ⟨b,o,none⟩))) (hl:ev env lo=some (.int k' (i:Int))) (hh:ev env hi=some (.int k (j:Int))) (hij:i≤j) (hj:j≤n) :
   (execOp a.eval ⟨some d,.slice t x (some lo) (some hi) none,ty,pos,af,g⟩).run P w = .ok (.value (.slice (some ⟨b,o+BE i n sz,none⟩) (j - i) (n - i))) w:=by
 have he:P.elem t=e:=by simp [Program.elem,ht]
 have hn:P.arrayLen t=n:=by simp [Program.arrayLen,ht]
 have h1:=run_sliceAt_array_lh (P:=P) w t ⟨b,o,none⟩ (by rw [he,hn];exact ht) k' k (i:Int) (j:Int) (by omega) (by omega) (by rw [hn];omega)
 rw [he,hz,hn] at h1
 simp only [execOp,Option.map_none,Option.map_some,F.eval hx,F.eval hl,F.eval hh,Sem.run_bind,h1,Result.andThen_ok,slicedAt,Int.toNat_natCast,Sem.run_pure,BE]
 split <;> simp [Addr.add]
theorem Xic {dT ty elem:TypeId} {b o dLen dCap Ec Xbh sz:Nat} {A:Addr} {cs:List Value} (hu:P.underlying dT=some (.slice elem)) (hs:(P.info? elem).map (·.size)=some sz) (hn:cs.length=Nat.min Ec dLen * sz)
   (hsrc:∀ j v,cs[j]? = some v→w.cell? (A.add j)=some v) (hc:∀ j,j < cs.length→(w.cell? ⟨b,o+j,none⟩).isSome=true) (hf:∀ j,j < cs.length→w.frozen? ⟨b,o+j,none⟩=false) (h1:∀ v ∈ cs,v.oneCell'=true) :
   (Builtin.copy_ #[dT,dT] ty #[.slice (some ⟨b,o,none⟩) dLen dCap,.slice (some A) Ec Xbh]).run P w = .ok (goInt (Nat.min Ec dLen:Nat)) (w.setCells b o cs):=by
 have hl:=run_loadCells_list (P:=P) w A cs hsrc
 have hst:=run_storeCells_cells (P:=P) b o cs 0 w (by simpa using hc) (by simpa using hf) h1
 cases hq:P.info? elem with
 | none=>simp [hq] at hs
 | some i=>
   have hi:i.size=sz:=by simpa [hq] using hs
   rw [hn] at hl
   simp [Builtin.copy_,run_underlying hu,Builtin.lenOf,Builtin.firstCells,sizeOf,typeInfo,hq,hi,hl,hst]
theorem Xib {t e:TypeId} {b od os n m dCap Xbh i sz:Nat} {s:By} {bt:TypeId} (H:Own w0 row w rs) (ht:P.underlying t=some (.slice e)) (hz:∀ w,(sizeOf e).run P w = .ok sz w)
   (hr:rs[i]? = some (.blk b (bs n s) bt)) (hd:m=0∨od+m * sz≤n) (hs:m=0∨os+m * sz≤n) (ty:TypeId) :
   ∃ w',(Builtin.copy_ #[t,t] ty #[.slice (some ⟨b,od,none⟩) m dCap,.slice (some ⟨b,os,none⟩) m Xbh]).run P w = .ok (goInt ((m:Nat):Int)) w'∧Own w0 row w' (rs.set i (.blk b (bs n (lay s od (m * sz) (cut s os))) bt)):=by
 have hq:=Jz (P:=P) hz
 have hd':od+m * sz≤n∨m=0:=hd.symm
 have key:∀ j v,(bs (m * sz) (cut s os))[j]? = some v→j < m * sz∧v=b8 (s (os+j)):=fun j v hv=>by
   rcases Nat.lt_or_ge j (m * sz) with hj | hj
   · rw [NW hj] at hv
     exact ⟨hj,(Option.some.inj hv).symm⟩
   · rw [Lc hj] at hv;cases hv
 have hpos:∀ j,j < m * sz→m ≠ 0:=fun j hj h0=>by rw [h0,Nat.zero_mul] at hj;omega
 have hrun:=Xic (P:=P) (w:=w) (ty:=ty) (dCap:=dCap) (Xbh:=Xbh) (b:=b) (o:=od) (dLen:=m) (Ec:=m) (A:=⟨b,os,none⟩) (cs:=bs (m * sz) (cut s os)) ht hq (by rw [bs_length];simp [Nat.min_def])
   (fun j v hv=>by
     obtain ⟨hj,rfl⟩:=key j v hv
     have:=hpos j hj
     rw [Addr.add_mid]
     exact H.cell i hr (NW (by rcases hs with h | h <;> omega)))
   (fun j hj=>by
     rw [bs_length] at hj
     have:=hpos j hj
     rw [H.cell i hr (NW (by rcases hd with h | h <;> omega))]
     exact Option.isSome_some)
   (fun j hj=>(H.blk i hr).frozen _)
   (fun v hv=>by
     obtain ⟨j,hj⟩:=List.mem_iff_getElem?.1 hv
     obtain ⟨_,rfl⟩:=key j v hj
     rfl)
 have hmin:Nat.min m m=m:=by simp [Nat.min_def]
 rw [hmin] at hrun
 refine ⟨_,hrun,?_⟩
 have h3:=H.setCells i (bs (m * sz) (cut s os)) od w rs _ hr
 rcases hd with h | h
 · subst h
   have e:lay s od (0 * sz) (cut s os)=s:=funext fun k=>by unfold lay;rw [if_neg (by omega)]
   rw [e]
   have e2:Qn (bs n s) od (bs (0 * sz) (cut s os))=bs n s:=by rw [Nat.zero_mul];rfl
   rw [e2] at h3
   exact h3
 · rw [LD h] at h3
   exact h3
theorem Xia {t ty':TypeId} {s x:Operand} {v u v':Value} {w':World} (F:Has N a env) (hs:ev env s=some v) (hx:ev env x=some u) (hr:(Builtin.copy_ #[t,t] ty #[v,u]).run P w = .ok v' w') :
   (execOp a.eval ⟨some d,.call ⟨.builtin .copy,#[s,x],#[t,t]⟩,ty,pos,af,g⟩).run P w = .ok (.value v') w':=by
 simp only [execOp,resolve,invoke,builtin,Sem.run_bind,Sem.run_pure,Result.andThen_ok,List.map_toArray,List.map_cons,List.map_nil,F.eval hs,F.eval hx,hr]
theorem XfT {t e:TypeId} {x y:Operand} {b od os n m m' dCap Xbh sz:Nat} {s:By} {bt:TypeId} (H:Own w0 row w rs) (i:Nat) (ht:P.underlying t=some (.slice e)) (hz:∀ w,(sizeOf e).run P w = .ok sz w)
   (F:Has N a env) (hN:Nat.blt d N=true) (hx:ev env x=some (.slice (some ⟨b,od,none⟩) m dCap)) (hy:ev env y=some (.slice (some ⟨b,os,none⟩) m' Xbh))
   (hr:rs[i]? = some (.blk b (bs n s) bt)) (hm:m'=m) (hd:m=0∨od+m * sz≤n) (hs:m=0∨os+m * sz≤n)
   (K:∀ a w,Has N a ((d,goInt ((m:Nat):Int)) :: env)→Own w0 row w (rs.set i (.blk b (bs n (lay s od (m * sz) (cut s os))) bt))→Kt a w) :
   (Oper.mk (some d) (.call ⟨.builtin .copy,#[x,y],#[t,t]⟩) ty pos af g).wp P a w Kt Q:=by
 subst hm
 obtain ⟨w',h2,h3⟩:=Xib (P:=P) (dCap:=dCap) (Xbh:=Xbh) H ht hz hr hd hs ty
 exact oV F rfl hN (Xia (ty':=ty) F hx hy h2) (fun a F'=>K a w' F' h3)
end
-- BfA
open Go.Proofs.Tryz
open Go.RowKit
set_option maxRecDepth 100000
theorem Xgh (m:UInt8) (w0:World):Calls Tryz.prog 83 #[YtcpehikcegoojaaGreatDoor.b8 m] w0 fun e w'=>e = .returned (.bool (QS m))∧Below w0.heap.size w0 w':=by
 have H:=Own.start w0 none
 refine JF func83 rfl ntmps83 rfl (fun a F=>?_);refine cSR fun K1 hK1=>Xa F rfl (qNK hK1 (qSR fun K2 hK2=>Xh rfl (Xe rfl rfl (Xcq (y:=1)) (Xh rfl ?_))));clear hK1;clear F a;intro a F
 refine F.split 5 rfl ?_ ?_ <;> (clear F;intro h5 F)
 ·
  replace h5:=of_decide_eq_true h5;refine Xf F rfl (Xe rfl rfl (Xdz (y:=3)) (Xy rfl rfl (Xd rfl (qNK hK2 ?_))));clear hK2;clear F a;intro a F;refine wp_ret ?_;refine JI results83 F rfl ?_
  exact ⟨by rw [QS];simp_all,H.below⟩
 replace h5:=of_decide_eq_false h5;refine XB F (XC (Xy rfl rfl (Xd rfl (qNK hK2 ?_))));clear hK2;clear F a;intro a F;refine wp_ret ?_;refine JI results83 F rfl ?_
 exact ⟨by rw [QS];simp_all,H.below⟩
theorem Lf (s:By) (w0:World):Calls Tryz.prog 85 #[.agg (bs 142 s).toArray] w0 fun e w'=>e = .returned (.agg (bs 142 (Qf s)).toArray)∧Below w0.heap.size w0 w':=by
 have H:=Own.start w0 none
 refine JF func85 rfl ntmps85 rfl (fun a F=>?_);refine cSR fun K1 hK1=>?_;refine Mg H F rfl rfl rfl ?_;clear F a H;intro b1 a w F H;refine Mo H N3 F rfl rfl ?_;clear F a H;intro b2 a w F H;refine nK hK1 (cSR fun K2 hK2=>Xb (f:=0) (k:=0) XG rfl Yc rfl rfl F rfl (Nu XW rfl Yc rfl rfl rfl (H.rangeB0 1 36 rfl (by omega)) (Xr (f:=1) (k:=36) XG rfl Yg rfl rfl rfl (Nu Yj rfl Yg rfl rfl rfl (H.ra' 1 _ 6 rfl) (Xhx (places:=[(0,36),(36,6),(42,96),(138,4)]) N3 XG (by kernel_rfl) rfl rfl rfl (FillB.row rfl rfl (FillB.row rfl rfl FillB.nil)) ?_)))));clear hK1;clear F a;intro a F;refine Xt H 0 XL F rfl rfl rfl ?_;clear H;intro w H;rw [JE] at H;refine nK hK2 ?_;clear hK2;refine wp_ret ?_;refine NE results85 F rfl XG rfl XL H 0 rfl ?_
 refine ⟨Ch fun i _=>?_,H.below⟩
 simp only [lay,cut,Qf,zb]
 split <;> split <;> (try split) <;> first | rfl | (congr 1;omega) | omega
theorem Xhm (s:By) (t:Nat) (loc:UInt8) (w0:World) (ht:t < 4) (hl:loc.toNat < 6):Calls Tryz.prog 90 #[.agg (bs 142 s).toArray,.int .i64 (t:Int),YtcpehikcegoojaaGreatDoor.b8 loc] w0 fun e w'=>e = .returned (YtcpehikcegoojaaGreatDoor.b8 (LU s t loc))∧Below w0.heap.size w0 w':=by
 have hmy:=(s (138+t)).toNat_lt
 have H:=Own.start w0 none
 refine JF func90 rfl ntmps90 rfl (fun a F=>?_);refine cSR fun K1 hK1=>?_;refine Mg H F rfl rfl rfl ?_;clear F a H;intro b3 a w F H;refine Xa F rfl (qNK hK1 ?_);clear hK1;clear F a;intro a F;refine JD (fun K2 hK2=>?_);refine cSR fun K3 hK3=>Xf F rfl (Xe rfl rfl QF (Xh rfl ?_));clear F a;intro a F
 refine F.split 10 rfl ?_ ?_ <;> (clear F;intro h10 F)
 ·
  replace h10:=of_decide_eq_true h10
  exact absurd h10 (by omega)
 replace h10:=of_decide_eq_false h10;refine Xf F rfl (Xe rfl rfl Cb (Xy rfl rfl (Xh rfl ?_)));clear F a;intro a F
 refine F.split 14 rfl ?_ ?_ <;> (clear F;intro h14 F)
 ·
  replace h14:=of_decide_eq_true h14
  exact absurd h14 (by omega)
 replace h14:=of_decide_eq_false h14;refine Xf F rfl (qCv XO XT rfl rfl rfl (QG _) (Xe rfl rfl Cb (Xy rfl rfl (qNK hK3 ?_))));clear hK3;clear F a;intro a F
 refine cIf F rfl (fun h18=>?_) (fun h18=>?_)
 ·
  replace h18:=of_decide_eq_true h18
  exact absurd h18 (by omega)
 replace h18:=of_decide_eq_false h18;refine wp_skip (hK2 _ _ ?_);clear hK2;refine JD (fun K4 hK4=>?_);refine cSR fun K5 hK5=>Xf F rfl (Xr (f:=3) (k:=138) XG rfl Yh rfl rfl rfl ?_);clear F a;intro a F
 refine MP X8 XH F rfl rfl rfl rfl ?_ ?_
 focus (omega)
 clear F a;intro a F;refine sLd XJ F rfl rfl rfl (H.ce' 0 rfl) (qCv XO XT rfl rfl rfl (QG _) (qMinN (j:=12) rfl rfl rfl rfl ?_));clear F a;intro a F
 refine Xg F rfl rfl (Ca ?_) ?_
 focus omega
 clear F a;intro a F;refine Xa F rfl (qNK hK5 ?_);clear hK5;clear F a;intro a F;refine wp_block ?_
 refine JN [1,2,3] (fun m ups w=>∃ k:Nat,m=k∧ups=[(7,.int .i64 (((k:Nat):Int) - 1))]∧k≤12∧LU s t loc=seenN s t loc k∧Own w0 none w [.blk b3 (bs 142 s) 60]) F (min (JA s t) 12) [(7,.int .i64 (((min (JA s t) 12:Nat):Int) - 1))] ?_ ?_
 · exact ⟨min (JA s t) 12,rfl,rfl,by omega,rfl,H.sel [0] rfl rfl⟩
 clear F
 clear H
 intro m ups a w hI F
 obtain ⟨k,rfl,rfl,hk,hs,H⟩:=hI
 refine JD (fun K6 hK6=>?_);refine cSR fun K7 hK7=>Xf F rfl (Xe rfl rfl Cb (qNK hK7 ?_));clear hK7;clear F a;intro a F
 refine cIf F rfl (fun h27=>?_) (fun h27=>?_)
 ·
  replace h27:=of_decide_eq_true h27
  obtain ⟨k',rfl⟩:∃ q,m=q+1:=⟨m - 1,by omega⟩
  rw [show ((k'+1:Nat):Int) - 1=((k':Nat):Int) by omega] at F;rw [seenN] at hs;refine wp_skip (hK6 _ _ ?_);clear hK6;refine JD (fun K8 hK8=>?_);refine wp_block ?_;refine cSR fun K9 hK9=>Xf F rfl (Xh rfl (Xr (f:=2) (k:=42) XG rfl Yb rfl rfl rfl ?_));clear F a;intro a F
  refine sIa XZ Yi F rfl rfl rfl rfl ?_ ?_
  focus (omega)
  clear F a;intro a F
  refine sIa X2 XS F rfl rfl rfl rfl ?_ ?_
  focus (omega)
  clear F a;intro a F;refine Xe2 (f:=0) XQ rfl XH rfl rfl F rfl rfl rfl (Xc XJ rfl (H.ce' 0 rfl) (Xh rfl (Xe rfl rfl JL (qNK hK9 ?_))));clear hK9;clear F a;intro a F
  refine cIf F rfl (fun h38=>?_) (fun h38=>?_)
  ·
   replace h38:=J1 h38;refine cSR fun K10 hK10=>Xf F rfl (Xh rfl (Xr (f:=2) (k:=42) XG rfl Yb rfl rfl rfl ?_));clear F a;intro a F
   refine sIa XZ Yi F rfl rfl rfl rfl ?_ ?_
   focus (omega)
   clear F a;intro a F
   refine sIa X2 XS F rfl rfl rfl rfl ?_ ?_
   focus (omega)
   clear F a;intro a F;refine Xb (f:=1) (k:=_+1) XQ rfl XH rfl rfl F rfl (Xc XJ rfl (H.ce' 0 rfl) (Xd rfl (qNK hK10 ?_)));clear hK10;clear F a;intro a F;refine wp_ret ?_;refine xI ?_;refine JI results90 F rfl ?_
   exact ⟨by rw [hs,if_pos (show JU s t k'=loc from h38)];rfl,H.below⟩
  replace h38:=J2 h38;refine wp_skip (hK8 _ _ (JY (Xf F rfl ?_)));clear hK8;clear F a;intro a F
  refine Xg F rfl rfl (Ca ?_) ?_
  focus omega
  clear F a;intro a F;refine Xa F rfl ?_;clear F a;intro a F;refine J4 ?_
  exact ⟨k',by omega,_,⟨k',rfl,rfl,by omega,by rw [hs,if_neg (show ¬ JU s t k'=loc from h38)],H.sel [0] rfl rfl⟩,F.tt⟩
 replace h27:=of_decide_eq_false h27
 obtain rfl:m=0:=by omega
 refine wp_exit ?_;refine hK4 _ _ (cSR fun K11 hK11=>Xf F rfl (Xr (f:=1) (k:=36) XG rfl Yg rfl rfl rfl ?_));clear hK4;clear F a;intro a F
 refine MP Yj XH F rfl rfl rfl rfl ?_ ?_
 focus (omega)
 clear F a;intro a F;refine sLd XJ F rfl rfl rfl (H.ce' 0 rfl) (Xd rfl (qNK hK11 ?_));clear hK11;clear F a;intro a F;refine wp_ret ?_;refine JI results90 F rfl ?_
 exact ⟨by rw [hs];rfl,H.below⟩
-- BfB
open Go.Proofs.Tryz
open Go.RowKit
set_option maxRecDepth 100000
theorem Xcs {m:UInt8} {s:By} {t:Nat} {loc:UInt8} {n:Nat} (h:0 < n):Mn m s t loc n=if m=3∧loc < JU s t (n - 1) then Mn m s t loc (n - 1) else n:=by
 obtain ⟨k,rfl⟩:∃ k,n=k+1:=⟨n - 1,by omega⟩
 rw [Mn]
 rfl
theorem NP {m:UInt8} {s:By} {t:Nat} {loc:UInt8}:∀ n,Mn m s t loc n≤n
 | 0=>Nat.le_refl _
 | n+1=>by
   rw [Mn]
   split
   · exact Nat.le_succ_of_le (NP n)
   · exact Nat.le_refl _
theorem DB {m:UInt8} {s:By} {t:Nat} {loc:UInt8} {n:Nat} (h:0 < n→¬ (m=3∧loc < JU s t (n - 1))):Mn m s t loc n=n:=by
 cases n with
 | zero=>rfl
 | succ n=>rw [Xcs (by omega),if_neg (h (by omega))]
theorem Xge {s:By} {o a b len n:Nat} (h:len=0∨(a < n∧b < n)):lay s (o+BE a n 2) len (cut s (o+BE b n 2))=lay s (o+a * 2) len (cut s (o+b * 2)):=by
 rcases h with rfl | ⟨h1,h2⟩
 · funext i
   unfold lay
   rw [if_neg (by omega),if_neg (by omega)]
 · unfold BE
   rw [if_neg (by omega),if_neg (by omega)]
theorem D7 {s x:By} {o m i:Nat} (h:¬ (o≤i∧i < o+m)):lay s o m x i=s i:=if_neg h
theorem Xbd {s st:By} {t a:Nat} (ht:t < 4) (hn:JA s t≤11) (ha:a≤JA s t) :
   put (lay (lay s (42+t * 24+BE (a+1) 12 2) (((s (138+t)).toNat+1 - (a+1)) * 2) (cut s (42+t * 24+BE a 12 2))) (42+t * 24+a * 2) 2 st) (138+t)
     (lay (lay s (42+t * 24+BE (a+1) 12 2) (((s (138+t)).toNat+1 - (a+1)) * 2) (cut s (42+t * 24+BE a 12 2))) (42+t * 24+a * 2) 2 st (138+t)+1)=Xbj s t a st:=by
 have hme:JA s t=(s (138+t)).toNat:=rfl
 rw [Xge (by omega),show ((s (138+t)).toNat+1 - (a+1)) * 2=(JA s t - a) * 2 by omega,D7 (by omega),D7 (by omega)]
 rfl
set_option maxHeartbeats 2000000 in
theorem XjL (mc:UInt8) (s:By) (t:Nat) (st:By) (w0:World) (ht:t < 4) (hn:JA s t≤11):Calls Tryz.prog 92 #[YtcpehikcegoojaaGreatDoor.b8 mc,.agg (bs 142 s).toArray,.int .i64 (t:Int),.agg (bs 2 st).toArray] w0 fun e w'=>e = .returned (.agg (bs 142 (Ce mc s t st)).toArray)∧Below w0.heap.size w0 w':=by
 have hmy:(s (138+t)).toNat≤11:=hn
 have hme:JA s t=(s (138+t)).toNat:=rfl
 have H:=Own.start w0 none
 refine JF func92 rfl ntmps92 rfl (fun a F=>?_);refine cSR fun K1 hK1=>?_;refine Mg H F rfl rfl rfl ?_;clear F a H;intro b5 a w F H;refine Mg H F rfl rfl rfl ?_;clear F a H;intro b7 a w F H;refine Mo H N3 F rfl rfl ?_;clear F a H;intro b8 a w F H;refine nK hK1 (cSR fun K2 hK2=>Xf F rfl (Xr (f:=3) (k:=138) XG rfl Yh rfl rfl rfl ?_));clear hK1;clear F a;intro a F
 refine MP X8 XH F rfl rfl rfl rfl ?_ ?_
 focus (omega)
 clear F a;intro a F;refine sLd XJ F rfl rfl rfl (H.ce' 2 rfl) (qCv XO XT rfl rfl rfl (QG _) (Xd rfl (qNK hK2 (qSR fun K3 hK3=>Xh rfl (Xd rfl (qNK hK3 ?_))))));clear hK2 hK3;clear F a;intro a F;refine JD (fun K4 hK4=>?_);refine wp_block ?_
 refine JN [0,2,5,7,8,9] (fun m ups w=>∃ a:Nat,m=a∧ups=[(10,.int .i64 ((a:Nat):Int))]∧a≤JA s t∧Mn mc s t (st 0) (JA s t)=Mn mc s t (st 0) a∧Own w0 none w [.blk b8 (bs 142 zb) 60,.blk b7 (bs 2 st) 55,.blk b5 (bs 142 s) 60]) F (JA s t) [(10,.int .i64 (((s (138+t)).toNat:Nat):Int))] ?_ ?_
 · exact ⟨JA s t,rfl,rfl,Nat.le_refl _,rfl,H.sel [0,1,2] rfl rfl⟩
 clear F
 clear H
 intro m ups a w hI F
 obtain ⟨_,rfl,rfl,ha,hs,H⟩:=hI
 refine JD (fun K5 hK5=>?_);refine JD (fun K6 hK6=>?_);refine Xi H ?_;replace H:=H.drew;refine Xj 0 rfl F rfl (fun w=>rMv F rfl) H qq0 (Xm 1 rfl rfl (fun a F w=>Q0 F rfl rfl (JL (y:=3))) H qq0 (Xm 2 rfl rfl (fun a F w=>rMv F rfl) H qq0 ?_));clear F a;intro a F
 refine F.split 19 rfl ?_ ?_ <;> (clear F;intro h19 F)
 ·
  replace h19:=J1 h19;refine Xj 3 rfl F rfl (fun w=>rMv F rfl) H qq0 (Xm 4 rfl rfl (fun a F w=>Q0 F rfl rfl L3) H qq0 (Xm 5 rfl rfl (fun a F w=>rPk F rfl rfl) H qq0 (Xm 6 rfl rfl (fun a F w=>rMv F rfl) H qq0 ?_)));clear F a;intro a F
  refine F.split 23 rfl ?_ ?_ <;> (clear F;intro h23 F)
  ·
   replace h23:=of_decide_eq_true h23;refine Xj 7 rfl F rfl (fun w=>rMv F rfl) H qq0 (Xm 8 rfl rfl (fun a F w=>rMv F rfl) H qq0 ?_);clear F a;intro a F
   refine Xq (k:=9) (i:=9) rfl F rfl (fun w=>Q0 F rfl rfl (Es (j:=1) ?_ ?_)) H (fun _ _ _ h=>h) ?_
   focus omega
   focus omega
   clear F a;intro a F;refine Xj 10 rfl F rfl (fun w=>rFa (f:=2) (k:=42) XG rfl Yb rfl rfl F rfl) H qq0 ?_;clear F a;intro a F
   refine Xq (k:=11) (i:=11) rfl F rfl (fun w=>rIa XZ Yi F rfl rfl ?_) H (fun _ _ _ h=>h) ?_
   focus (omega)
   clear F a;intro a F
   refine Xq (k:=12) (i:=12) rfl F rfl (fun w=>rIa X2 XS F rfl rfl ?_) H (fun _ _ _ h=>h) ?_
   focus (omega)
   clear F a;intro a F;refine Xj 13 rfl F rfl (fun w=>Xct (f:=0) XQ rfl XH rfl rfl F rfl) H qq0 (Xl 14 rfl rfl rfl (fun a F w H=>rLd XJ F rfl (H.ce' 2 rfl)) H qq0 (Xm 15 rfl rfl (fun a F w=>rFa (f:=0) (k:=0) XQ rfl XH rfl rfl F rfl) H qq0 (Xl 16 rfl rfl rfl (fun a F w H=>rLd XJ F rfl (H.ce' 1 rfl)) H qq0 (Xm 17 rfl rfl (fun a F w=>Q0 F rfl rfl DY) H qq0 (Xm 18 rfl rfl (fun a F w=>rPk F rfl rfl) H qq0 ?_)))));clear F a;intro a F;refine Xp (k:=19) ?_;refine hK6 _ _ ?_;clear hK6
   refine cIf F rfl (fun h35=>?_) (fun h35=>?_)
   ·
    replace h35:=of_decide_eq_true h35;refine wp_skip (hK5 _ _ ?_);clear hK5;refine wp_block ?_;refine JY (Xf F rfl ?_);clear F a;intro a F
    refine Xg F rfl rfl (Es (j:=1) ?_ ?_) ?_
    focus omega
    focus omega
    clear F a;intro a F;refine Xa F rfl ?_;clear F a;intro a F;refine J4 ?_
    exact ⟨m - 1,by omega,_,⟨m - 1,rfl,rfl,by omega,by rw [hs,Xcs (by omega),if_pos ⟨by assumption,by assumption⟩],H.sel [0,1,2] rfl rfl⟩,F.tt⟩
   replace h35:=of_decide_eq_false h35;refine wp_exit ?_;refine hK4 _ _ ?_;clear hK4;refine JD (fun K7 hK7=>?_);refine Xi H ?_;replace H:=H.drew;refine Xj 0 rfl F rfl (fun w=>rMv F rfl) H qq0 (Xm 1 rfl rfl (fun a F w=>rFa (f:=2) (k:=42) XG rfl Yb rfl rfl F rfl) H qq0 ?_);clear F a;intro a F
   refine Xq (k:=2) (i:=2) rfl F rfl (fun w=>rIa XZ Yi F rfl rfl ?_) H (fun _ _ _ h=>h) ?_
   focus (omega)
   clear F a;intro a F;refine Xj 3 rfl F rfl (fun w=>rMv F rfl) H qq0 ?_;clear F a;intro a F
   refine Xq (k:=4) (i:=4) rfl F rfl (fun w=>Q0 F rfl rfl (JJ (j:=1) ?_)) H (fun _ _ _ h=>h) ?_
   focus omega
   clear F a;intro a F;refine Xj 5 rfl F rfl (fun w=>rMv F rfl) H qq0 ?_;clear F a;intro a F
   refine Xq (k:=6) (i:=6) rfl F rfl (fun w=>Q0 F rfl rfl (JJ (j:=1) ?_)) H (fun _ _ _ h=>h) ?_
   focus omega
   clear F a;intro a F
   refine Xk (k:=7) (i:=7) rfl F rfl rfl (fun w H=>L0 X2 XS F rfl rfl rfl ?_ ?_) H (fun _ _ _ h=>h) ?_
   focus (omega)
   focus (omega)
   clear F a;intro a F;refine Xj 8 rfl F rfl (fun w=>rMv F rfl) H qq0 (Xm 9 rfl rfl (fun a F w=>rFa (f:=2) (k:=42) XG rfl Yb rfl rfl F rfl) H qq0 ?_);clear F a;intro a F
   refine Xq (k:=10) (i:=10) rfl F rfl (fun w=>rIa XZ Yi F rfl rfl ?_) H (fun _ _ _ h=>h) ?_
   focus (omega)
   clear F a;intro a F;refine Xj 11 rfl F rfl (fun w=>rMv F rfl) H qq0 (Xm 12 rfl rfl (fun a F w=>rMv F rfl) H qq0 ?_);clear F a;intro a F
   refine Xk (k:=13) (i:=13) rfl F rfl rfl (fun w H=>L0 X2 XS F rfl rfl rfl ?_ ?_) H (fun _ _ _ h=>h) ?_
   focus (omega)
   focus (omega)
   clear F a;intro a F;refine Xn (k:=14) (i:=14) rfl F (XfT H 2 X4 XS F rfl rfl rfl rfl ?hm ?hd ?hs ?_)
   case hm=>omega
   case hd=>(unfold BE;split <;> omega)
   case hs=>(unfold BE;split <;> omega)
   clear F a H;intro a w F H;refine Xo H ?_;refine Xp (k:=15) ?_;refine hK7 _ _ ?_;clear hK7;refine JD (fun K8 hK8=>?_);refine Xi H ?_;replace H:=H.drew;refine Xj 0 rfl F rfl (fun w=>rMv F rfl) H qq0 (Xm 1 rfl rfl (fun a F w=>rMv F rfl) H qq0 (Xl 2 rfl rfl rfl (fun a F w H=>Nt XQ rfl XS F rfl (H.whole 1 rfl)) H qq0 (Xm 3 rfl rfl (fun a F w=>rFa (f:=2) (k:=42) XG rfl Yb rfl rfl F rfl) H qq0 ?_)));clear F a;intro a F
   refine Xq (k:=4) (i:=4) rfl F rfl (fun w=>rIa XZ Yi F rfl rfl ?_) H (fun _ _ _ h=>h) ?_
   focus (omega)
   clear F a;intro a F
   refine Xq (k:=5) (i:=5) rfl F rfl (fun w=>rIa X2 XS F rfl rfl ?_) H (fun _ _ _ h=>h) ?_
   focus (omega)
   clear F a;intro a F;refine Xn (k:=6) (i:=6) rfl F (DV H 2 XS F rfl rfl rfl (by omega) ?_);clear H;intro w H;refine Xo H ?_;refine Xp (k:=7) ?_;refine hK8 _ _ (cSR fun K9 hK9=>Xf F rfl (Xr (f:=3) (k:=138) XG rfl Yh rfl rfl rfl ?_));clear hK8;clear F a;intro a F
   refine MP X8 XH F rfl rfl rfl rfl ?_ ?_
   focus (omega)
   clear F a;intro a F;refine sLd XJ F rfl rfl rfl (H.ce' 2 rfl) (Xe rfl rfl (ND (y:=1)) (Xr (f:=3) (k:=138) XG rfl Yh rfl rfl rfl ?_));clear F a;intro a F
   refine MP X8 XH F rfl rfl rfl rfl ?_ ?_
   focus (omega)
   clear F a;intro a F;refine LJ H 2 XH F rfl rfl rfl rfl (by omega) ?_;clear H;intro w H;refine nK hK9 (cSR fun K10 hK10=>Xs XG rfl XL F rfl (H.whole 2 rfl) ?_);clear hK9;clear F a;intro a F;refine Xt H 0 XL F rfl rfl rfl ?_;clear H;intro w H;rw [JE] at H;refine nK hK10 ?_;clear hK10;refine wp_ret ?_;refine NE results92 F rfl XG rfl XL H 0 rfl ?_
   refine ⟨?_,H.below⟩
   clear F H
   rw [Xbd ht hn ha,Ce,hs];rw [DB (fun _ h=>h35 h.2)]
  replace h23:=of_decide_eq_false h23;refine Xz 7 rfl F rfl H qq0 (XA 8 rfl rfl H qq0 (XA 9 rfl rfl H qq0 (XA 10 rfl rfl H qq0 (XA 11 rfl rfl H qq0 (XA 12 rfl rfl H qq0 (XA 13 rfl rfl H qq0 (XA 14 rfl rfl H qq0 (XA 15 rfl rfl H qq0 (XA 16 rfl rfl H qq0 (XA 17 rfl rfl H qq0 (Xm 18 rfl rfl (fun a F w=>rPk F rfl rfl) H qq0 ?_)))))))))));clear F a;intro a F;refine Xp (k:=19) ?_;refine hK6 _ _ ?_;clear hK6;refine LB F rfl ?_;refine wp_exit ?_;refine hK4 _ _ ?_;clear hK4;refine JD (fun K11 hK11=>?_);refine Xi H ?_;replace H:=H.drew;refine Xj 0 rfl F rfl (fun w=>rMv F rfl) H qq0 (Xm 1 rfl rfl (fun a F w=>rFa (f:=2) (k:=42) XG rfl Yb rfl rfl F rfl) H qq0 ?_);clear F a;intro a F
  refine Xq (k:=2) (i:=2) rfl F rfl (fun w=>rIa XZ Yi F rfl rfl ?_) H (fun _ _ _ h=>h) ?_
  focus (omega)
  clear F a;intro a F;refine Xj 3 rfl F rfl (fun w=>rMv F rfl) H qq0 ?_;clear F a;intro a F
  refine Xq (k:=4) (i:=4) rfl F rfl (fun w=>Q0 F rfl rfl (JJ (j:=1) ?_)) H (fun _ _ _ h=>h) ?_
  focus omega
  clear F a;intro a F;refine Xj 5 rfl F rfl (fun w=>rMv F rfl) H qq0 ?_;clear F a;intro a F
  refine Xq (k:=6) (i:=6) rfl F rfl (fun w=>Q0 F rfl rfl (JJ (j:=1) ?_)) H (fun _ _ _ h=>h) ?_
  focus omega
  clear F a;intro a F
  refine Xk (k:=7) (i:=7) rfl F rfl rfl (fun w H=>L0 X2 XS F rfl rfl rfl ?_ ?_) H (fun _ _ _ h=>h) ?_
  focus (omega)
  focus (omega)
  clear F a;intro a F;refine Xj 8 rfl F rfl (fun w=>rMv F rfl) H qq0 (Xm 9 rfl rfl (fun a F w=>rFa (f:=2) (k:=42) XG rfl Yb rfl rfl F rfl) H qq0 ?_);clear F a;intro a F
  refine Xq (k:=10) (i:=10) rfl F rfl (fun w=>rIa XZ Yi F rfl rfl ?_) H (fun _ _ _ h=>h) ?_
  focus (omega)
  clear F a;intro a F;refine Xj 11 rfl F rfl (fun w=>rMv F rfl) H qq0 (Xm 12 rfl rfl (fun a F w=>rMv F rfl) H qq0 ?_);clear F a;intro a F
  refine Xk (k:=13) (i:=13) rfl F rfl rfl (fun w H=>L0 X2 XS F rfl rfl rfl ?_ ?_) H (fun _ _ _ h=>h) ?_
  focus (omega)
  focus (omega)
  clear F a;intro a F;refine Xn (k:=14) (i:=14) rfl F (XfT H 2 X4 XS F rfl rfl rfl rfl ?hm ?hd ?hs ?_)
  case hm=>omega
  case hd=>(unfold BE;split <;> omega)
  case hs=>(unfold BE;split <;> omega)
  clear F a H;intro a w F H;refine Xo H ?_;refine Xp (k:=15) ?_;refine hK11 _ _ ?_;clear hK11;refine JD (fun K12 hK12=>?_);refine Xi H ?_;replace H:=H.drew;refine Xj 0 rfl F rfl (fun w=>rMv F rfl) H qq0 (Xm 1 rfl rfl (fun a F w=>rMv F rfl) H qq0 (Xl 2 rfl rfl rfl (fun a F w H=>Nt XQ rfl XS F rfl (H.whole 1 rfl)) H qq0 (Xm 3 rfl rfl (fun a F w=>rFa (f:=2) (k:=42) XG rfl Yb rfl rfl F rfl) H qq0 ?_)));clear F a;intro a F
  refine Xq (k:=4) (i:=4) rfl F rfl (fun w=>rIa XZ Yi F rfl rfl ?_) H (fun _ _ _ h=>h) ?_
  focus (omega)
  clear F a;intro a F
  refine Xq (k:=5) (i:=5) rfl F rfl (fun w=>rIa X2 XS F rfl rfl ?_) H (fun _ _ _ h=>h) ?_
  focus (omega)
  clear F a;intro a F;refine Xn (k:=6) (i:=6) rfl F (DV H 2 XS F rfl rfl rfl (by omega) ?_);clear H;intro w H;refine Xo H ?_;refine Xp (k:=7) ?_;refine hK12 _ _ (cSR fun K13 hK13=>Xf F rfl (Xr (f:=3) (k:=138) XG rfl Yh rfl rfl rfl ?_));clear hK12;clear F a;intro a F
  refine MP X8 XH F rfl rfl rfl rfl ?_ ?_
  focus (omega)
  clear F a;intro a F;refine sLd XJ F rfl rfl rfl (H.ce' 2 rfl) (Xe rfl rfl (ND (y:=1)) (Xr (f:=3) (k:=138) XG rfl Yh rfl rfl rfl ?_));clear F a;intro a F
  refine MP X8 XH F rfl rfl rfl rfl ?_ ?_
  focus (omega)
  clear F a;intro a F;refine LJ H 2 XH F rfl rfl rfl rfl (by omega) ?_;clear H;intro w H;refine nK hK13 (cSR fun K14 hK14=>Xs XG rfl XL F rfl (H.whole 2 rfl) ?_);clear hK13;clear F a;intro a F;refine Xt H 0 XL F rfl rfl rfl ?_;clear H;intro w H;rw [JE] at H;refine nK hK14 ?_;clear hK14;refine wp_ret ?_;refine NE results92 F rfl XG rfl XL H 0 rfl ?_
  refine ⟨?_,H.below⟩
  clear F H
  rw [Xbd ht hn ha,Ce,hs];rw [DB (fun h=>absurd h (by omega))]
 replace h19:=J2 h19;refine Xz 3 rfl F rfl H qq0 (XA 4 rfl rfl H qq0 (Xm 5 rfl rfl (fun a F w=>rPk F rfl rfl) H qq0 (Xm 6 rfl rfl (fun a F w=>rMv F rfl) H qq0 (XA 7 rfl rfl H qq0 (XA 8 rfl rfl H qq0 (XA 9 rfl rfl H qq0 (XA 10 rfl rfl H qq0 (XA 11 rfl rfl H qq0 (XA 12 rfl rfl H qq0 (XA 13 rfl rfl H qq0 (XA 14 rfl rfl H qq0 (XA 15 rfl rfl H qq0 (XA 16 rfl rfl H qq0 (XA 17 rfl rfl H qq0 (Xm 18 rfl rfl (fun a F w=>rPk F rfl rfl) H qq0 ?_)))))))))))))));clear F a;intro a F;refine Xp (k:=19) ?_;refine hK6 _ _ ?_;clear hK6;refine LB F rfl ?_;refine wp_exit ?_;refine hK4 _ _ ?_;clear hK4;refine JD (fun K15 hK15=>?_);refine Xi H ?_;replace H:=H.drew;refine Xj 0 rfl F rfl (fun w=>rMv F rfl) H qq0 (Xm 1 rfl rfl (fun a F w=>rFa (f:=2) (k:=42) XG rfl Yb rfl rfl F rfl) H qq0 ?_);clear F a;intro a F
 refine Xq (k:=2) (i:=2) rfl F rfl (fun w=>rIa XZ Yi F rfl rfl ?_) H (fun _ _ _ h=>h) ?_
 focus (omega)
 clear F a;intro a F;refine Xj 3 rfl F rfl (fun w=>rMv F rfl) H qq0 ?_;clear F a;intro a F
 refine Xq (k:=4) (i:=4) rfl F rfl (fun w=>Q0 F rfl rfl (JJ (j:=1) ?_)) H (fun _ _ _ h=>h) ?_
 focus omega
 clear F a;intro a F;refine Xj 5 rfl F rfl (fun w=>rMv F rfl) H qq0 ?_;clear F a;intro a F
 refine Xq (k:=6) (i:=6) rfl F rfl (fun w=>Q0 F rfl rfl (JJ (j:=1) ?_)) H (fun _ _ _ h=>h) ?_
 focus omega
 clear F a;intro a F
 refine Xk (k:=7) (i:=7) rfl F rfl rfl (fun w H=>L0 X2 XS F rfl rfl rfl ?_ ?_) H (fun _ _ _ h=>h) ?_
 focus (omega)
 focus (omega)
 clear F a;intro a F;refine Xj 8 rfl F rfl (fun w=>rMv F rfl) H qq0 (Xm 9 rfl rfl (fun a F w=>rFa (f:=2) (k:=42) XG rfl Yb rfl rfl F rfl) H qq0 ?_);clear F a;intro a F
 refine Xq (k:=10) (i:=10) rfl F rfl (fun w=>rIa XZ Yi F rfl rfl ?_) H (fun _ _ _ h=>h) ?_
 focus (omega)
 clear F a;intro a F;refine Xj 11 rfl F rfl (fun w=>rMv F rfl) H qq0 (Xm 12 rfl rfl (fun a F w=>rMv F rfl) H qq0 ?_);clear F a;intro a F
 refine Xk (k:=13) (i:=13) rfl F rfl rfl (fun w H=>L0 X2 XS F rfl rfl rfl ?_ ?_) H (fun _ _ _ h=>h) ?_
 focus (omega)
 focus (omega)
 clear F a;intro a F;refine Xn (k:=14) (i:=14) rfl F (XfT H 2 X4 XS F rfl rfl rfl rfl ?hm ?hd ?hs ?_)
 case hm=>omega
 case hd=>(unfold BE;split <;> omega)
 case hs=>(unfold BE;split <;> omega)
 clear F a H;intro a w F H;refine Xo H ?_;refine Xp (k:=15) ?_;refine hK15 _ _ ?_;clear hK15;refine JD (fun K16 hK16=>?_);refine Xi H ?_;replace H:=H.drew;refine Xj 0 rfl F rfl (fun w=>rMv F rfl) H qq0 (Xm 1 rfl rfl (fun a F w=>rMv F rfl) H qq0 (Xl 2 rfl rfl rfl (fun a F w H=>Nt XQ rfl XS F rfl (H.whole 1 rfl)) H qq0 (Xm 3 rfl rfl (fun a F w=>rFa (f:=2) (k:=42) XG rfl Yb rfl rfl F rfl) H qq0 ?_)));clear F a;intro a F
 refine Xq (k:=4) (i:=4) rfl F rfl (fun w=>rIa XZ Yi F rfl rfl ?_) H (fun _ _ _ h=>h) ?_
 focus (omega)
 clear F a;intro a F
 refine Xq (k:=5) (i:=5) rfl F rfl (fun w=>rIa X2 XS F rfl rfl ?_) H (fun _ _ _ h=>h) ?_
 focus (omega)
 clear F a;intro a F;refine Xn (k:=6) (i:=6) rfl F (DV H 2 XS F rfl rfl rfl (by omega) ?_);clear H;intro w H;refine Xo H ?_;refine Xp (k:=7) ?_;refine hK16 _ _ (cSR fun K17 hK17=>Xf F rfl (Xr (f:=3) (k:=138) XG rfl Yh rfl rfl rfl ?_));clear hK16;clear F a;intro a F
 refine MP X8 XH F rfl rfl rfl rfl ?_ ?_
 focus (omega)
 clear F a;intro a F;refine sLd XJ F rfl rfl rfl (H.ce' 2 rfl) (Xe rfl rfl (ND (y:=1)) (Xr (f:=3) (k:=138) XG rfl Yh rfl rfl rfl ?_));clear F a;intro a F
 refine MP X8 XH F rfl rfl rfl rfl ?_ ?_
 focus (omega)
 clear F a;intro a F;refine LJ H 2 XH F rfl rfl rfl rfl (by omega) ?_;clear H;intro w H;refine nK hK17 (cSR fun K18 hK18=>Xs XG rfl XL F rfl (H.whole 2 rfl) ?_);clear hK17;clear F a;intro a F;refine Xt H 0 XL F rfl rfl rfl ?_;clear H;intro w H;rw [JE] at H;refine nK hK18 ?_;clear hK18;refine wp_ret ?_;refine NE results92 F rfl XG rfl XL H 0 rfl ?_
 refine ⟨?_,H.below⟩
 clear F H
 rw [Xbd ht hn ha,Ce,hs];rw [DB (fun _ h=>h19 h.1)]
theorem XgJ {m:UInt8} {s:By} {t:Nat} {loc:UInt8} {f i:Nat} (h:m=3∧JU s t i ≠ loc):MM m s t loc (f+1) i=MM m s t loc f (i+1):=by rw [MM,if_pos h]
theorem BZ {m:UInt8} {s:By} {t:Nat} {loc:UInt8} {f i:Nat} (h:¬ (m=3∧JU s t i ≠ loc)):MM m s t loc f i=i:=by
 cases f with
 | zero=>rfl
 | succ f=>rw [MM,if_neg h]
theorem Xaf {s:By} {t a:Nat} (ht:t < 4) (hn:JA s t≤12) (ha:a < JA s t) :
   put (put (lay (lay s (42+t * 24+BE a 12 2) (((s (138+t)).toNat - 1 - a) * 2) (cut s (42+t * 24+BE (a+1) 12 2))) (42+t * 24+((s (138+t)).toNat - 1) * 2) 2 zb) (138+t)
     (lay (lay s (42+t * 24+BE a 12 2) (((s (138+t)).toNat - 1 - a) * 2) (cut s (42+t * 24+BE (a+1) 12 2))) (42+t * 24+((s (138+t)).toNat - 1) * 2) 2 zb (138+t) - 1))
     (36+(cut s (42+t * 24+a * 2) 0).toNat) (cut s (42+t * 24+a * 2) 1)=Qy s t a:=by
 have hme:JA s t=(s (138+t)).toNat:=rfl
 rw [Xge (by omega),D7 (by omega),D7 (by omega)]
 rfl
set_option maxHeartbeats 2000000 in
theorem XgI (mc:UInt8) (s:By) (x:Pss) (t:Nat) (w0:World) (hx:x.t.toNat=t) (ht:t < 4) (hn0:0 < JA s t) (hn:JA s t≤12) (hlo:∀ i,i < JA s t→(JU s t i).toNat < 6) (hex:mc=3→∃ i,i < JA s t∧JU s t i=x.l) :
   Calls Tryz.prog 89 #[YtcpehikcegoojaaGreatDoor.b8 mc,.agg (bs 142 s).toArray,.agg x.cells.toArray] w0 fun e w'=>e = .returned (.agg (bs 142 (BY mc s t x.l)).toArray)∧Below w0.heap.size w0 w':=by
 subst hx
 have hme:JA s x.t.toNat=(s (138+x.t.toNat)).toNat:=rfl
 have H:=Own.start w0 none
 refine JF func89 rfl ntmps89 rfl (fun a F=>?_);refine cSR fun K1 hK1=>?_;refine Mg H F rfl rfl rfl ?_;clear F a H;intro b4 a w F H;refine sBx H F rfl rfl rfl ?_;clear F a H;intro b5 a w F H;refine Mo H N3 F rfl rfl ?_;clear F a H;intro b6 a w F H;refine nK hK1 (cSR fun K2 hK2=>Xb (f:=0) (k:=0) X6 rfl XH rfl rfl F rfl (Xc XJ rfl (H.cell 1 rfl rfl) (Xd rfl (qNK hK2 (qSR fun K3 hK3=>Xh rfl (Xr (f:=3) (k:=138) XG rfl Yh rfl rfl rfl ?_))))));clear hK1 hK2;clear F a;intro a F
 refine MP X8 XH F rfl rfl rfl rfl ?_ ?_
 focus (omega)
 clear F a;intro a F;refine sLd XJ F rfl rfl rfl (H.ce' 2 rfl) (qCv XO XT rfl rfl rfl (QG _) (Xd rfl (Xd rfl (qNK hK3 ?_))));clear hK3;clear F a;intro a F;refine JD (fun K4 hK4=>?_);refine wp_block ?_
 refine JN [0,4,5,6,7,8] (fun m ups w=>∃ (a f:Nat),m=JA s x.t.toNat - a∧ups=[(9,.int .i64 ((a:Nat):Int))]∧a < JA s x.t.toNat∧a+f=JA s x.t.toNat∧L1 mc s x.t.toNat x.l=MM mc s x.t.toNat x.l f a∧(mc=3→∃ i,a≤i∧i < JA s x.t.toNat∧JU s x.t.toNat i=x.l)∧Own w0 none w [.blk b6 (bs 142 zb) 60,.blk b5 x.cells 73,.blk b4 (bs 142 s) 60]) F (JA s x.t.toNat) [(9,.int .i64 ((0:Nat):Int))] ?_ ?_
 · exact ⟨0,JA s x.t.toNat,rfl,rfl,hn0,by omega,rfl,fun h=>by obtain ⟨i,h1,h2⟩:=hex h;exact ⟨i,by omega,h1,h2⟩,H.sel [0,1,2] rfl rfl⟩
 clear F
 clear H
 intro m ups a w hI F
 obtain ⟨a',f,rfl,rfl,ha,hf,hs,hx3,H⟩:=hI
 obtain ⟨f,rfl⟩:∃ q,f=q+1:=⟨f - 1,by omega⟩
 have hla:=hlo a' ha
 have hlc:(cut s (42+x.t.toNat * 24+a' * 2) 0).toNat < 6:=hla
 refine JD (fun K5 hK5=>?_);refine JD (fun K6 hK6=>?_);refine Xi H ?_;replace H:=H.drew;refine Xj 0 rfl F rfl (fun w=>rMv F rfl) H qq0 (Xm 1 rfl rfl (fun a F w=>Q0 F rfl rfl (JL (y:=3))) H qq0 (Xm 2 rfl rfl (fun a F w=>rMv F rfl) H qq0 ?_));clear F a;intro a F
 refine F.split 20 rfl ?_ ?_ <;> (clear F;intro h20 F)
 ·
  replace h20:=J1 h20;refine Xj 3 rfl F rfl (fun w=>rMv F rfl) H qq0 (Xm 4 rfl rfl (fun a F w=>rMv F rfl) H qq0 (Xm 5 rfl rfl (fun a F w=>rFa (f:=2) (k:=42) XG rfl Yb rfl rfl F rfl) H qq0 ?_));clear F a;intro a F
  refine Xq (k:=6) (i:=6) rfl F rfl (fun w=>rIa XZ Yi F rfl rfl ?_) H (fun _ _ _ h=>h) ?_
  focus (omega)
  clear F a;intro a F
  refine Xq (k:=7) (i:=7) rfl F rfl (fun w=>rIa X2 XS F rfl rfl ?_) H (fun _ _ _ h=>h) ?_
  focus (omega)
  clear F a;intro a F;refine Xj 8 rfl F rfl (fun w=>Xct (f:=0) XQ rfl XH rfl rfl F rfl) H qq0 (Xl 9 rfl rfl rfl (fun a F w H=>rLd XJ F rfl (H.ce' 2 rfl)) H qq0 (Xm 10 rfl rfl (fun a F w=>rFa (f:=2) (k:=2) X6 rfl XH rfl rfl F rfl) H qq0 (Xl 11 rfl rfl rfl (fun a F w H=>rLd XJ F rfl (H.cell 1 rfl rfl)) H qq0 (Xm 12 rfl rfl (fun a F w=>Q0 F rfl rfl Xba) H qq0 (Xm 13 rfl rfl (fun a F w=>rPk F rfl rfl) H qq0 ?_)))));clear F a;intro a F;refine Xp (k:=14) ?_;refine hK6 _ _ ?_;clear hK6
  refine cIf F rfl (fun h31=>?_) (fun h31=>?_)
  ·
   replace h31:=Ep h31;refine wp_skip (hK5 _ _ ?_);clear hK5;refine wp_block ?_;refine JY (Xf F rfl ?_);clear F a;intro a F
   refine Xg F rfl rfl (JJ (j:=1) ?_) ?_
   focus omega
   clear F a;intro a F;refine Xa F rfl ?_;clear F a;intro a F;refine J4 ?_
   (have hne:mc=3∧JU s x.t.toNat a' ≠ x.l:=⟨by assumption,by assumption⟩
    have hnx:∃ i,a'+1≤i∧i < JA s x.t.toNat∧JU s x.t.toNat i=x.l:=by
     obtain ⟨i,h1,h2,h3⟩:=hx3 hne.1
     rcases Nat.eq_or_lt_of_le h1 with e | e
     · subst e;exact absurd h3 hne.2
     · exact ⟨i,e,h2,h3⟩
    have hlt:a'+1 < JA s x.t.toNat:=by obtain ⟨i,h1,h2,_⟩:=hnx;omega
    exact ⟨_,by omega,_,⟨a'+1,f,rfl,rfl,hlt,by omega,by rw [hs,XgJ hne],fun _=>hnx,H.sel [0,1,2] rfl rfl⟩,F.tt⟩)
  replace h31:=Er h31;refine wp_exit ?_;refine hK4 _ _ (cSR fun K7 hK7=>Xf F rfl (Xh rfl (Xr (f:=2) (k:=42) XG rfl Yb rfl rfl rfl ?_)));clear hK4;clear F a;intro a F
  refine sIa XZ Yi F rfl rfl rfl rfl ?_ ?_
  focus (omega)
  clear F a;intro a F
  refine sIa X2 XS F rfl rfl rfl rfl ?_ ?_
  focus (omega)
  clear F a;intro a F;refine Xs XQ rfl XS F rfl (H.ra' 2 _ 2 rfl) ?_;clear F a;intro a F;refine Mo H Xeg F rfl rfl ?_;clear F a H;intro b10 a w F H;refine Xt H 0 XS F rfl rfl rfl ?_;clear H;intro w H;rw [JE] at H;refine nK hK7 ?_;clear hK7;refine JD (fun K8 hK8=>?_);refine Xi H ?_;replace H:=H.drew;refine Xj 0 rfl F rfl (fun w=>rMv F rfl) H qq0 (Xm 1 rfl rfl (fun a F w=>rFa (f:=2) (k:=42) XG rfl Yb rfl rfl F rfl) H qq0 ?_);clear F a;intro a F
  refine Xq (k:=2) (i:=2) rfl F rfl (fun w=>rIa XZ Yi F rfl rfl ?_) H (fun _ _ _ h=>h) ?_
  focus (omega)
  clear F a;intro a F;refine Xj 3 rfl F rfl (fun w=>rMv F rfl) H qq0 (Xm 4 rfl rfl (fun a F w=>rMv F rfl) H qq0 ?_);clear F a;intro a F
  refine Xq (k:=5) (i:=5) rfl F rfl (fun w=>Q0 F rfl rfl (Es (j:=1) ?_ ?_)) H (fun _ _ _ h=>h) ?_
  focus omega
  focus omega
  clear F a;intro a F
  refine Xk (k:=6) (i:=6) rfl F rfl rfl (fun w H=>L0 X2 XS F rfl rfl rfl ?_ ?_) H (fun _ _ _ h=>h) ?_
  focus (omega)
  focus (omega)
  clear F a;intro a F;refine Xj 7 rfl F rfl (fun w=>rMv F rfl) H qq0 (Xm 8 rfl rfl (fun a F w=>rFa (f:=2) (k:=42) XG rfl Yb rfl rfl F rfl) H qq0 ?_);clear F a;intro a F
  refine Xq (k:=9) (i:=9) rfl F rfl (fun w=>rIa XZ Yi F rfl rfl ?_) H (fun _ _ _ h=>h) ?_
  focus (omega)
  clear F a;intro a F;refine Xj 10 rfl F rfl (fun w=>rMv F rfl) H qq0 ?_;clear F a;intro a F
  refine Xq (k:=11) (i:=11) rfl F rfl (fun w=>Q0 F rfl rfl (JJ (j:=1) ?_)) H (fun _ _ _ h=>h) ?_
  focus omega
  clear F a;intro a F;refine Xj 12 rfl F rfl (fun w=>rMv F rfl) H qq0 ?_;clear F a;intro a F
  refine Xk (k:=13) (i:=13) rfl F rfl rfl (fun w H=>L0 X2 XS F rfl rfl rfl ?_ ?_) H (fun _ _ _ h=>h) ?_
  focus (omega)
  focus (omega)
  clear F a;intro a F;refine Xn (k:=14) (i:=14) rfl F (XfT H 3 X4 XS F rfl rfl rfl rfl ?hm ?hd ?hs ?_)
  case hm=>omega
  case hd=>(unfold BE;split <;> omega)
  case hs=>(unfold BE;split <;> omega)
  clear F a H;intro a w F H;refine Xo H ?_;refine Xp (k:=15) ?_;refine hK8 _ _ (cSR fun K9 hK9=>Xf F rfl (Xh rfl ?_));clear hK8;clear F a;intro a F
  refine Xg F rfl rfl (Es (j:=1) ?_ ?_) ?_
  focus omega
  focus omega
  clear F a;intro a F;refine Xhn (places:=[(0,1),(1,1)]) Xeg XQ (by kernel_rfl) F rfl rfl rfl FillB.nil (Xr (f:=2) (k:=42) XG rfl Yb rfl rfl rfl ?_);clear F a;intro a F
  refine sIa XZ Yi F rfl rfl rfl rfl ?_ ?_
  focus (omega)
  clear F a;intro a F
  refine sIa X2 XS F rfl rfl rfl rfl ?_ ?_
  focus (omega)
  clear F a;intro a F;refine Xt H 3 XS F rfl rfl rfl ?_;clear H;intro w H;refine nK hK9 (cSR fun K10 hK10=>Xf F rfl (Xr (f:=3) (k:=138) XG rfl Yh rfl rfl rfl ?_));clear hK9;clear F a;intro a F
  refine MP X8 XH F rfl rfl rfl rfl ?_ ?_
  focus (omega)
  clear F a;intro a F;refine sLd XJ F rfl rfl rfl (H.ce' 3 rfl) (Xe rfl rfl (Xik (y:=1)) (Xr (f:=3) (k:=138) XG rfl Yh rfl rfl rfl ?_));clear F a;intro a F
  refine MP X8 XH F rfl rfl rfl rfl ?_ ?_
  focus (omega)
  clear F a;intro a F;refine LJ H 3 XH F rfl rfl rfl rfl (by omega) ?_;clear H;intro w H;refine nK hK10 (cSR fun K11 hK11=>Xb (f:=0) (k:=0) XQ rfl XH rfl rfl F rfl (Xc XJ rfl (H.ce' 0 rfl) (Xr (f:=1) (k:=1) XQ rfl XH rfl rfl rfl (Xc XJ rfl (H.ce' 0 rfl) (Xr (f:=1) (k:=36) XG rfl Yg rfl rfl rfl ?_)))));clear hK10;clear F a;intro a F
  refine MP Yj XH F rfl rfl rfl rfl ?_ ?_
  focus exact hla
  clear F a;intro a F;refine LJ H 3 XH F rfl rfl rfl rfl (by omega) ?_;clear H;intro w H;refine nK hK11 (cSR fun K12 hK12=>Xs XG rfl XL F rfl (H.whole 3 rfl) ?_);clear hK11;clear F a;intro a F;refine Xt H 1 XL F rfl rfl rfl ?_;clear H;intro w H;rw [JE] at H;refine nK hK12 ?_;clear hK12;refine wp_ret ?_;refine NE results89 F rfl XG rfl XL H 1 rfl ?_
  refine ⟨?_,H.below⟩
  clear F H
  rw [Xaf ht hn ha,BY,hs];rw [BZ (fun h=>h.2 h31)]
 replace h20:=J2 h20;refine Xz 3 rfl F rfl H qq0 (XA 4 rfl rfl H qq0 (XA 5 rfl rfl H qq0 (XA 6 rfl rfl H qq0 (XA 7 rfl rfl H qq0 (XA 8 rfl rfl H qq0 (XA 9 rfl rfl H qq0 (XA 10 rfl rfl H qq0 (XA 11 rfl rfl H qq0 (XA 12 rfl rfl H qq0 (Xm 13 rfl rfl (fun a F w=>rPk F rfl rfl) H qq0 ?_))))))))));clear F a;intro a F;refine Xp (k:=14) ?_;refine hK6 _ _ ?_;clear hK6;refine LB F rfl ?_;refine wp_exit ?_;refine hK4 _ _ (cSR fun K13 hK13=>Xf F rfl (Xh rfl (Xr (f:=2) (k:=42) XG rfl Yb rfl rfl rfl ?_)));clear hK4;clear F a;intro a F
 refine sIa XZ Yi F rfl rfl rfl rfl ?_ ?_
 focus (omega)
 clear F a;intro a F
 refine sIa X2 XS F rfl rfl rfl rfl ?_ ?_
 focus (omega)
 clear F a;intro a F;refine Xs XQ rfl XS F rfl (H.ra' 2 _ 2 rfl) ?_;clear F a;intro a F;refine Mo H Xeg F rfl rfl ?_;clear F a H;intro b10 a w F H;refine Xt H 0 XS F rfl rfl rfl ?_;clear H;intro w H;rw [JE] at H;refine nK hK13 ?_;clear hK13;refine JD (fun K14 hK14=>?_);refine Xi H ?_;replace H:=H.drew;refine Xj 0 rfl F rfl (fun w=>rMv F rfl) H qq0 (Xm 1 rfl rfl (fun a F w=>rFa (f:=2) (k:=42) XG rfl Yb rfl rfl F rfl) H qq0 ?_);clear F a;intro a F
 refine Xq (k:=2) (i:=2) rfl F rfl (fun w=>rIa XZ Yi F rfl rfl ?_) H (fun _ _ _ h=>h) ?_
 focus (omega)
 clear F a;intro a F;refine Xj 3 rfl F rfl (fun w=>rMv F rfl) H qq0 (Xm 4 rfl rfl (fun a F w=>rMv F rfl) H qq0 ?_);clear F a;intro a F
 refine Xq (k:=5) (i:=5) rfl F rfl (fun w=>Q0 F rfl rfl (Es (j:=1) ?_ ?_)) H (fun _ _ _ h=>h) ?_
 focus omega
 focus omega
 clear F a;intro a F
 refine Xk (k:=6) (i:=6) rfl F rfl rfl (fun w H=>L0 X2 XS F rfl rfl rfl ?_ ?_) H (fun _ _ _ h=>h) ?_
 focus (omega)
 focus (omega)
 clear F a;intro a F;refine Xj 7 rfl F rfl (fun w=>rMv F rfl) H qq0 (Xm 8 rfl rfl (fun a F w=>rFa (f:=2) (k:=42) XG rfl Yb rfl rfl F rfl) H qq0 ?_);clear F a;intro a F
 refine Xq (k:=9) (i:=9) rfl F rfl (fun w=>rIa XZ Yi F rfl rfl ?_) H (fun _ _ _ h=>h) ?_
 focus (omega)
 clear F a;intro a F;refine Xj 10 rfl F rfl (fun w=>rMv F rfl) H qq0 ?_;clear F a;intro a F
 refine Xq (k:=11) (i:=11) rfl F rfl (fun w=>Q0 F rfl rfl (JJ (j:=1) ?_)) H (fun _ _ _ h=>h) ?_
 focus omega
 clear F a;intro a F;refine Xj 12 rfl F rfl (fun w=>rMv F rfl) H qq0 ?_;clear F a;intro a F
 refine Xk (k:=13) (i:=13) rfl F rfl rfl (fun w H=>L0 X2 XS F rfl rfl rfl ?_ ?_) H (fun _ _ _ h=>h) ?_
 focus (omega)
 focus (omega)
 clear F a;intro a F;refine Xn (k:=14) (i:=14) rfl F (XfT H 3 X4 XS F rfl rfl rfl rfl ?hm ?hd ?hs ?_)
 case hm=>omega
 case hd=>(unfold BE;split <;> omega)
 case hs=>(unfold BE;split <;> omega)
 clear F a H;intro a w F H;refine Xo H ?_;refine Xp (k:=15) ?_;refine hK14 _ _ (cSR fun K15 hK15=>Xf F rfl (Xh rfl ?_));clear hK14;clear F a;intro a F
 refine Xg F rfl rfl (Es (j:=1) ?_ ?_) ?_
 focus omega
 focus omega
 clear F a;intro a F;refine Xhn (places:=[(0,1),(1,1)]) Xeg XQ (by kernel_rfl) F rfl rfl rfl FillB.nil (Xr (f:=2) (k:=42) XG rfl Yb rfl rfl rfl ?_);clear F a;intro a F
 refine sIa XZ Yi F rfl rfl rfl rfl ?_ ?_
 focus (omega)
 clear F a;intro a F
 refine sIa X2 XS F rfl rfl rfl rfl ?_ ?_
 focus (omega)
 clear F a;intro a F;refine Xt H 3 XS F rfl rfl rfl ?_;clear H;intro w H;refine nK hK15 (cSR fun K16 hK16=>Xf F rfl (Xr (f:=3) (k:=138) XG rfl Yh rfl rfl rfl ?_));clear hK15;clear F a;intro a F
 refine MP X8 XH F rfl rfl rfl rfl ?_ ?_
 focus (omega)
 clear F a;intro a F;refine sLd XJ F rfl rfl rfl (H.ce' 3 rfl) (Xe rfl rfl (Xik (y:=1)) (Xr (f:=3) (k:=138) XG rfl Yh rfl rfl rfl ?_));clear F a;intro a F
 refine MP X8 XH F rfl rfl rfl rfl ?_ ?_
 focus (omega)
 clear F a;intro a F;refine LJ H 3 XH F rfl rfl rfl rfl (by omega) ?_;clear H;intro w H;refine nK hK16 (cSR fun K17 hK17=>Xb (f:=0) (k:=0) XQ rfl XH rfl rfl F rfl (Xc XJ rfl (H.ce' 0 rfl) (Xr (f:=1) (k:=1) XQ rfl XH rfl rfl rfl (Xc XJ rfl (H.ce' 0 rfl) (Xr (f:=1) (k:=36) XG rfl Yg rfl rfl rfl ?_)))));clear hK16;clear F a;intro a F
 refine MP Yj XH F rfl rfl rfl rfl ?_ ?_
 focus exact hla
 clear F a;intro a F;refine LJ H 3 XH F rfl rfl rfl rfl (by omega) ?_;clear H;intro w H;refine nK hK17 (cSR fun K18 hK18=>Xs XG rfl XL F rfl (H.whole 3 rfl) ?_);clear hK17;clear F a;intro a F;refine Xt H 1 XL F rfl rfl rfl ?_;clear H;intro w H;rw [JE] at H;refine nK hK18 ?_;clear hK18;refine wp_ret ?_;refine NE results89 F rfl XG rfl XL H 1 rfl ?_
 refine ⟨?_,H.below⟩
 clear F H
 rw [Xaf ht hn ha,BY,hs];rw [BZ (fun h=>h20 h.1)]
end Go.Proofs.YtcpehikcegoojaaGreatDoor
