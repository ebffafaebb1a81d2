/-
  The last step of a row, from Below. Conditions: none.
 
  Arguments opened: bytes, structs, slices, programs, as the rows' readings give them. Conditions: none.
 
  The table of needs as the rows' condition gives it; arguments opened. Conditions: none.
-/
import Derived.Test.YtbgnapmaimkpkaaGreatDoorRows
import Derived.WalkKit
import Derived.ProofKit
import Derived.OpenShut
import Derived.ShutString
import Derived.Below
import Derived.ChangeSame
import Derived.Test.YtbgnapmaimkpkaaGreatDoorCkK
import Derived.Deep.Slices
import Derived.Deep.Fields
import Derived.SizedLaws
import Derived.WideKeyArgs
import Derived.LaidMore
import Derived.Stop.Joined
import Derived.Test.YtbgnapmaimkpkaaGreatDoorJn8
import Derived.Test.YtbgnapmaimkpkaaGreatDoorJn9
import Derived.Test.YtbgnapmaimkpkaaGreatDoorJn11
set_option linter.unusedSimpArgs false
set_option linter.unusedVariables false
namespace Go.Proofs.YtbgnapmaimkpkaaGreatDoor
-- OpK
open Go.Proofs.Tryz
open Go.RowKit Go.WideShapes Go.ChangeShapes
section
variable {H:Type} {enc:TypeId × Value→H} {P:Program}
theorem post_of_below {f:Func} {s:ChangeSpec} {apart fresh handsOn again:Bool} {W W':World} {args:Array Value} {v:Value} {ds gs:List (DataW H)} {before pa pv:List MemPlace}
   (hW:DataW.Whole enc P f.params.toList s.vars apart W args.toList ds gs before)
   (hres:∀ (b:Nat) (sp:Nat→Bool) (hd:Bool),DataW.TrodAll enc P W' b sp hd f.resultTypes.toList (v.resultList f.resultTypes.size) (s.fn H (ds++gs)).results [])
   (hargs:∀ sp:Nat→Bool,(∀ p ∈ before,sp p.block=true)→DataW.TrodAll enc P W' 0 sp true f.params.toList args.toList (s.fn H (ds++gs)).args pa)
   (hvars:∀ sp:Nat→Bool,(∀ p ∈ before,sp p.block=true)→DataW.TrodVars enc P W' sp s.vars (s.fn H (ds++gs)).vars pv)
   (hps:before=pa++pv) (hb:Below W.heap.size W W')
   (hok:∀ (j:Nat) (t:TypeId) (r:Value),f.resultTypes[j]? = some t→(v.resultList f.resultTypes.size)[j]? = some r→Value.okWide P W' .any 0 t r) :
   s.post enc P f apart fresh handsOn again W args v W':=by
 have hlt:∀ p ∈ before,p.block < W.heap.size:=fun p hp=>hW.lt p hp
 have hold:∀ p ∈ before,(fun b=>decide (b < W.heap.size)) p.block=true:=fun p hp=>by simpa using hlt p hp
 refine ⟨ds,gs,before,[],pa,pv,hW,hres _ _ _,hargs _ hold,hvars _ hold,World.keptBut_mono (fun p hp=>⟨hp,?_⟩) (hb.frame (· ∈ before)),fun _=>?_⟩
 · rw [hps,List.mem_append] at hp
   exact Or.inr hp
 · obtain ⟨_,_,_,_,_,hz,hn⟩:=hW
   refine ⟨hok,_,_,([]++pa)++pv,⟨[]++pa,pv,trodAll_append (hargs _ (fun _ _=>rfl)) (hres _ _ _),hvars _ (fun _ _=>rfl),rfl,?_,?_⟩,?_⟩
   · intro b off hp
     have hin:MemPlace.cell b off ∈ before:=by rw [hps];simpa using hp
     rw [hb.frozen (hlt _ hin)]
     exact hz b off hin
   · intro ha
     have:=hn ha
     rw [hps] at this
     simpa using this
   · intro p hp _
     rw [hps]
     simpa using hp
end
theorem row_knob:ownKnob Tryz.prog.godebug=none:=by kernel_rfl
end Go.Proofs.YtbgnapmaimkpkaaGreatDoor
namespace Go.Proofs.YtbgnapmaimkpkaaGreatDoor
open Go.Proofs.Tryz
open Go.ChangeShapes Go.WideShapes Go.ChangeAt Go.RowKit Go.Deep
section
variable {H:Type} {enc:TypeId × Value→H} {P:Program} {w:World} {spare:Nat→Bool} {held:Bool} {fuel:Nat} {t:TypeId} {cs:List Value} {x:DataW H × List MemPlace}
theorem o_struct {fs:Array Field} (ht:P.underlying t=some (.struct fs)) (h:DataW.trod enc P w 0 spare held fuel t cs=some x) :
   cs.length=P.cellsOf t∧∃ n,fuel=n+1∧∀ (i:Nat) (f:Field),fs[i]? = some f→∃ y,DataW.trod enc P w 0 spare held n f.type ((cs.drop f.offset).take (P.cellsOf f.type))=some y:=by
 obtain ⟨xs,n,hn,_,hl,hxl,hf⟩:=DataW.trod_struct ht h
 refine ⟨hl,n,hn,fun i f hi=>?_⟩
 have hlt:i < xs.length:=by rw [hxl];exact (Array.getElem?_eq_some_iff.1 hi).1
 exact ⟨_,(hf i f hi).trans (List.getElem?_eq_getElem hlt)⟩
theorem o_slice {e:TypeId} (ht:P.underlying t=some (.slice e)) (hpos:0 < P.cellsOf e) (h:DataW.trod enc P w 0 spare held fuel t cs=some x) :
   ∃ A len cap,cs=[.slice A len cap]∧len≤cap∧cap≤maxLen∧(A=none→len=0∧cap=0) ∧
     ∃ m,fuel=m+1∧∀ i,i < len→∃ b off cs' y,A=some ⟨b,off,none⟩∧b < w.heap.size∧cs'.length=P.cellsOf e∧w.rangeAt b (off+i * P.cellsOf e) cs'∧DataW.trod enc P w 0 spare held m e cs'=some y:=by
 rcases DataW.trod_slice ht h with ⟨rfl,_⟩ | ⟨a,len,cap,elems,rest,n,hn,rfl,_,hb,hl,hm,hlen,hel,_,_⟩
 · cases fuel with
   | zero=>simp [DataW.trod] at h
   | succ m=>exact ⟨none,0,0,rfl,Nat.le_refl _,Nat.zero_le _,fun _=>⟨rfl,rfl⟩,m,rfl,fun i hi=>by omega⟩
 · refine ⟨some a,len,cap,rfl,hl,hm,(fun h=>by cases h),n,hn,fun i hi=>?_⟩
   obtain ⟨b,o,sp⟩:=a
   have hsp:sp=none:=by
     have he:=hel 0 (by omega)
     rw [List.getElem?_eq_getElem (by omega)] at he
     obtain ⟨cs',hc,_⟩:=Option.bind_eq_some_iff.1 he
     obtain ⟨_,hcl,hat⟩:=World.cells?_some hc
     have h0:=hat 0 hpos
     rw [List.getElem?_eq_getElem (by omega)] at h0
     simpa [Addr.add] using World.cell?_spot h0
   subst hsp
   have he:=hel i hi
   rw [List.getElem?_eq_getElem (by omega)] at he
   obtain ⟨cs',hc,ht'⟩:=Option.bind_eq_some_iff.1 he
   obtain ⟨_,hcl,hat⟩:=World.cells?_some hc
   have hc0:w.cell? ⟨b,o+i * P.cellsOf e+0,none⟩=some (cs'[0]'(by omega)):=by
     have:=hat 0 hpos
     rw [List.getElem?_eq_getElem (by omega),Addr.add_mid,Addr.add_mid] at this
     exact this
   refine ⟨b,o,cs',_,rfl,World.block_lt_of_cell? w _ hc0,hcl,fun j v hj=>?_,ht'⟩
   have hjl:j < cs'.length:=(List.getElem?_eq_some_iff.1 hj).1
   have:=hat j (by omega)
   rw [Addr.add_mid,Addr.add_mid,hj] at this
   exact this
theorem o_u8 (ht:P.underlying t=some (.int .u8)) (h:DataW.trod enc P w 0 spare held fuel t cs=some x):∃ u:UInt8,cs=[b8 u]:=by
 obtain ⟨n,rfl,_,hwf⟩:=DataW.trod_int ht h
 simp only [Lit.wf,Bool.and_eq_true,decide_eq_true_eq] at hwf
 rw [show IntKind.u8.min=0 from by decide,show IntKind.u8.max=255 from by decide] at hwf
 refine ⟨UInt8.ofNat n.toNat,?_⟩
 have:(UInt8.ofNat n.toNat).toNat=n.toNat:=by rw [UInt8.toNat_ofNat'];omega
 simp only [b8,this]
 rw [Int.toNat_of_nonneg hwf.1]
theorem o_bool (ht:P.underlying t=some .bool) (h:DataW.trod enc P w 0 spare held fuel t cs=some x):∃ b:Bool,cs=[.bool b]:=by
 obtain ⟨b,h1,_⟩:=DataW.trod_bool ht h
 exact ⟨b,h1⟩
theorem o_str (ht:P.underlying t=some .string) (h:DataW.trod enc P w 0 spare held fuel t cs=some x):∃ s:ByteArray,cs=[.string s]∧s.size≤maxLen:=by
 obtain ⟨s,h1,_,h2⟩:=DataW.trod_string ht h
 exact ⟨s,h1,h2⟩
end
theorem len2 {α:Type} {l:List α} (h:l.length=2):∃ a b,l=[a,b]:=by
 match l,h with
 | [a,b],_=>exact ⟨a,b,rfl⟩
theorem len10' {α:Type} {l:List α} (h:l.length=10):∃ a0 a1 a2 a3 a4 a5 a6 a7 a8 a9,l=[a0,a1,a2,a3,a4,a5,a6,a7,a8,a9]:=by
 match l,h with
 | [a0,a1,a2,a3,a4,a5,a6,a7,a8,a9],_=>exact ⟨a0,a1,a2,a3,a4,a5,a6,a7,a8,a9,rfl⟩
theorem len5' {α:Type} {l:List α} (h:l.length=5):∃ a0 a1 a2 a3 a4,l=[a0,a1,a2,a3,a4]:=by
 match l,h with
 | [a0,a1,a2,a3,a4],_=>exact ⟨a0,a1,a2,a3,a4,rfl⟩
instance:Inhabited Ins:=⟨⟨0,0,0,false,0,false,0,0,0,0⟩⟩
instance:Inhabited Cnd:=⟨.mk 0 0 0 0 []⟩
theorem cU8:Tryz.prog.cellsOf 5=1:=by kernel_rfl
theorem cBool:Tryz.prog.cellsOf 4=1:=by kernel_rfl
theorem cStr:Tryz.prog.cellsOf 9=1:=by kernel_rfl
theorem cArg:Tryz.prog.cellsOf 35=2:=by kernel_rfl
theorem cIns:Tryz.prog.cellsOf 37=10:=by kernel_rfl
theorem cInses:Tryz.prog.cellsOf 33=1:=by kernel_rfl
theorem cInsess:Tryz.prog.cellsOf 24=1:=by kernel_rfl
theorem cStrs:Tryz.prog.cellsOf 22=1:=by kernel_rfl
theorem cU8s:Tryz.prog.cellsOf 23=1:=by kernel_rfl
theorem cCond:Tryz.prog.cellsOf 27=5:=by kernel_rfl
theorem cConds:Tryz.prog.cellsOf 25=1:=by kernel_rfl
theorem cProg:Tryz.prog.cellsOf 29=10:=by kernel_rfl
section
variable {H:Type} {enc:TypeId × Value→H} {w:World} {spare:Nat→Bool} {held:Bool} {fuel:Nat} {cs:List Value} {x:DataW H × List MemPlace}
theorem o_arg (h:DataW.trod enc Tryz.prog w 0 spare held fuel 35 cs=some x):∃ (r:Bool) (n:UInt8),cs=[.bool r,b8 n]:=by
 obtain ⟨hl,m,_,hf⟩:=o_struct underlying35 h
 rw [cArg] at hl
 obtain ⟨a,b,rfl⟩:=len2 hl
 obtain ⟨y0,h0⟩:=hf 0 _ rfl
 obtain ⟨y1,h1⟩:=hf 1 _ rfl
 replace h0:DataW.trod enc Tryz.prog w 0 spare held m 4 (([a,b].drop 0).take (Tryz.prog.cellsOf 4))=_:=h0
 replace h1:DataW.trod enc Tryz.prog w 0 spare held m 5 (([a,b].drop 1).take (Tryz.prog.cellsOf 5))=_:=h1
 rw [cBool] at h0;rw [cU8] at h1
 obtain ⟨r,e0⟩:=o_bool underlying4 h0
 obtain ⟨n,e1⟩:=o_u8 underlying5 h1
 simp only [List.drop,List.take,List.cons.injEq,and_true] at e0 e1
 exact ⟨r,n,by rw [e0,e1]⟩
theorem o_ins (h:DataW.trod enc Tryz.prog w 0 spare held fuel 37 cs=some x):∃ i:Ins,cs=i.cells:=by
 obtain ⟨hl,m,_,hf⟩:=o_struct underlying37 h
 rw [cIns] at hl
 obtain ⟨a0,a1,a2,a3,a4,a5,a6,a7,a8,a9,rfl⟩:=len10' hl
 have key:∀ o,DataW.trod enc Tryz.prog w 0 spare held m 5 (([a0,a1,a2,a3,a4,a5,a6,a7,a8,a9].drop o).take (Tryz.prog.cellsOf 5)) ≠ none→∃ u:UInt8,([a0,a1,a2,a3,a4,a5,a6,a7,a8,a9].drop o).take 1=[b8 u]:=by
   intro o ho
   obtain ⟨y,hy⟩:=Option.ne_none_iff_exists'.1 ho
   rw [cU8] at hy
   exact o_u8 underlying5 hy
 have karg:∀ o,DataW.trod enc Tryz.prog w 0 spare held m 35 (([a0,a1,a2,a3,a4,a5,a6,a7,a8,a9].drop o).take (Tryz.prog.cellsOf 35)) ≠ none→∃ (r:Bool) (n:UInt8),([a0,a1,a2,a3,a4,a5,a6,a7,a8,a9].drop o).take 2=[.bool r,b8 n]:=by
   intro o ho
   obtain ⟨y,hy⟩:=Option.ne_none_iff_exists'.1 ho
   rw [cArg] at hy
   exact o_arg hy
 have nn:∀ {z:Option (DataW H × List MemPlace)},(∃ y,z=some y)→z ≠ none:=fun ⟨y,hy⟩=>by rw [hy];exact fun h=>by cases h
 obtain ⟨u0,e0⟩:=key 0 (nn (hf 0 _ rfl))
 obtain ⟨u1,e1⟩:=key 1 (nn (hf 1 _ rfl))
 obtain ⟨u2,e2⟩:=key 2 (nn (hf 2 _ rfl))
 obtain ⟨r3,n3,e3⟩:=karg 3 (nn (hf 3 _ rfl))
 obtain ⟨r4,n4,e4⟩:=karg 5 (nn (hf 4 _ rfl))
 obtain ⟨u5,e5⟩:=key 7 (nn (hf 5 _ rfl))
 obtain ⟨u6,e6⟩:=key 8 (nn (hf 6 _ rfl))
 obtain ⟨u7,e7⟩:=key 9 (nn (hf 7 _ rfl))
 simp only [List.drop,List.take,List.cons.injEq,and_true] at e0 e1 e2 e3 e4 e5 e6 e7
 obtain ⟨e3,e3'⟩:=e3
 obtain ⟨e4,e4'⟩:=e4
 subst e0 e1 e2 e3 e3' e4 e4' e5 e6 e7
 exact ⟨⟨u0,u1,u2,r3,n3,r4,n4,u5,u6,u7⟩,rfl⟩
theorem o_rows {α:Type} [Inhabited α] {t e:TypeId} {f:α→List Value} {n:Nat} (ht:Tryz.prog.underlying t=some (.slice e)) (hn:Tryz.prog.cellsOf e=n) (hpos:0 < n)
   (he:∀ {fuel:Nat} {cs:List Value} {x:DataW H × List MemPlace},DataW.trod enc Tryz.prog w 0 spare held fuel e cs=some x→∃ a,cs=f a)
   (h:DataW.trod enc Tryz.prog w 0 spare held fuel t cs=some x):∃ A C,∃ l:List α,cs=[.slice A l.length C]∧RowsAt w A n (l.map f)∧l.length≤C∧C≤maxLen∧(A=none→C=0):=by
 obtain ⟨A,len,cap,rfl,hl,hc,hA,m,_,hi⟩:=o_slice ht (by omega) h
 rw [hn] at hi
 obtain ⟨T,hT⟩:=choose_lt (p:=fun i (a:α)=>∃ b off,A=some ⟨b,off,none⟩∧w.rangeAt b (off+i * n) (f a)) (fun i him=>by
   obtain ⟨b,off,cs',y,h1,_,_,h2,h3⟩:=hi i him
   obtain ⟨a,rfl⟩:=he h3
   exact ⟨a,b,off,h1,h2⟩)
 refine ⟨A,cap,(List.range len).map T,by simp,fun j c hj=>?_,by simpa using hl,hc,fun h=>(hA h).2⟩
 rw [List.map_map,List.getElem?_map] at hj
 obtain ⟨q,hq,rfl⟩:=Option.map_eq_some_iff.1 hj
 obtain ⟨hjl,rfl⟩:=List.getElem?_eq_some_iff.1 hq
 rw [List.length_range] at hjl;rw [List.getElem_range]
 exact hT j hjl
theorem o_bytes (h:DataW.trod enc Tryz.prog w 0 spare held fuel 23 cs=some x):∃ A C,∃ l:List UInt8,cs=[.slice A l.length C]∧RowsAt w A 1 (l.map fun x=>[b8 x])∧l.length≤C∧C≤maxLen∧(A=none→C=0):=
 o_rows underlying23 cU8 (by omega) (fun h=>o_u8 underlying5 h) h
theorem o_inses (h:DataW.trod enc Tryz.prog w 0 spare held fuel 33 cs=some x):∃ A C,∃ l:List Ins,cs=[.slice A l.length C]∧RowsAt w A 10 (l.map Ins.cells)∧l.length≤C∧C≤maxLen∧(A=none→C=0):=
 o_rows underlying33 cIns (by omega) (fun h=>o_ins h) h
theorem o_strs (h:DataW.trod enc Tryz.prog w 0 spare held fuel 22 cs=some x):∃ A C,∃ l:List ByteArray,cs=[.slice A l.length C]∧StrsAt w A l∧(∀ s ∈ l,s.size≤maxLen)∧l.length≤C∧C≤maxLen∧(A=none→C=0):=by
 obtain ⟨A,len,cap,rfl,hl,hc,hA,m,_,hi⟩:=o_slice underlying22 (by rw [cStr];omega) h
 rw [cStr] at hi
 obtain ⟨T,hT⟩:=choose_lt (p:=fun i (s:ByteArray)=>s.size≤maxLen∧∃ b off,A=some ⟨b,off,none⟩∧w.rangeAt b (off+i * 1) [.string s]) (fun i him=>by
   obtain ⟨b,off,cs',y,h1,_,_,h2,h3⟩:=hi i him
   obtain ⟨a,rfl,h4⟩:=o_str underlying9 h3
   exact ⟨a,h4,b,off,h1,h2⟩)
 refine ⟨A,cap,(List.range len).map T,by simp,fun j c hj=>?_,fun s hs=>?_,by simpa using hl,hc,fun h=>(hA h).2⟩
 · rw [List.map_map,List.getElem?_map] at hj
   obtain ⟨q,hq,rfl⟩:=Option.map_eq_some_iff.1 hj
   obtain ⟨hjl,rfl⟩:=List.getElem?_eq_some_iff.1 hq
   rw [List.length_range] at hjl;rw [List.getElem_range]
   exact (hT j hjl).2
 · obtain ⟨i,hi2,rfl⟩:=List.mem_map.1 hs
   exact (hT i (List.mem_range.1 hi2)).1
theorem o_threads (h:DataW.trod enc Tryz.prog w 0 spare held fuel 24 cs=some x):∃ A C,∃ l:List (List Ins),cs=[.slice A l.length C]∧ThreadsAt w A l∧l.length≤C∧C≤maxLen∧(A=none→C=0):=by
 obtain ⟨A,len,cap,rfl,hl,hc,hA,m,_,hi⟩:=o_slice underlying24 (by rw [cInses];omega) h
 rw [cInses] at hi
 obtain ⟨T,hT⟩:=choose_lt (p:=fun i (t:List Ins)=>∃ b off B C,A=some ⟨b,off,none⟩∧w.cell? ⟨b,off+i * 1,none⟩=some (.slice B t.length C)∧RowsAt w B 10 (t.map Ins.cells)∧t.length≤9223372036854775807) (fun i him=>by
   obtain ⟨b,off,cs',y,h1,_,_,h2,h3⟩:=hi i him
   obtain ⟨B,C,l,rfl,h4,h5,h6,_⟩:=o_inses h3
   exact ⟨l,b,off,B,C,h1,by have:=h2 0 _ rfl;rwa [Nat.add_zero] at this,h4,by unfold maxLen at h6;omega⟩)
 refine ⟨A,cap,(List.range len).map T,by simp,fun j c hj=>?_,by simpa using hl,hc,fun h=>(hA h).2⟩
 rw [List.getElem?_map] at hj
 obtain ⟨q,hq,rfl⟩:=Option.map_eq_some_iff.1 hj
 obtain ⟨hjl,rfl⟩:=List.getElem?_eq_some_iff.1 hq
 rw [List.length_range] at hjl;rw [List.getElem_range]
 exact hT j hjl
theorem CondAt.succ:∀ (h:Nat) (cs:List Value) (c:Cnd),CondAt w h cs c→CondAt w (h+1) cs c
 | 0,_,_,hc=>hc.elim
 | h+1,cs,.mk k t n v kids,hc=>by
   obtain ⟨A,C,h1,h2,h3⟩:=hc
   refine ⟨A,C,h1,h2,fun j kid hj=>?_⟩
   obtain ⟨b,off,cs',h4,h5,h6⟩:=h3 j kid hj
   exact ⟨b,off,cs',h4,h5,CondAt.succ h cs' kid h6⟩
theorem CondAt.mono {a b:Nat} (h:a≤b) {cs:List Value} {c:Cnd} (hc:CondAt w a cs c):CondAt w b cs c:=by
 induction h with
 | refl=>exact hc
 | step _ ih=>exact CondAt.succ _ _ _ ih
end
theorem laidOutP:laidOutB Tryz.prog=true:=by kernel_rfl
end Go.Proofs.YtbgnapmaimkpkaaGreatDoor
namespace Go.Proofs.YtbgnapmaimkpkaaGreatDoor
open Go.Proofs.Tryz
open Go.ChangeShapes Go.WideShapes Go.ChangeAt Go.RowKit Go.Deep
set_option maxRecDepth 100000
def laidN : List (String × DataW Unit) := [("seisin/check.needs", Rows.laid_seisin_check_needs)]
theorem laid_at {P:Program} {W:World} {n:String} {d:DataW Unit}:∀ {l:List (String × DataW Unit)} {ps:List MemPlace},DataW.LaidVars P W l ps→(n,d) ∈ l →
   ∃ g t cs fuel p,P.globalNamed n=some g∧(P.globals[g]?).map (·.type)=some t∧W.var? P n=some cs∧DataW.trod (fun _=>()) P W 0 (fun _=>true) false fuel t cs.toList=some (d,p)
 | [],_,_,hm=>by cases hm
 | (n0,d0) :: r,ps,⟨g,t,cs,f,p,q,h1,h2,h3,h4,h5,_⟩,hm=>by
   rcases List.mem_cons.1 hm with e | e
   · cases e;exact ⟨g,t,cs,f,p,h1,h2,h3,h4⟩
   · exact laid_at h5 e
theorem gNeeds : Tryz.prog.globalNamed "seisin/check.needs" = some 0 := by kernel_rfl
theorem tNeeds:(Tryz.prog.globals[0]?).map (·.type)=some 126:=by kernel_rfl
theorem needs_of_laid {W:World} (h:laidMetH Tryz.prog laidN W):NeedsAt W:=by
 rw [MakeChecks.laidMetH_plain _ _ _ (by kernel_rfl)] at h
 obtain ⟨ps,hps,_,_⟩:=h
 obtain ⟨g0, t0, cs0, f0, p0, hg0, ht0, hv0, hd0⟩ := laid_at (n := "seisin/check.needs") (d := Rows.laid_seisin_check_needs) hps (by unfold laidN; first | exact .head _ | exact .tail _ (.head _) | exact .tail _ (.tail _ (.tail _ (.head _))))
 obtain rfl:=Option.some.inj (gNeeds.symm.trans hg0)
 obtain rfl:=Option.some.inj (tNeeds.symm.trans ht0)
 obtain ⟨xs,m1,rfl,hx1,hlen,hn3,hel⟩:=DataW.trod_array underlying126 hd0
 have key:∀ i,i < 9→∃ n,cs0[i]? = some (.int .u8 n)∧(xs.map (·.1))[i]? = some (.lit (.int .u8 n)):=fun i hi=>by
   have h1:=hel i hi
   rw [cU8,List.getElem?_eq_getElem (by omega)] at h1
   obtain ⟨n,e1,e2,_⟩:=DataW.trod_int underlying5 h1
   refine ⟨n,?_,?_⟩
   · have:(((cs0.toList.drop (i * 1)).take 1))[0]? = some (.int .u8 n):=by rw [e1];rfl
     rw [List.getElem?_take,if_pos (by omega),List.getElem?_drop,Nat.mul_one,Nat.add_zero,Array.getElem?_toList] at this
     exact this
   · rw [List.getElem?_map,List.getElem?_eq_getElem (by omega),e2];rfl
 simp only [Prod.mk.injEq] at hx1
 have hl:xs.map (·.1)=[.lit (.int .u8 0),.lit (.int .u8 35),.lit (.int .u8 38),.lit (.int .u8 29),.lit (.int .u8 7),.lit (.int .u8 7),.lit (.int .u8 15),.lit (.int .u8 32),.lit (.int .u8 92)]:=by
   have:=hx1.1
   simp only [Rows.laid_seisin_check_needs,DataW.agg.injEq] at this
   exact this.symm
 rw [hl] at key
 have fin:∀ i:UInt8,i < 9→∀ n:Int,(([.lit (.int .u8 0),.lit (.int .u8 35),.lit (.int .u8 38),.lit (.int .u8 29),.lit (.int .u8 7),.lit (.int .u8 7),.lit (.int .u8 15),.lit (.int .u8 32),.lit (.int .u8 92)]:List (DataW Unit))[i.toNat]? = some (.lit (.int .u8 n)))→Value.int .u8 n=b8 (needOf i):=by
   intro i hi n hn
   have h9:i.toNat < 9:=UInt8.lt_iff_toNat_lt.1 hi
   have hi2:i=UInt8.ofNat i.toNat:=by simp
   generalize i.toNat=k at h9 hn hi2
   subst hi2
   match k,h9 with
   | 0,_=>simp at hn;subst hn;rfl
   | 1,_=>simp at hn;subst hn;rfl
   | 2,_=>simp at hn;subst hn;rfl
   | 3,_=>simp at hn;subst hn;rfl
   | 4,_=>simp at hn;subst hn;rfl
   | 5,_=>simp at hn;subst hn;rfl
   | 6,_=>simp at hn;subst hn;rfl
   | 7,_=>simp at hn;subst hn;rfl
   | 8,_=>simp at hn;subst hn;rfl
   | k+9,h=>omega
 intro i hi
 obtain ⟨n,h1,h2⟩:=key i.toNat (UInt8.lt_iff_toNat_lt.1 hi)
 rw [World.var?_cell hg0 hv0,h1,fin i hi n h2]
section
variable {H:Type} {enc:TypeId × Value→H} {W:World} {v:Value} {d:DataW H} {p:List MemPlace}
theorem a_bytes (hv:Value.okWide Tryz.prog W .any 0 23 v) (h:DataW.Trod enc Tryz.prog W 0 (fun _=>true) true 23 v d p):∃ A C,∃ l:List UInt8,v = .slice A l.length C∧RowsAt W A 1 (l.map fun x=>[b8 x])∧l.length≤C∧l.length≤9223372036854775807∧(A=none→C=0):=by
 obtain ⟨a,len,cap,rfl⟩:=okWide_slice underlying23 hv
 obtain ⟨fuel,hf⟩:=h
 obtain ⟨A,C,l,h1,h2,h3,h4,h5⟩:=o_bytes hf
 unfold maxLen at h4
 exact ⟨A,C,l,by simpa [Value.cells] using h1,h2,h3,by omega,h5⟩
theorem a_u8 (hv:Value.okWide Tryz.prog W .any 0 5 v) (h:DataW.Trod enc Tryz.prog W 0 (fun _=>true) true 5 v d p):∃ u:UInt8,v=b8 u:=by
 obtain ⟨n,rfl⟩:=okWide_int underlying5 hv
 obtain ⟨fuel,hf⟩:=h
 obtain ⟨u,h1⟩:=o_u8 underlying5 hf
 exact ⟨u,by simpa [Value.cells] using h1⟩
end
-- OpY
open Go.ChangeShapes Go.WideShapes Go.ChangeAt Go.RowKit Go.Deep
set_option maxRecDepth 100000
mutual
def wideC:Cnd→Nat
 | .mk _ _ _ _ l=>max l.length (wideL l)
def wideL:List Cnd→Nat
 | []=>0
 | c :: r=>max (wideC c) (wideL r)
end
theorem wideL_le {n:Nat}:∀ {l:List Cnd},wideL l≤n ↔ ∀ c ∈ l,wideC c≤n
 | []=>by simp [wideL]
 | c :: l=>by
   simp only [wideL,Nat.max_le,List.mem_cons,forall_eq_or_imp]
   rw [wideL_le (l:=l)]
theorem wAll_mem {H:Type} {P:Program} {e:TypeId} {d:DataW H} {n:Nat} (hn:n ∈ d.weights P e):∀ {l:List (DataW H)},d ∈ l→n ∈ DataW.weightsAll P e l
 | [],h=>by cases h
 | x :: r,h=>by
   rw [DataW.weightsAll]
   cases List.mem_cons.1 h with
   | inl e=>subst e;exact List.mem_append_left _ hn
   | inr e=>exact List.mem_append_right _ (wAll_mem hn e)
section
variable {H:Type} {enc:TypeId × Value→H} {P:Program} {w:World} {spare:Nat→Bool} {held:Bool} {fuel:Nat} {t:TypeId} {cs:List Value} {x:DataW H × List MemPlace}
theorem o_sliceW {e:TypeId} (ht:P.underlying t=some (.slice e)) (hpos:0 < P.cellsOf e) (h:DataW.trod enc P w 0 spare held fuel t cs=some x) {B:Nat} (hW:∀ n ∈ x.1.weights P t,n≤B) :
   ∃ A len cap,cs=[.slice A len cap]∧len≤cap∧cap≤maxLen∧(A=none→len=0∧cap=0)∧len * P.bytesOf e≤B ∧
     ∃ m,fuel=m+1∧∀ i,i < len→∃ b off cs' y,A=some ⟨b,off,none⟩∧b < w.heap.size∧cs'.length=P.cellsOf e∧w.rangeAt b (off+i * P.cellsOf e) cs'∧DataW.trod enc P w 0 spare held m e cs'=some y∧∀ n ∈ y.1.weights P e,n≤B:=by
 obtain ⟨A,len,cap,rfl,hl,hc,hA,m,hm,hi⟩:=o_slice ht hpos h
 refine ⟨A,len,cap,rfl,hl,hc,hA,?_,m,hm,fun i hil=>?_⟩
 · rcases DataW.trod_slice ht h with ⟨h1,_⟩ | ⟨a,len',cap',elems,rest,n,hn,h1,hx,_,_,_,hlen,hel,_,_⟩
   · cases h1;omega
   · cases h1
     have hb:=hW ((elems.length+rest.length) * P.bytesOf e) (by rw [hx];simp [DataW.weights,ht])
     rw [← hlen]
     exact Nat.le_trans (Nat.mul_le_mul_right _ (Nat.le_add_right _ _)) hb
 rcases DataW.trod_slice ht h with ⟨h1,_⟩ | ⟨a,len',cap',elems,rest,n,hn,h1,hx,_,_,_,hlen,hel,_,_⟩
 · cases h1;omega
 · cases h1
   obtain ⟨b,off,cs',y,e1,e2,e3,e4,e5⟩:=hi i hil
   have he:=hel i hil
   rw [List.getElem?_eq_getElem (by omega)] at he
   obtain ⟨cs2,hc2,ht2⟩:=Option.bind_eq_some_iff.1 he
   obtain rfl:m=n:=by omega
   have hcs:cs2=cs':=by
     obtain ⟨_,hcl,hat⟩:=World.cells?_some hc2
     refine List.ext_getElem? fun k=>?_
     rcases Nat.lt_or_ge k (P.cellsOf e) with hk | hk
     · have h2:=hat k hk
       cases e1
       rw [Addr.add_mid,Addr.add_mid] at h2;rw [← h2];rw [e4 k _ (List.getElem?_eq_getElem (by omega))]
       exact (List.getElem?_eq_getElem (by omega)).symm
     · rw [List.getElem?_eq_none (by omega),List.getElem?_eq_none (by omega)]
   subst hcs
   refine ⟨b,off,cs2,y,e1,e2,e3,e4,e5,?_⟩
   rw [e5] at ht2
   have hy:y=elems[i]'(by omega):=Option.some.inj ht2
   intro q hq
   refine hW q ?_;rw [hx]
   simp only [DataW.weights,ht]
   refine List.mem_cons_of_mem _ (List.mem_append_left _ (wAll_mem hq ?_));rw [hy]
   exact List.mem_map.2 ⟨_,List.getElem_mem (by omega:i < elems.length),rfl⟩
end
theorem bCond:Tryz.prog.bytesOf 27=32:=by kernel_rfl
section
variable {H:Type} {enc:TypeId × Value→H} {w:World} {spare:Nat→Bool} {held:Bool} {fuel:Nat} {cs:List Value} {x:DataW H × List MemPlace}
theorem o_condY:∀ (fuel:Nat) {cs:List Value} {x:DataW H × List MemPlace},DataW.trod enc Tryz.prog w 0 spare held fuel 27 cs=some x→(∀ n ∈ x.1.weights Tryz.prog 27,n≤reachBytes)→∃ c:Cnd,CondAt w fuel cs c∧wideC c≤4398046510976:=by
 intro fuel
 induction fuel using Nat.strongRecOn with
 | ind fuel ih=>
   intro cs x h hW
   obtain ⟨xs,m,rfl,hx,hl,hxl,hf0⟩:=DataW.trod_struct Tryz.underlying27 h
   have hf:∀ (i:Nat) (f:Field),(_:Array Field)[i]? = some f→∃ y,DataW.trod enc Tryz.prog w 0 spare held m f.type ((cs.drop f.offset).take (Tryz.prog.cellsOf f.type))=some y:=fun i f hi=>⟨_,(hf0 i f hi).trans (List.getElem?_eq_getElem (by rw [hxl];exact (Array.getElem?_eq_some_iff.1 hi).1))⟩
   rw [cCond] at hl
   obtain ⟨a0,a1,a2,a3,a4,rfl⟩:=len5' hl
   have key:∀ o,DataW.trod enc Tryz.prog w 0 spare held m 5 (([a0,a1,a2,a3,a4].drop o).take (Tryz.prog.cellsOf 5)) ≠ none→∃ u:UInt8,([a0,a1,a2,a3,a4].drop o).take 1=[b8 u]:=by
     intro o ho
     obtain ⟨y,hy⟩:=Option.ne_none_iff_exists'.1 ho
     rw [cU8] at hy
     exact o_u8 Tryz.underlying5 hy
   have nn:∀ {z:Option (DataW H × List MemPlace)},(∃ y,z=some y)→z ≠ none:=fun ⟨y,hy⟩=>by rw [hy];exact fun h=>by cases h
   obtain ⟨u0,e0⟩:=key 0 (nn (hf 0 _ rfl))
   obtain ⟨u1,e1⟩:=key 1 (nn (hf 1 _ rfl))
   obtain ⟨u2,e2⟩:=key 2 (nn (hf 2 _ rfl))
   obtain ⟨u3,e3⟩:=key 3 (nn (hf 3 _ rfl))
   obtain ⟨y4,h4⟩:=hf 4 _ rfl
   have hy4:xs[4]? = some y4:=(hf0 4 _ rfl).symm.trans h4
   have hW4:∀ n ∈ y4.1.weights Tryz.prog 25,n≤reachBytes:=fun n hn=>hW n (by
     rw [hx]
     simp only [DataW.weights,Tryz.underlying27]
     exact DataW.weights_mem_each (j:=4) (t:=25) (d:=y4.1) rfl (by rw [List.getElem?_map,hy4];rfl) n hn)
   replace h4:DataW.trod enc Tryz.prog w 0 spare held m 25 (([a0,a1,a2,a3,a4].drop 4).take (Tryz.prog.cellsOf 25))=_:=h4
   rw [cConds] at h4
   obtain ⟨A,len,cap,e4,hle,hc,hA,hlb,m2,rfl,hi⟩:=o_sliceW Tryz.underlying25 (by rw [cCond];omega) h4 hW4
   rw [bCond] at hlb
   unfold reachBytes at hlb
   rw [cCond] at hi
   simp only [List.drop,List.take,List.cons.injEq,and_true] at e0 e1 e2 e3 e4
   subst e0 e1 e2 e3 e4
   obtain ⟨T,hT⟩:=choose_lt (p:=fun i (c:Cnd)=>∃ b off cs',A=some ⟨b,off,none⟩∧w.rangeAt b (off+i * 5) cs'∧CondAt w (m2+1) cs' c∧wideC c≤4398046510976) (fun i him=>by
     obtain ⟨b,off,cs',y,h1,_,_,h2,h3,h6⟩:=hi i him
     obtain ⟨c,hcc,hcd⟩:=ih m2 (by omega) h3 h6
     exact ⟨c,b,off,cs',h1,h2,hcc.mono (by omega),by omega⟩)
   refine ⟨.mk u0 u1 u2 u3 ((List.range len).map T),⟨A,cap,by simp,by rw [List.length_map,List.length_range];unfold maxLen at hc;omega,fun j kid hj=>?_⟩,?_⟩
   · rw [List.getElem?_map] at hj
     obtain ⟨q,hq,rfl⟩:=Option.map_eq_some_iff.1 hj
     obtain ⟨hjl,rfl⟩:=List.getElem?_eq_some_iff.1 hq
     rw [List.length_range] at hjl;rw [List.getElem_range]
     obtain ⟨b,off,cs',h1,h2,h3,_⟩:=hT j hjl
     exact ⟨b,off,cs',h1,h2,h3⟩
   · have h1:wideL ((List.range len).map T)≤4398046510976:=wideL_le.2 fun c hc=>by
       obtain ⟨i,hi2,rfl⟩:=List.mem_map.1 hc
       obtain ⟨_,_,_,_,_,_,h⟩:=hT i (List.mem_range.1 hi2)
       exact h
     rw [wideC,List.length_map,List.length_range]
     omega
theorem o_progY (h:DataW.trod enc Tryz.prog w 0 spare held fuel 29 cs=some x) (hW:∀ n ∈ x.1.weights Tryz.prog 29,n≤reachBytes):∃ p:Prg,ProgAt w cs p∧wideC p.cond≤4398046510976:=by
 obtain ⟨xs,m,_,hx,hl,hxl,hf0⟩:=DataW.trod_struct Tryz.underlying29 h
 have hf:∀ (i:Nat) (f:Field),(_:Array Field)[i]? = some f→∃ y,DataW.trod enc Tryz.prog w 0 spare held m f.type ((cs.drop f.offset).take (Tryz.prog.cellsOf f.type))=some y:=fun i f hi=>⟨_,(hf0 i f hi).trans (List.getElem?_eq_getElem (by rw [hxl];exact (Array.getElem?_eq_some_iff.1 hi).1))⟩
 rw [cProg] at hl
 obtain ⟨a0,a1,a2,a3,a4,a5,a6,a7,a8,a9,rfl⟩:=len10' hl
 obtain ⟨y0,h0⟩:=hf 0 _ rfl
 obtain ⟨y1,h1⟩:=hf 1 _ rfl
 obtain ⟨y2,h2⟩:=hf 2 _ rfl
 obtain ⟨y3,h3⟩:=hf 3 _ rfl
 obtain ⟨y4,h4⟩:=hf 4 _ rfl
 obtain ⟨y5,h5⟩:=hf 5 _ rfl
 have hy5:xs[5]? = some y5:=(hf0 5 _ rfl).symm.trans h5
 have hW5:∀ n ∈ y5.1.weights Tryz.prog 27,n≤reachBytes:=fun n hn=>hW n (by
   rw [hx]
   simp only [DataW.weights,Tryz.underlying29]
   exact DataW.weights_mem_each (j:=5) (t:=27) (d:=y5.1) rfl (by rw [List.getElem?_map,hy5];rfl) n hn)
 replace h0:DataW.trod enc Tryz.prog w 0 spare held m 9 (([a0,a1,a2,a3,a4,a5,a6,a7,a8,a9].drop 0).take (Tryz.prog.cellsOf 9))=_:=h0
 replace h1:DataW.trod enc Tryz.prog w 0 spare held m 22 (([a0,a1,a2,a3,a4,a5,a6,a7,a8,a9].drop 1).take (Tryz.prog.cellsOf 22))=_:=h1
 replace h2:DataW.trod enc Tryz.prog w 0 spare held m 23 (([a0,a1,a2,a3,a4,a5,a6,a7,a8,a9].drop 2).take (Tryz.prog.cellsOf 23))=_:=h2
 replace h3:DataW.trod enc Tryz.prog w 0 spare held m 24 (([a0,a1,a2,a3,a4,a5,a6,a7,a8,a9].drop 3).take (Tryz.prog.cellsOf 24))=_:=h3
 replace h4:DataW.trod enc Tryz.prog w 0 spare held m 5 (([a0,a1,a2,a3,a4,a5,a6,a7,a8,a9].drop 4).take (Tryz.prog.cellsOf 5))=_:=h4
 replace h5:DataW.trod enc Tryz.prog w 0 spare held m 27 (([a0,a1,a2,a3,a4,a5,a6,a7,a8,a9].drop 5).take (Tryz.prog.cellsOf 27))=_:=h5
 rw [cStr] at h0;rw [cStrs] at h1;rw [cU8s] at h2;rw [cInsess] at h3;rw [cU8] at h4;rw [cCond] at h5
 obtain ⟨s,e0,hs⟩:=o_str Tryz.underlying9 h0
 obtain ⟨LA,LC,locs,e1,l1,l2,l3,l4,_⟩:=o_strs h1
 obtain ⟨IA,IC,init,e2,i1,i2,i3,_⟩:=o_bytes h2
 obtain ⟨TA,TC,threads,e3,t1,t2,t3,_⟩:=o_threads h3
 obtain ⟨ask,e4⟩:=o_u8 Tryz.underlying5 h4
 obtain ⟨c,hc,hcd⟩:=o_condY m h5 hW5
 simp only [List.drop,List.take,List.cons.injEq,and_true] at e0 e1 e2 e3 e4 hc
 subst e0 e1 e2 e3 e4
 unfold maxLen at l4 i3 t3
 refine ⟨⟨s,locs,init,threads,ask,c⟩,⟨LA,LC,IA,IC,TA,TC,m,[a5,a6,a7,a8,a9],rfl,hs,l1,(by show locs.length≤_;omega),l3,l2,i1,(by show init.length≤_;omega),t1,(by show threads.length≤_;omega),hc⟩,?_⟩
 · exact hcd
end
section
variable {H:Type} {enc:TypeId × Value→H} {W:World} {v:Value} {d:DataW H} {p:List MemPlace}
theorem a_progY (hv:Value.okWide Tryz.prog W .any 0 29 v) (h:DataW.Trod enc Tryz.prog W 0 (fun _=>true) true 29 v d p) (hW:∀ n ∈ d.weights Tryz.prog 29,n≤reachBytes):∃ cs q,v = .agg cs.toArray∧ProgAt W cs q∧wideC q.cond≤4398046510976:=by
 obtain ⟨cs,rfl,_⟩:=okWide_struct Tryz.underlying29 hv
 obtain ⟨fuel,hf⟩:=h
 obtain ⟨q,hq,hb⟩:=o_progY hf hW
 exact ⟨cs.toList,q,by simp,hq,hb⟩
end
-- RtW
open Go.RowKit
set_option maxRecDepth 100000
theorem ins_perm {n q:Nat} {T:List Int} (h:IsPerm n T) (hq:q≤n):IsPerm (n+1) (T.take q++((n:Int) :: T.drop q)):=by
 have hn:=h.nod
 have hl:=h.len
 rw [← List.take_append_drop q T,List.nodup_append] at hn
 obtain ⟨h1,h2,h3⟩:=hn
 have hm:∀ x,x ∈ T.take q∨x ∈ T.drop q→0≤x∧x < (n:Int):=fun x hx=>h.rng x (hx.elim List.mem_of_mem_take List.mem_of_mem_drop)
 refine ⟨by rw [List.length_append,List.length_cons,List.length_take,List.length_drop];omega,fun x hx=>?_,?_⟩
 · rcases List.mem_append.1 hx with h4 | h4
   · have:=hm x (.inl h4);omega
   · rcases List.mem_cons.1 h4 with h5 | h5
     · omega
     · have:=hm x (.inr h5);omega
 · rw [List.nodup_append]
   refine ⟨h1,List.nodup_cons.2 ⟨fun h4=>?_,h2⟩,fun a ha b hb=>?_⟩
   · have:=hm _ (.inr h4);omega
   · rcases List.mem_cons.1 hb with h5 | h5
     · have:=hm a (.inl ha)
       omega
     · exact h3 a ha b h5
def rowsZ (T:List Int):List (List Value):=T.map fun n=>[.int .i64 n]
theorem rowsZ_len (T:List Int):(rowsZ T).length=T.length:=List.length_map _
theorem rowsZ_one {T:List Int}:∀ r ∈ rowsZ T,r.length=1:=fun r hr=>by obtain ⟨x,_,rfl⟩:=List.mem_map.1 hr;rfl
theorem rowsZ_cell {T:List Int}:∀ r ∈ rowsZ T,r.all (·.oneCell')=true:=fun r hr=>by obtain ⟨x,_,rfl⟩:=List.mem_map.1 hr;rfl
theorem rowsZ_ins (T:List Int) (q n:Nat):(rowsZ T).take q++(([[.int .i64 (n:Int)]]:List (List Value))++(rowsZ T).drop q)=rowsZ (T.take q++((n:Int) :: T.drop q)):=by
 unfold rowsZ
 rw [List.map_append,List.map_cons,List.map_take,List.map_drop];rfl
theorem rowsZ_mix {T:List Int} {k q:Nat} (r:List Value) (hr:r ∈ ([[.int .i64 ((k:Nat):Int)]]:List (List Value))++(rowsZ T).drop q):r.length=1∧r.all (·.oneCell')=true:=by
 rcases List.mem_append.1 hr with h | h
 · rw [List.mem_singleton.1 h];exact ⟨rfl,rfl⟩
 · exact ⟨rowsZ_one r (List.mem_of_mem_drop h),rowsZ_cell r (List.mem_of_mem_drop h)⟩
set_option maxHeartbeats 2000000 in
theorem turns_any (n:Nat) (A:Option Addr) (C:Nat) (l:List UInt8) (w0:World) (hn:n≤1000) (hB:BytesAt w0 A l) (hl:l.length≤9223372036854775807) :
   Calls Tryz.prog 33 #[.int .i64 (n:Int),.slice A l.length C] w0 fun e w'=>∃ A2 c2 T,e = .returned (.slice A2 n c2)∧IsPerm n T∧Own w0 none w' [.win 3 1 (.slice A2 n c2) (rowsZ T)]:=by
 have H:=Own.start w0 none
 refine enterF Tryz.func33 rfl Tryz.ntmps33 rfl (fun a F=>?_);refine cSR fun K1 hK1=>sAs F rfl rfl rfl (qNK hK1 (qSR fun K2 hK2=>qAs rfl rfl rfl ?_));clear hK1;clear F a;intro a F
 replace H:=H.nilWin 3 1
 refine nK hK2 ?_;clear hK2;refine cSeq (fun K3 hK3=>?_);refine cSR fun K4 hK4=>sMv F rfl rfl rfl (qMv rfl rfl rfl (qNK hK4 ?_));clear hK4;clear F a;intro a F;refine wp_block ?_
 refine cLoopR [1,8] (fun m ups w=>∃ (k:Nat) (A5:Option Addr) (c5:Nat) (T:List Int),m=n - k∧ups=[(5,.slice A5 k c5),(9,.int .i64 ((k:Nat):Int))]∧k≤n∧IsPerm k T∧Own w0 none w [.win 3 1 (.slice A5 k c5) (rowsZ T)]) F (n) [(5,.slice none 0 0),(9,.int .i64 ((0:Nat):Int))] (by repeat (first | exact SubR.nil | (apply SubR.cons;· rfl))) ?_ ?_ ?_
 · exact ⟨0,none,0,[],rfl,rfl,Nat.zero_le _,⟨rfl,by simp,List.nodup_nil⟩,H.sel [0] rfl rfl⟩
 · repeat (first | exact trivial | refine Le.cons rfl ?_)
 clear F
 clear H
 intro m ups a w hI F
 obtain ⟨k,A5,c5,T,rfl,rfl,hk,hT,H⟩:=hI
 refine cSR fun K5 hK5=>sBin F rfl rfl rfl rfl bLss (qNK hK5 ?_);clear hK5;clear F a;intro a F;refine cSeq (fun K6 hK6=>?_)
 refine cIf F rfl (fun h10=>?_) (fun h10=>?_)
 ·
  replace h10:=of_decide_eq_true h10
  have hkn:k < n:=by omega
  have hTl:=hT.len
  refine wp_skip (hK6 _ _ ?_);clear hK6;refine cSeq (fun K7 hK7=>?_);refine wp_block ?_;refine cSR fun K8 hK8=>sMv F rfl rfl rfl (qAs rfl rfl rfl (qNK hK8 (qSR fun K9 hK9=>qAs rfl rfl rfl (qNK hK9 ?_))));clear hK8 hK9;clear F a;intro a F
  refine cSeqJ [1,5,6,8,9] (fun ups w=>∃ (q:Nat),ups=[(7,.int .i64 ((q:Nat):Int))]∧q≤k∧Own w0 none w [.win 3 1 (.slice A5 k c5) (rowsZ T)]) F (by repeat (first | exact SubR.nil | (apply SubR.cons;· rfl))) ?_ ?_
  ·
   refine cSR fun K10 hK10=>sMv F rfl rfl rfl (qLen Tryz.underlying23 rfl rfl rfl (qBin rfl rfl rfl rfl bGtr (qNK hK10 ?_)));clear hK10;clear F a;intro a F
   refine cIf F rfl (fun h14=>?_) (fun h14=>?_)
   ·
    replace h14:=of_decide_eq_true h14
    have hpos:0 < l.length:=by omega
    have hmod:k % l.length < l.length:=Nat.mod_lt _ hpos
    obtain ⟨x,hx⟩:∃ x,l[k % l.length]? = some x:=⟨_,List.getElem?_eq_getElem hmod⟩
    obtain ⟨bA,oA,rfl,hAx⟩:=hB _ [Go.Proofs.YtbgnapmaimkpkaaGreatDoor.b8 x] (by rw [List.getElem?_map,hx];rfl)
    refine cReg (sMv F rfl rfl rfl (qMv rfl rfl rfl (qMv rfl rfl rfl (qLen Tryz.underlying23 rfl rfl rfl ?_))));clear F a;intro a F
    refine sBin F rfl rfl rfl rfl (bRemN ?_) ?_
    focus omega
    clear F a;intro a F
    refine sIx Tryz.underlying23 Tryz.sizeOf5 F rfl rfl rfl rfl ?_ ?_
    focus omega
    clear F a;intro a F;refine sLd Tryz.isAgg5 F rfl rfl rfl (by have:=H.arg (hAx 0 _ rfl);simpa using this) (qCv Tryz.underlying5 Tryz.underlying3 rfl rfl rfl (wrapB _) (qMv rfl rfl rfl ?_));clear F a;intro a F
    refine sBin F rfl rfl rfl rfl (bAddN (j:=1) ?_) ?_
    focus omega
    clear F a;intro a F
    refine sBin F rfl rfl rfl rfl (bRemN ?_) ?_
    focus omega
    clear F a;intro a F;refine sAs F rfl rfl rfl ?_;clear F a;intro a F;refine sNil ?_
    first
    | exact ⟨_,⟨x.toNat % (k+1),rfl,Nat.le_of_lt_succ (Nat.mod_lt x.toNat (Nat.succ_pos k)),H.sel [0] rfl rfl⟩,F.to (by repeat (first | exact trivial | refine Le.cons rfl ?_))⟩
    | exact ⟨_,⟨0,rfl,Nat.zero_le _,H.sel [0] rfl rfl⟩,F.to (by repeat (first | exact trivial | refine Le.cons rfl ?_))⟩
   replace h14:=of_decide_eq_false h14;refine wp_skip ?_
   first
   | exact ⟨_,⟨x.toNat % (k+1),rfl,Nat.le_of_lt_succ (Nat.mod_lt x.toNat (Nat.succ_pos k)),H.sel [0] rfl rfl⟩,F.to (by repeat (first | exact trivial | refine Le.cons rfl ?_))⟩
   | exact ⟨_,⟨0,rfl,Nat.zero_le _,H.sel [0] rfl rfl⟩,F.to (by repeat (first | exact trivial | refine Le.cons rfl ?_))⟩
  clear F H
  intro ups a w hI F
  obtain ⟨q,rfl,hq,H⟩:=hI
  have hw5:=(H.winAt 0 rfl).len
  refine cRegRO (by kernel_rfl) H ?_;replace H:=H.drew;refine eTF 0 rfl (by kernel_rfl) F rfl rfl rfl (fun w=>rMv F rfl) H qq0 (qTF 1 rfl (by kernel_rfl) rfl rfl rfl (fun a F w=>rMv F rfl) H qq0 (qTF 2 rfl (by kernel_rfl) rfl rfl rfl (fun a F w=>rMv F rfl) H qq0 ?_));clear F a;intro a F
  refine eTake (k:=3) (i:=3) rfl (by kernel_rfl) F rfl rfl rfl rfl (fun w H=>rSlHM Tryz.underlying83 Tryz.sizeOf3 F rfl rfl rfl ?_ ?_) H (fun _ _ _ h=>h) ?_
  focus (first | exact Nat.le_refl _ | omega)
  focus (first | exact Nat.le_refl _ | omega)
  clear F a;intro a F;refine eTF 4 rfl (by kernel_rfl) F rfl rfl rfl (fun w=>rMv F rfl) H qq0 (qTF 6 rfl (by kernel_rfl) rfl rfl rfl (fun a F w=>rMv F rfl) H qq0 (qTF 7 rfl (by kernel_rfl) rfl rfl rfl (fun a F w=>rMv F rfl) H qq0 ?_));clear F a;intro a F
  refine eTake (k:=7) (i:=8) rfl (by kernel_rfl) F rfl rfl rfl rfl (fun w H=>rSlF Tryz.underlying83 Tryz.sizeOf3 F rfl rfl ?_) H (fun _ _ _ h=>h) ?_
  focus (exact hq)
  clear F a;intro a F;refine eOne (k:=8) (i:=5) rfl (by kernel_rfl) F rfl (oBs1 H Tryz.underlying83 Tryz.sizeOf3 Tryz.zeroValue3 rfl F rfl rfl rfl ?_);clear F a H;intro b31 a w F H;refine eKeep H.tail ?_
  replace H:=H.blkRws 0 (n:=1) (sz:=1) [[Value.int .i64 ((k:Nat):Int)]] rfl rfl rfl rfl (by decide)
  refine eOne (k:=9) (i:=9) rfl (by kernel_rfl) F rfl (oAppO (bytes:=8) (sz:=1) H 0 Tryz.underlying83 Tryz.typeInfo3 rfl rfl rfl rfl rfl rfl F rfl rfl rfl rfl ?hm (((H.winAt 1 rfl).from hq).at) ((fun r hr=>rowsZ_one r (List.mem_of_mem_drop hr))) ((fun r hr=>rowsZ_cell r (List.mem_of_mem_drop hr))) ?hb ?_)
  case hm=>first | rfl | (simp;done) | omega | (simp only [List.length_take,List.length_map];omega) | (simp;omega)
  case hb=>exact ((by simp only [List.length_cons,List.length_nil];omega))
  clear F a H;intro A35 c35 a w F H;refine eKeep H.tail ?_
  obtain ⟨bI,rfl⟩:∃ b,A35=some ⟨b,0,none⟩:=by
   rcases (H.pred 0 _ rfl).2 with ⟨_,h2⟩ | ⟨g,cap,cur,h1,_⟩
   · simp at h2
   · cases h1;exact ⟨_,rfl⟩
  have hin:=(H.pred 0 _ rfl).cells (g:=bI) rfl
  replace H:=H.reseen 1 rfl (.win 3 1 (.slice A5 q q) ((rowsZ T).take q)) ((H.winAt 1 rfl).upto hq (Nat.le_refl _) (by omega)) (fun b hb=>by cases A5 <;> exact hb)
  refine eOne (k:=10) (i:=10) rfl (by kernel_rfl) F rfl (oWin (bytes:=8) (sz:=1) (news:=([[.int .i64 ((k:Nat):Int)]]++(rowsZ T).drop q)) H 1 Tryz.underlying83 Tryz.typeInfo3 rfl rfl rfl rfl rfl rfl F rfl rfl rfl rfl (by first | rfl | (simp;done) | (simp;omega)) (hin) ((fun r hr=>(rowsZ_mix r hr).1)) ((fun r hr=>(rowsZ_mix r hr).2)) ((by simp only [List.length_append,List.length_cons,List.length_nil,List.length_take,List.length_drop,rowsZ_len];omega)) ?_);clear F a H;intro A36 c36 a w F H;refine ePartO (by kernel_rfl) H ?_;refine eTF 11 rfl (by kernel_rfl) F rfl rfl rfl (fun w=>rAs F rfl) H qq0 ?_;clear F a;intro a F;refine eNil (k:=12) (by kernel_rfl) ?_;refine hK7 _ _ (cReg ?_);clear hK7
  refine sBin F rfl rfl rfl rfl (bAddN (j:=1) ?_) ?_
  focus omega
  clear F a;intro a F;refine sMv F rfl rfl rfl ?_;clear F a;intro a F;refine sNil ?_
  (rw [rowsZ_ins] at H F
   have hP:=ins_perm hT hq
   have e1:(rowsZ (T.take q++((k:Int) :: T.drop q))).length=k+1:=by rw [rowsZ_len];exact hP.len
   rw [e1] at H F
   exact ⟨_,by omega,_,⟨k+1,_,_,_,rfl,rfl,by omega,hP,H.sel [1] rfl rfl⟩,F.to (by repeat (first | exact trivial | refine Le.cons rfl ?_))⟩)
 replace h10:=of_decide_eq_false h10;refine wp_exit ?_;refine hK3 _ _ (cSR fun K11 hK11=>sMv F rfl rfl rfl (qAs rfl rfl rfl (qNK hK11 ?_)));clear hK3 hK11;clear F a;intro a F;refine wp_ret ?_;refine bRet Tryz.results33 F rfl ?_
 have hkn:k=n:=by omega
 subst hkn
 exact ⟨_,_,_,rfl,hT,H.pick 0 rfl⟩
theorem slim_wideT {n:Nat} (hn:n≤4398046510976):∀ (h:Nat) (c:Cnd),wideC c≤n→Slim h c
 | 0,_,_=>trivial
 | h+1,.mk _ _ _ _ kids,hw=>by
   simp only [wideC,Nat.max_le] at hw
   exact ⟨by omega,fun kid hk=>slim_wideT hn h kid (wideL_le.1 hw.2 kid hk)⟩
-- RtX
open Go.Proofs.Tryz
open Go.RowKit
set_option maxRecDepth 100000
set_option maxHeartbeats 4000000 in
theorem runsTurned_any (cs:List Value) (p:Prg) (w0:World) (hP:ProgAt w0 cs p) (hw:wideC p.cond≤4398046510976) (hN:NeedsAt w0) (u:UInt8) (PA:Option Addr) (PC:Nat) (la:List UInt8) (hA:BytesAt w0 PA la) (hAl:la.length≤9223372036854775807) (QA:Option Addr) (QC:Nat) (lb:List UInt8) (hB:BytesAt w0 QA lb) (hBl:lb.length≤9223372036854775807) :
   Calls Tryz.prog 10 #[.agg cs.toArray,Go.Proofs.YtbgnapmaimkpkaaGreatDoor.b8 u,.slice PA la.length PC,.slice QA lb.length QC] w0 fun e w'=>e = .returned (.bool true)∧Below w0.heap.size w0 w':=by
 have H:=Own.start w0 none
 have hP0:=hP
 obtain ⟨LA,LC,IA,IC,TA,TC,h,ccs,hp⟩:=hP
 obtain ⟨c1,c2,c3,c4,A5,m5,C5,rfl⟩:=condShape hp.cond
 have hcs:=hp.cs
 simp only [List.cons_append,List.nil_append] at hcs
 subst hcs
 have hkm:=known_machine u
 have hk3:(1:UInt8)≤(1+u % 3)∧(1+u % 3)≤3:=by unfold knownM at hkm;simpa using hkm
 refine enterF func10 rfl ntmps10 rfl (fun a F=>?_);refine cSR fun K1 hK1=>?_;refine sBx H F rfl rfl rfl ?_;clear F a H;intro b4 a w F H;refine sAs F rfl rfl rfl (qNK hK1 (qSR fun K2 hK2=>qMv rfl rfl rfl ?_));clear hK1;clear F a;intro a F
 refine sBin F rfl rfl rfl rfl (bRemB (y:=3) ?_) ?_
 focus decide
 clear F a;intro a F;refine sBin F rfl rfl rfl rfl (bAddB (x:=1)) (qAs rfl rfl rfl (qNK hK2 (qSR fun K3 hK3=>?_)));clear hK2;clear F a;intro a F
 refine sLr underlying29 rfl ?si F rfl rfl rfl (H.whole 0 rfl) ?_
 case si=>exact info_size sizeOf29
 clear F a;intro a F;refine sMv F rfl rfl rfl ?_;clear F a;intro a F;refine sCall call12 F rfl rfl rfl (finals15_any _ p _ (hP0.own H) (hN.own H) (1+u % 3) hk3) ?_;rintro e w ⟨A1,k1,l1,q1,rfl,hq1,hf1,H2⟩;replace H:=H.join H2;clear H2;refine ⟨_,rfl,?_⟩;clear F a;intro a F;refine sMv F rfl rfl rfl (qExt rfl rfl rfl rfl (qExt rfl rfl rfl rfl (qExt rfl rfl rfl rfl (qAs rfl rfl rfl (qAs rfl rfl rfl (qAs rfl rfl rfl (qNK hK3 ?_)))))));clear hK3;clear F a;intro a F;refine cSeq (fun K4 hK4=>?_);refine cSR fun K5 hK5=>sMv F rfl rfl rfl (qNot rfl rfl rfl (qNK hK5 ?_));clear hK5;clear F a;intro a F
 refine cIf F rfl (fun h41=>?_) (fun h41=>?_)
 ·
  replace h41:=notT h41;refine cSR fun K6 hK6=>sMv F rfl rfl rfl (qMv rfl rfl rfl ?_);clear F a;intro a F
  refine F.split 43 rfl ?_ ?_ <;> (clear F;intro h43 F)
  ·
   refine sCall call14 F rfl rfl rfl (awake15_any _ (hN.own H)) ?_;rintro e w ⟨rfl,hb⟩;replace H:=H.grow hb;clear hb;refine ⟨_,rfl,?_⟩;clear F a;intro a F;refine sPk F rfl rfl rfl rfl (qAs rfl rfl rfl (qNK hK6 ?_));clear hK6;clear F a;intro a F;refine wp_ret ?_;simp only [Exit.then];refine bRet results10 F rfl ?_
   exact ⟨rfl,H.below⟩
  cases h43
 replace h41:=notF h41
 have hE:statesE p (1+u % 3) 600=0:=hq1.1 h41
 have hv:rightErr p=0:=(most_ok hE).1
 have V:=valid hv
 have h6:=V.locs6
 have h4:=V.thr4
 have hl1:=fin_short hf1
 refine wp_skip (hK4 _ _ ?_);clear hK4;refine cSeq (fun K7 hK7=>?_);refine cRegRO (by kernel_rfl) H ?_;replace H:=H.drew;refine eTF 0 rfl (by kernel_rfl) F rfl rfl rfl (fun w=>rFa (f:=3) (k:=3) underlying29 rfl sizeOf24 rfl rfl F rfl) H qq0 (qT 1 rfl (by kernel_rfl) rfl rfl rfl rfl (fun a F w H=>rLd isAgg24 F rfl (H.cell 1 rfl rfl)) H qq0 (qT 2 rfl (by kernel_rfl) rfl rfl rfl rfl (fun a F w H=>rLen underlying24 F rfl) H qq0 (qTF 3 rfl (by kernel_rfl) rfl rfl rfl (fun a F w=>rMv F rfl) H qq0 (qTF 5 rfl (by kernel_rfl) rfl rfl rfl (fun a F w=>rFa (f:=1) (k:=1) underlying29 rfl sizeOf22 rfl rfl F rfl) H qq0 (qT 6 rfl (by kernel_rfl) rfl rfl rfl rfl (fun a F w H=>rLd isAgg22 F rfl (H.cell 1 rfl rfl)) H qq0 (qT 7 rfl (by kernel_rfl) rfl rfl rfl rfl (fun a F w H=>rLen underlying22 F rfl) H qq0 (qTF 8 rfl (by kernel_rfl) rfl rfl rfl (fun a F w=>rMv F rfl) H qq0 ?_)))))));clear F a;intro a F;refine eOne (k:=8) (i:=4) rfl (by kernel_rfl) F rfl (oCall call33 F rfl rfl (turns_any p.threads.length PA PC la _ (by omega) (RowsAt.own hA H) hAl) ?_);rintro e w ⟨A2,k2,T,rfl,hT,H2⟩;replace H:=H.join H2;clear H2;refine ⟨_,rfl,?_⟩;clear F a;intro a F;refine eKeep H.tail ?_;refine eOne (k:=9) (i:=9) rfl (by kernel_rfl) F rfl (oCall call33 F rfl rfl (turns_any p.locs.length QA QC lb _ (by omega) (RowsAt.own hB H) hBl) ?_);rintro e w ⟨A3,k3,L,rfl,hL,H2⟩;replace H:=H.join H2;clear H2;refine ⟨_,rfl,?_⟩;clear F a;intro a F;refine ePartO (by kernel_rfl) H ?_;refine eTF 10 rfl (by kernel_rfl) F rfl rfl rfl (fun w=>rAs F rfl) H qq0 (qTF 11 rfl (by kernel_rfl) rfl rfl rfl (fun a F w=>rAs F rfl) H qq0 ?_);clear F a;intro a F
 refine eNil (k:=12) (by kernel_rfl) ?_;refine hK7 _ _ (cSR fun K8 hK8=>?_);clear hK7
 refine sLr underlying29 rfl ?si F rfl rfl rfl (H.whole 3 rfl) ?_
 case si=>exact info_size sizeOf29
 clear F a;intro a F;refine sMv F rfl rfl rfl (qMv rfl rfl rfl ?_);clear F a;intro a F;refine sCall call34 F rfl rfl rfl (turn_good _ p LA LC IA IC TA TC h _ A2 k2 T A3 k3 L _ _ _ (hp.own H) (hN.own H) hv (slim_wideT (by decide) h p.cond hw) (H.winAt 1 rfl).at (H.winAt 0 rfl).at hT hL rfl rfl) ?_;rintro e w ⟨v60,rfl,h60⟩
 obtain ⟨LA2,LC2,IA2,IC2,TA2,TC2,rows,S3,ccs2,S4,rfl,hrl,hr1,H2⟩:=h60
 obtain ⟨d1,d2,d3,d4,A6,m6,C6,rfl⟩:=condShape (H2.pred 0 _ rfl:TreeIn S4 _ h ccs2 (turnPr h p T L).cond).at
 replace H:=H.join H2;clear H2
 have hq0:rightErr (turnPr h p T L)=0:=right_turn hv hT hL
 have hzq:Sized (turnPr h p T L):=sized_of hq0 hp.name (locsS_turn hL hp.locsS)
 obtain ⟨hE2,hn2,he2⟩:=turn_same (h:=h) hv hkm hT hL hE
 refine ⟨_,rfl,?_⟩;clear F a;intro a F;refine sMv F rfl rfl rfl (qExt rfl rfl rfl rfl (qExt rfl rfl rfl rfl ?_));clear F a;intro a F;refine sAl H zeroValue29 F rfl rfl ?_;clear F a H;intro b15 a w F H
 refine sSr H 0 ?si F rfl rfl rfl ?s1 rfl rfl ?_
 case si=>exact info_size sizeOf29
 case s1=>first | rfl | (repeat (first | exact one_nil | (apply one_cons;· first | rfl | assumption | exact one_bif rfl rfl)))
 clear H;intro w H;refine sAs F rfl rfl rfl (qNK hK8 ?_);clear hK8;clear F a;intro a F;refine cSeq (fun K9 hK9=>?_);refine cSR fun K10 hK10=>sMv F rfl rfl rfl (qBin rfl rfl rfl rfl bNeq (qNK hK10 ?_));clear hK10;clear F a;intro a F
 refine cIf F rfl (fun h64=>?_) (fun h64=>?_)
 ·
  replace h64:=bneT h64
  exact absurd rfl h64
 replace h64:=bneF h64;refine wp_skip (hK9 _ _ (cSR fun K11 hK11=>?_));clear hK9
 refine sLr underlying29 rfl ?si F rfl rfl rfl (H.whole 9 rfl) ?_
 case si=>exact info_size sizeOf29
 clear F a;intro a F;refine sMv F rfl rfl rfl ?_;clear F a;intro a F;refine sCall call20 F rfl rfl rfl (count_any _ p _ (hP0.own H) (hN.own H) (1+u % 3) 600 (by decide) (by decide)) ?_;rintro e w ⟨rfl,hb⟩;replace H:=H.grow hb;clear hb;refine ⟨_,rfl,?_⟩;clear F a;intro a F;refine sMv F rfl rfl rfl (qExt rfl rfl rfl rfl (qExt rfl rfl rfl rfl (qExt rfl rfl rfl rfl (qAs rfl rfl rfl (qAs rfl rfl rfl (qAs rfl rfl rfl (qNK hK11 (qSR fun K12 hK12=>?_))))))));clear hK11;clear F a;intro a F
 refine sLr underlying29 rfl ?si F rfl rfl rfl (H.whole 0 rfl) ?_
 case si=>exact info_size sizeOf29
 clear F a;intro a F;refine sMv F rfl rfl rfl ?_;clear F a;intro a F;refine sCall call20 F rfl rfl rfl (count_any _ (turnPr h p T L) _ ⟨_,_,_,_,_,_,_,_,outIn (H.sel [1,2,3,4,5] rfl rfl) hrl hr1 hzq⟩ (hN.own H) (1+u % 3) 600 (by decide) (by decide)) ?_;rintro e w ⟨rfl,hb⟩;replace H:=H.grow hb;clear hb;refine ⟨_,rfl,?_⟩;clear F a;intro a F;refine sMv F rfl rfl rfl (qExt rfl rfl rfl rfl (qExt rfl rfl rfl rfl (qExt rfl rfl rfl rfl (qAs rfl rfl rfl (qAs rfl rfl rfl (qAs rfl rfl rfl (qNK hK12 (qSR fun K13 hK13=>?_))))))));clear hK12;clear F a;intro a F
 refine sLr underlying29 rfl ?si F rfl rfl rfl (H.whole 0 rfl) ?_
 case si=>exact info_size sizeOf29
 clear F a;intro a F;refine sMv F rfl rfl rfl ?_;clear F a;intro a F;refine sCall call12 F rfl rfl rfl (finals15_any _ (turnPr h p T L) _ ⟨_,_,_,_,_,_,_,_,outIn (H.sel [1,2,3,4,5] rfl rfl) hrl hr1 hzq⟩ (hN.own H) (1+u % 3) hk3) ?_;rintro e w ⟨A4,k4,l4,q4,rfl,hq4,hf4,H2⟩;replace H:=H.join H2;clear H2
 have hlen:=turn_lens hv hkm hT hL hE hE2 hf1 hf4
 have hTn:=hT.len
 have hLn:=hL.len
 have hg1:FinGood T L:=⟨by omega,by omega,by rw [hTn];exact hT,by rw [hLn];exact hL⟩
 refine ⟨_,rfl,?_⟩;clear F a;intro a F;refine sMv F rfl rfl rfl (qExt rfl rfl rfl rfl (qExt rfl rfl rfl rfl (qExt rfl rfl rfl rfl (qAs rfl rfl rfl (qAs rfl rfl rfl (qAs rfl rfl rfl (qNK hK13 ?_)))))));clear hK13;clear F a;intro a F;refine cSeq (fun K14 hK14=>?_);refine cSR fun K15 hK15=>sMv F rfl rfl rfl (qNot rfl rfl rfl (qMv rfl rfl rfl ?_));clear F a;intro a F
 refine F.split 88 rfl ?_ ?_ <;> (clear F;intro h88 F)
 ·
  replace h88:=notT h88
  cases h88
 replace h88:=notF h88;refine sMv F rfl rfl rfl (qBin rfl rfl rfl rfl bNeq (qPk rfl rfl rfl rfl (qMv rfl rfl rfl ?_)));clear F a;intro a F
 refine F.split 92 rfl ?_ ?_ <;> (clear F;intro h92 F)
 ·
  replace h92:=bneT h92
  exact absurd hE h92
 replace h92:=bneF h92;refine sMv F rfl rfl rfl (qBin rfl rfl rfl rfl bNeq (qPk rfl rfl rfl rfl (qMv rfl rfl rfl ?_)));clear F a;intro a F
 refine F.split 96 rfl ?_ ?_ <;> (clear F;intro h96 F)
 ·
  replace h96:=bneT h96
  exact absurd hE2 h96
 replace h96:=bneF h96;refine sMv F rfl rfl rfl (qMv rfl rfl rfl (qBin rfl rfl rfl rfl bNeq (qPk rfl rfl rfl rfl (qMv rfl rfl rfl ?_))));clear F a;intro a F
 refine F.split 101 rfl ?_ ?_ <;> (clear F;intro h101 F)
 ·
  replace h101:=bneT h101
  exact absurd (congrArg (fun n:Nat=>(n:Int)) hn2.symm) h101
 replace h101:=bneF h101;refine sMv F rfl rfl rfl (qMv rfl rfl rfl (qBin rfl rfl rfl rfl bNeq (qPk rfl rfl rfl rfl (qMv rfl rfl rfl ?_))));clear F a;intro a F
 refine F.split 106 rfl ?_ ?_ <;> (clear F;intro h106 F)
 ·
  replace h106:=bneT h106
  exact absurd (congrArg (fun n:Nat=>(n:Int)) he2.symm) h106
 replace h106:=bneF h106;refine sMv F rfl rfl rfl (qLen underlying30 rfl rfl rfl (qMv rfl rfl rfl (qLen underlying30 rfl rfl rfl (qBin rfl rfl rfl rfl bNeq (qPk rfl rfl rfl rfl (qNK hK15 ?_))))));clear hK15;clear F a;intro a F
 refine cIf F rfl (fun h112=>?_) (fun h112=>?_)
 ·
  replace h112:=bneT h112
  exact absurd (congrArg (fun n:Nat=>(n:Int)) hlen) h112
 replace h112:=bneF h112;refine wp_skip (hK14 _ _ ?_);clear hK14;refine cSeq (fun K16 hK16=>?_);refine cSR fun K17 hK17=>sMv F rfl rfl rfl (qLen underlying30 rfl rfl rfl (qMv rfl rfl rfl (qNK hK17 ?_)));clear hK17;clear F a;intro a F;refine wp_block ?_
 refine cLoopR [13,14,23,113,114] (fun m ups w=>∃ j:Nat,m=l1.length - j∧ups=[(115,.int .i64 ((j:Nat):Int))]∧j≤l1.length∧Own w0 none w [.rws 47 38 (.slice A4 l4.length k4) (l4.map (bs 38)),.win 3 1 (.slice A2 p.threads.length k2) (rowsZ T),.win 3 1 (.slice A3 p.locs.length k3) (rowsZ L),.rws 47 38 (.slice A1 l1.length k1) (l1.map (bs 38))]) F (l1.length) [(115,.int .i64 ((0:Nat):Int))] (by repeat (first | exact SubR.nil | (apply SubR.cons;· rfl))) ?_ ?_ ?_
 · exact ⟨0,rfl,rfl,Nat.zero_le _,H.sel [0,8,7,9] rfl rfl⟩
 · repeat (first | exact trivial | refine Le.cons rfl ?_)
 clear F
 clear H
 intro m ups a w hI F
 obtain ⟨j,rfl,rfl,hj,H⟩:=hI
 refine cSR fun K18 hK18=>sBin F rfl rfl rfl rfl bLss (qNK hK18 ?_);clear hK18;clear F a;intro a F;refine cSeq (fun K19 hK19=>?_)
 refine cIf F rfl (fun h116=>?_) (fun h116=>?_)
 ·
  replace h116:=of_decide_eq_true h116
  have hjl:j < l1.length:=by omega
  obtain ⟨x,hx⟩:∃ x,l1[j]? = some x:=⟨_,List.getElem?_eq_getElem hjl⟩
  obtain ⟨bX,oX,rfl,_⟩:=H.rowsAt 3 rfl (bs38_len _) (by decide) j (bs 38 x) (by rw [List.getElem?_map,hx];rfl)
  refine wp_skip (hK19 _ _ ?_);clear hK19;refine cSeq (fun K20 hK20=>?_);refine wp_block ?_;refine cSR fun K21 hK21=>?_
  refine sIx underlying30 sizeOf47 F rfl rfl rfl rfl ?_ ?_
  focus exact hjl
  clear F a;intro a F
  refine sLrB underlying47 rfl sizeOf47 F rfl rfl rfl (by obtain ⟨b',o',g1,g2⟩:=H.rowsAt 3 rfl (bs38_len _) (by decide) j (bs 38 x) (by rw [List.getElem?_map,hx];rfl);cases g1;exact g2) ?_;clear F a;intro a F
  refine sAlB H zB47 F rfl rfl ?_;clear F a H;intro b27 a w F H;refine sSrB H 0 sizeOf47 F rfl rfl rfl rfl (by omega) ?_;clear H;intro w H;rw [lay_all] at H;refine nK hK21 (cSR fun K22 hK22=>sLrB underlying47 rfl sizeOf47 F rfl rfl rfl (H.whole 0 rfl) (qMv rfl rfl rfl (qMv rfl rfl rfl ?_)));clear hK21;clear F a;intro a F;refine sCall call35 F rfl rfl rfl (finalT_good x A2 k2 T A3 k3 L _ _ _ (H.winAt 2 rfl).at (H.winAt 3 rfl).at hTn.symm hLn.symm hg1) ?_;rintro e w ⟨rfl,hb⟩;replace H:=H.grow hb;clear hb;refine ⟨_,rfl,?_⟩;clear F a;intro a F;refine sMv F rfl rfl rfl (qExt rfl rfl rfl rfl (qExt rfl rfl rfl rfl ?_));clear F a;intro a F;refine sAlB H zB47 F rfl rfl ?_;clear F a H;intro b28 a w F H;refine sSrB H 0 sizeOf47 F rfl rfl rfl rfl (by omega) ?_;clear H;intro w H;rw [lay_all] at H;refine sAs F rfl rfl rfl (qNK hK22 (qSR fun K23 hK23=>qMv rfl rfl rfl (qBin rfl rfl rfl rfl bNeq (qMv rfl rfl rfl ?_))));clear hK22;clear F a;intro a F
  refine F.split 128 rfl ?_ ?_ <;> (clear F;intro h128 F)
  ·
   replace h128:=bneT h128
   exact absurd rfl h128
  replace h128:=bneF h128;refine sLrB underlying47 rfl sizeOf47 F rfl rfl rfl (H.whole 0 rfl) ?_;clear F a;intro a F;refine sBsA H underlying30 sizeOf47 zeroValue47 rfl F rfl rfl rfl rfl rfl ?_;clear F a H;intro b130 a w F H;refine sMv F rfl rfl rfl ?_;clear F a;intro a F
  refine sCall call13 F rfl rfl rfl (within_true (some ⟨b130,0,none⟩) A4 1 k4 [finT x T L] l4 _ (RowsAt.ofRange (sz:=38) (rows:=[finT x T L].map (bs 38)) (H.whole 0 rfl) (bs38_len _)) (H.rowsAt 3 rfl (bs38_len _) (by decide)) (show 1≤9223372036854775807 by decide) (fin_short hf4) (fun y hy=>by
  obtain rfl:y=toL 38 (finT x T L):=by simpa [tl] using hy
  exact turn_in hv hkm hT hL hE hE2 hf1 hf4 (List.mem_of_getElem? hx))) ?_
  rintro e w ⟨rfl,hb⟩;replace H:=H.grow hb;clear hb;refine ⟨_,rfl,?_⟩;clear F a;intro a F;refine sNot F rfl rfl rfl (qPk rfl rfl rfl rfl (qNK hK23 ?_));clear hK23;clear F a;intro a F
  refine cIf F rfl (fun h134=>?_) (fun h134=>?_)
  ·
   replace h134:=notT h134
   cases h134
  replace h134:=notF h134;refine wp_skip (hK20 _ _ (cReg ?_));clear hK20
  refine sBin F rfl rfl rfl rfl (bAddN (j:=1) ?_) ?_
  focus omega
  clear F a;intro a F;refine sMv F rfl rfl rfl ?_;clear F a;intro a F;refine sNil ?_
  exact ⟨_,by omega,_,⟨j+1,rfl,rfl,by omega,H.sel [3,4,5,6] rfl rfl⟩,F.to (by repeat (first | exact trivial | refine Le.cons rfl ?_))⟩
 replace h116:=of_decide_eq_false h116;refine wp_exit ?_;refine hK16 _ _ (cSR fun K24 hK24=>?_);clear hK16;refine sCall call14 F rfl rfl rfl (awake15_any _ (hN.own H)) ?_;rintro e w ⟨rfl,hb⟩;replace H:=H.grow hb;clear hb;refine ⟨_,rfl,?_⟩;clear F a;intro a F;refine sAs F rfl rfl rfl (qNK hK24 ?_);clear hK24;clear F a;intro a F;refine wp_ret ?_;refine bRet results10 F rfl ?_
 exact ⟨rfl,H.below⟩
end Go.Proofs.YtbgnapmaimkpkaaGreatDoor
