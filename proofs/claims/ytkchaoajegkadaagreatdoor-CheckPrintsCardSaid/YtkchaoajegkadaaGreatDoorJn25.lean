/-
  The last step of a row, from Below. Conditions: none.
 
  Arguments opened: bytes, structs, slices, programs, as the rows' readings give them. Conditions: none.
 
  The table of needs as the rows' condition gives it; arguments opened. Conditions: none.
-/
import Derived.Test.YtkchaoajegkadaaGreatDoorRows
import Derived.WalkKit
import Derived.ProofKit
import Derived.OpenShut
import Derived.ShutString
import Derived.Below
import Derived.ChangeSame
import Derived.Test.YtkchaoajegkadaaGreatDoorCkK
import Derived.Deep.Slices
import Derived.Deep.Fields
import Derived.SizedLaws
import Derived.WideKeyArgs
import Derived.LaidMore
import Derived.Stop.Joined
import Derived.Test.YtkchaoajegkadaaGreatDoorJn23
import Derived.Test.YtkchaoajegkadaaGreatDoorJn24
import Derived.Test.YtkchaoajegkadaaGreatDoorJn19
import Derived.Lib.LaidTab
set_option linter.unusedSimpArgs false
set_option linter.unusedVariables false
namespace Go.Proofs.YtkchaoajegkadaaGreatDoor
-- OpK
open Go.Proofs.Tryz
open Go.RowKit Go.WideShapes Go.ChangeShapes
section
variable {H:Type} {enc:TypeId × Value→H} {P:Program}
theorem post_of_below {f:Func} {s:ChangeSpec} {apart fresh handsOn again:Bool} {W W':World} {args:Array Value} {v:Value} {ds gs:List (DataW H)} {before pa pv:List MemPlace}
   (hW:DataW.Whole enc P f.params.toList s.vars apart W args.toList ds gs before)
   (hres:∀ (b:Nat) (sp:Nat→Bool) (hd:Bool),DataW.TrodAll enc P W' b sp hd f.resultTypes.toList (v.resultList f.resultTypes.size) (s.fn H (ds++gs)).results [])
   (hargs:∀ sp:Nat→Bool,(∀ p ∈ before,sp p.block=true)→DataW.TrodAll enc P W' 0 sp true f.params.toList args.toList (s.fn H (ds++gs)).args pa)
   (hvars:∀ sp:Nat→Bool,(∀ p ∈ before,sp p.block=true)→DataW.TrodVars enc P W' sp s.vars (s.fn H (ds++gs)).vars pv)
   (hps:before=pa++pv) (hb:Below W.heap.size W W')
   (hok:∀ (j:Nat) (t:TypeId) (r:Value),f.resultTypes[j]? = some t→(v.resultList f.resultTypes.size)[j]? = some r→Value.okWide P W' .any 0 t r) :
   s.post enc P f apart fresh handsOn again W args v W':=by
 have hlt:∀ p ∈ before,p.block < W.heap.size:=fun p hp=>hW.lt p hp
 have hold:∀ p ∈ before,(fun b=>decide (b < W.heap.size)) p.block=true:=fun p hp=>by simpa using hlt p hp
 refine ⟨ds,gs,before,[],pa,pv,hW,hres _ _ _,hargs _ hold,hvars _ hold,World.keptBut_mono (fun p hp=>⟨hp,?_⟩) (hb.frame (· ∈ before)),fun _=>?_⟩
 · rw [hps,List.mem_append] at hp
   exact Or.inr hp
 · obtain ⟨_,_,_,_,_,hz,hn⟩:=hW
   refine ⟨hok,_,_,([]++pa)++pv,⟨[]++pa,pv,trodAll_append (hargs _ (fun _ _=>rfl)) (hres _ _ _),hvars _ (fun _ _=>rfl),rfl,?_,?_⟩,?_⟩
   · intro b off hp
     have hin:MemPlace.cell b off ∈ before:=by rw [hps];simpa using hp
     rw [hb.frozen (hlt _ hin)]
     exact hz b off hin
   · intro ha
     have:=hn ha
     rw [hps] at this
     simpa using this
   · intro p hp _
     rw [hps]
     simpa using hp
end
theorem row_knob:ownKnob Tryz.prog.godebug=none:=by kernel_rfl
end Go.Proofs.YtkchaoajegkadaaGreatDoor
namespace Go.Proofs.YtkchaoajegkadaaGreatDoor
open Go.Proofs.Tryz
open Go.ChangeShapes Go.WideShapes Go.ChangeAt Go.RowKit Go.Deep
section
variable {H:Type} {enc:TypeId × Value→H} {P:Program} {w:World} {spare:Nat→Bool} {held:Bool} {fuel:Nat} {t:TypeId} {cs:List Value} {x:DataW H × List MemPlace}
theorem o_struct {fs:Array Field} (ht:P.underlying t=some (.struct fs)) (h:DataW.trod enc P w 0 spare held fuel t cs=some x) :
   cs.length=P.cellsOf t∧∃ n,fuel=n+1∧∀ (i:Nat) (f:Field),fs[i]? = some f→∃ y,DataW.trod enc P w 0 spare held n f.type ((cs.drop f.offset).take (P.cellsOf f.type))=some y:=by
 obtain ⟨xs,n,hn,_,hl,hxl,hf⟩:=DataW.trod_struct ht h
 refine ⟨hl,n,hn,fun i f hi=>?_⟩
 have hlt:i < xs.length:=by rw [hxl];exact (Array.getElem?_eq_some_iff.1 hi).1
 exact ⟨_,(hf i f hi).trans (List.getElem?_eq_getElem hlt)⟩
theorem o_slice {e:TypeId} (ht:P.underlying t=some (.slice e)) (hpos:0 < P.cellsOf e) (h:DataW.trod enc P w 0 spare held fuel t cs=some x) :
   ∃ A len cap,cs=[.slice A len cap]∧len≤cap∧cap≤maxLen∧(A=none→len=0∧cap=0) ∧
     ∃ m,fuel=m+1∧∀ i,i < len→∃ b off cs' y,A=some ⟨b,off,none⟩∧b < w.heap.size∧cs'.length=P.cellsOf e∧w.rangeAt b (off+i * P.cellsOf e) cs'∧DataW.trod enc P w 0 spare held m e cs'=some y:=by
 rcases DataW.trod_slice ht h with ⟨rfl,_⟩ | ⟨a,len,cap,elems,rest,n,hn,rfl,_,hb,hl,hm,hlen,hel,_,_⟩
 · cases fuel with
   | zero=>simp [DataW.trod] at h
   | succ m=>exact ⟨none,0,0,rfl,Nat.le_refl _,Nat.zero_le _,fun _=>⟨rfl,rfl⟩,m,rfl,fun i hi=>by omega⟩
 · refine ⟨some a,len,cap,rfl,hl,hm,(fun h=>by cases h),n,hn,fun i hi=>?_⟩
   obtain ⟨b,o,sp⟩:=a
   have hsp:sp=none:=by
     have he:=hel 0 (by omega)
     rw [List.getElem?_eq_getElem (by omega)] at he
     obtain ⟨cs',hc,_⟩:=Option.bind_eq_some_iff.1 he
     obtain ⟨_,hcl,hat⟩:=World.cells?_some hc
     have h0:=hat 0 hpos
     rw [List.getElem?_eq_getElem (by omega)] at h0
     simpa [Addr.add] using World.cell?_spot h0
   subst hsp
   have he:=hel i hi
   rw [List.getElem?_eq_getElem (by omega)] at he
   obtain ⟨cs',hc,ht'⟩:=Option.bind_eq_some_iff.1 he
   obtain ⟨_,hcl,hat⟩:=World.cells?_some hc
   have hc0:w.cell? ⟨b,o+i * P.cellsOf e+0,none⟩=some (cs'[0]'(by omega)):=by
     have:=hat 0 hpos
     rw [List.getElem?_eq_getElem (by omega),Addr.add_mid,Addr.add_mid] at this
     exact this
   refine ⟨b,o,cs',_,rfl,World.block_lt_of_cell? w _ hc0,hcl,fun j v hj=>?_,ht'⟩
   have hjl:j < cs'.length:=(List.getElem?_eq_some_iff.1 hj).1
   have:=hat j (by omega)
   rw [Addr.add_mid,Addr.add_mid,hj] at this
   exact this
theorem o_u8 (ht:P.underlying t=some (.int .u8)) (h:DataW.trod enc P w 0 spare held fuel t cs=some x):∃ u:UInt8,cs=[b8 u]:=by
 obtain ⟨n,rfl,_,hwf⟩:=DataW.trod_int ht h
 simp only [Lit.wf,Bool.and_eq_true,decide_eq_true_eq] at hwf
 rw [show IntKind.u8.min=0 from by decide,show IntKind.u8.max=255 from by decide] at hwf
 refine ⟨UInt8.ofNat n.toNat,?_⟩
 have:(UInt8.ofNat n.toNat).toNat=n.toNat:=by rw [UInt8.toNat_ofNat'];omega
 simp only [b8,this]
 rw [Int.toNat_of_nonneg hwf.1]
theorem o_bool (ht:P.underlying t=some .bool) (h:DataW.trod enc P w 0 spare held fuel t cs=some x):∃ b:Bool,cs=[.bool b]:=by
 obtain ⟨b,h1,_⟩:=DataW.trod_bool ht h
 exact ⟨b,h1⟩
theorem o_str (ht:P.underlying t=some .string) (h:DataW.trod enc P w 0 spare held fuel t cs=some x):∃ s:ByteArray,cs=[.string s]∧s.size≤maxLen:=by
 obtain ⟨s,h1,_,h2⟩:=DataW.trod_string ht h
 exact ⟨s,h1,h2⟩
end
theorem len2 {α:Type} {l:List α} (h:l.length=2):∃ a b,l=[a,b]:=by
 match l,h with
 | [a,b],_=>exact ⟨a,b,rfl⟩
theorem len10' {α:Type} {l:List α} (h:l.length=10):∃ a0 a1 a2 a3 a4 a5 a6 a7 a8 a9,l=[a0,a1,a2,a3,a4,a5,a6,a7,a8,a9]:=by
 match l,h with
 | [a0,a1,a2,a3,a4,a5,a6,a7,a8,a9],_=>exact ⟨a0,a1,a2,a3,a4,a5,a6,a7,a8,a9,rfl⟩
theorem len5' {α:Type} {l:List α} (h:l.length=5):∃ a0 a1 a2 a3 a4,l=[a0,a1,a2,a3,a4]:=by
 match l,h with
 | [a0,a1,a2,a3,a4],_=>exact ⟨a0,a1,a2,a3,a4,rfl⟩
instance:Inhabited Ins:=⟨⟨0,0,0,false,0,false,0,0,0,0⟩⟩
instance:Inhabited Cnd:=⟨.mk 0 0 0 0 []⟩
theorem cU8:Tryz.prog.cellsOf 5=1:=by kernel_rfl
theorem cBool:Tryz.prog.cellsOf 4=1:=by kernel_rfl
theorem cStr:Tryz.prog.cellsOf 9=1:=by kernel_rfl
theorem cArg:Tryz.prog.cellsOf 42=2:=by kernel_rfl
theorem cIns:Tryz.prog.cellsOf 44=10:=by kernel_rfl
theorem cInses:Tryz.prog.cellsOf 52=1:=by kernel_rfl
theorem cInsess:Tryz.prog.cellsOf 24=1:=by kernel_rfl
theorem cStrs:Tryz.prog.cellsOf 22=1:=by kernel_rfl
theorem cU8s:Tryz.prog.cellsOf 23=1:=by kernel_rfl
theorem cCond:Tryz.prog.cellsOf 27=5:=by kernel_rfl
theorem cConds:Tryz.prog.cellsOf 25=1:=by kernel_rfl
theorem cProg:Tryz.prog.cellsOf 29=10:=by kernel_rfl
section
variable {H:Type} {enc:TypeId × Value→H} {w:World} {spare:Nat→Bool} {held:Bool} {fuel:Nat} {cs:List Value} {x:DataW H × List MemPlace}
theorem o_arg (h:DataW.trod enc Tryz.prog w 0 spare held fuel 42 cs=some x):∃ (r:Bool) (n:UInt8),cs=[.bool r,b8 n]:=by
 obtain ⟨hl,m,_,hf⟩:=o_struct underlying42 h
 rw [cArg] at hl
 obtain ⟨a,b,rfl⟩:=len2 hl
 obtain ⟨y0,h0⟩:=hf 0 _ rfl
 obtain ⟨y1,h1⟩:=hf 1 _ rfl
 replace h0:DataW.trod enc Tryz.prog w 0 spare held m 4 (([a,b].drop 0).take (Tryz.prog.cellsOf 4))=_:=h0
 replace h1:DataW.trod enc Tryz.prog w 0 spare held m 5 (([a,b].drop 1).take (Tryz.prog.cellsOf 5))=_:=h1
 rw [cBool] at h0;rw [cU8] at h1
 obtain ⟨r,e0⟩:=o_bool underlying4 h0
 obtain ⟨n,e1⟩:=o_u8 underlying5 h1
 simp only [List.drop,List.take,List.cons.injEq,and_true] at e0 e1
 exact ⟨r,n,by rw [e0,e1]⟩
theorem o_ins (h:DataW.trod enc Tryz.prog w 0 spare held fuel 44 cs=some x):∃ i:Ins,cs=i.cells:=by
 obtain ⟨hl,m,_,hf⟩:=o_struct underlying44 h
 rw [cIns] at hl
 obtain ⟨a0,a1,a2,a3,a4,a5,a6,a7,a8,a9,rfl⟩:=len10' hl
 have key:∀ o,DataW.trod enc Tryz.prog w 0 spare held m 5 (([a0,a1,a2,a3,a4,a5,a6,a7,a8,a9].drop o).take (Tryz.prog.cellsOf 5)) ≠ none→∃ u:UInt8,([a0,a1,a2,a3,a4,a5,a6,a7,a8,a9].drop o).take 1=[b8 u]:=by
   intro o ho
   obtain ⟨y,hy⟩:=Option.ne_none_iff_exists'.1 ho
   rw [cU8] at hy
   exact o_u8 underlying5 hy
 have karg:∀ o,DataW.trod enc Tryz.prog w 0 spare held m 42 (([a0,a1,a2,a3,a4,a5,a6,a7,a8,a9].drop o).take (Tryz.prog.cellsOf 42)) ≠ none→∃ (r:Bool) (n:UInt8),([a0,a1,a2,a3,a4,a5,a6,a7,a8,a9].drop o).take 2=[.bool r,b8 n]:=by
   intro o ho
   obtain ⟨y,hy⟩:=Option.ne_none_iff_exists'.1 ho
   rw [cArg] at hy
   exact o_arg hy
 have nn:∀ {z:Option (DataW H × List MemPlace)},(∃ y,z=some y)→z ≠ none:=fun ⟨y,hy⟩=>by rw [hy];exact fun h=>by cases h
 obtain ⟨u0,e0⟩:=key 0 (nn (hf 0 _ rfl))
 obtain ⟨u1,e1⟩:=key 1 (nn (hf 1 _ rfl))
 obtain ⟨u2,e2⟩:=key 2 (nn (hf 2 _ rfl))
 obtain ⟨r3,n3,e3⟩:=karg 3 (nn (hf 3 _ rfl))
 obtain ⟨r4,n4,e4⟩:=karg 5 (nn (hf 4 _ rfl))
 obtain ⟨u5,e5⟩:=key 7 (nn (hf 5 _ rfl))
 obtain ⟨u6,e6⟩:=key 8 (nn (hf 6 _ rfl))
 obtain ⟨u7,e7⟩:=key 9 (nn (hf 7 _ rfl))
 simp only [List.drop,List.take,List.cons.injEq,and_true] at e0 e1 e2 e3 e4 e5 e6 e7
 obtain ⟨e3,e3'⟩:=e3
 obtain ⟨e4,e4'⟩:=e4
 subst e0 e1 e2 e3 e3' e4 e4' e5 e6 e7
 exact ⟨⟨u0,u1,u2,r3,n3,r4,n4,u5,u6,u7⟩,rfl⟩
theorem o_rows {α:Type} [Inhabited α] {t e:TypeId} {f:α→List Value} {n:Nat} (ht:Tryz.prog.underlying t=some (.slice e)) (hn:Tryz.prog.cellsOf e=n) (hpos:0 < n)
   (he:∀ {fuel:Nat} {cs:List Value} {x:DataW H × List MemPlace},DataW.trod enc Tryz.prog w 0 spare held fuel e cs=some x→∃ a,cs=f a)
   (h:DataW.trod enc Tryz.prog w 0 spare held fuel t cs=some x):∃ A C,∃ l:List α,cs=[.slice A l.length C]∧RowsAt w A n (l.map f)∧l.length≤C∧C≤maxLen∧(A=none→C=0):=by
 obtain ⟨A,len,cap,rfl,hl,hc,hA,m,_,hi⟩:=o_slice ht (by omega) h
 rw [hn] at hi
 obtain ⟨T,hT⟩:=choose_lt (p:=fun i (a:α)=>∃ b off,A=some ⟨b,off,none⟩∧w.rangeAt b (off+i * n) (f a)) (fun i him=>by
   obtain ⟨b,off,cs',y,h1,_,_,h2,h3⟩:=hi i him
   obtain ⟨a,rfl⟩:=he h3
   exact ⟨a,b,off,h1,h2⟩)
 refine ⟨A,cap,(List.range len).map T,by simp,fun j c hj=>?_,by simpa using hl,hc,fun h=>(hA h).2⟩
 rw [List.map_map,List.getElem?_map] at hj
 obtain ⟨q,hq,rfl⟩:=Option.map_eq_some_iff.1 hj
 obtain ⟨hjl,rfl⟩:=List.getElem?_eq_some_iff.1 hq
 rw [List.length_range] at hjl;rw [List.getElem_range]
 exact hT j hjl
theorem o_bytes (h:DataW.trod enc Tryz.prog w 0 spare held fuel 23 cs=some x):∃ A C,∃ l:List UInt8,cs=[.slice A l.length C]∧RowsAt w A 1 (l.map fun x=>[b8 x])∧l.length≤C∧C≤maxLen∧(A=none→C=0):=
 o_rows underlying23 cU8 (by omega) (fun h=>o_u8 underlying5 h) h
theorem o_inses (h:DataW.trod enc Tryz.prog w 0 spare held fuel 52 cs=some x):∃ A C,∃ l:List Ins,cs=[.slice A l.length C]∧RowsAt w A 10 (l.map Ins.cells)∧l.length≤C∧C≤maxLen∧(A=none→C=0):=
 o_rows underlying52 cIns (by omega) (fun h=>o_ins h) h
theorem o_strs (h:DataW.trod enc Tryz.prog w 0 spare held fuel 22 cs=some x):∃ A C,∃ l:List ByteArray,cs=[.slice A l.length C]∧StrsAt w A l∧(∀ s ∈ l,s.size≤maxLen)∧l.length≤C∧C≤maxLen∧(A=none→C=0):=by
 obtain ⟨A,len,cap,rfl,hl,hc,hA,m,_,hi⟩:=o_slice underlying22 (by rw [cStr];omega) h
 rw [cStr] at hi
 obtain ⟨T,hT⟩:=choose_lt (p:=fun i (s:ByteArray)=>s.size≤maxLen∧∃ b off,A=some ⟨b,off,none⟩∧w.rangeAt b (off+i * 1) [.string s]) (fun i him=>by
   obtain ⟨b,off,cs',y,h1,_,_,h2,h3⟩:=hi i him
   obtain ⟨a,rfl,h4⟩:=o_str underlying9 h3
   exact ⟨a,h4,b,off,h1,h2⟩)
 refine ⟨A,cap,(List.range len).map T,by simp,fun j c hj=>?_,fun s hs=>?_,by simpa using hl,hc,fun h=>(hA h).2⟩
 · rw [List.map_map,List.getElem?_map] at hj
   obtain ⟨q,hq,rfl⟩:=Option.map_eq_some_iff.1 hj
   obtain ⟨hjl,rfl⟩:=List.getElem?_eq_some_iff.1 hq
   rw [List.length_range] at hjl;rw [List.getElem_range]
   exact (hT j hjl).2
 · obtain ⟨i,hi2,rfl⟩:=List.mem_map.1 hs
   exact (hT i (List.mem_range.1 hi2)).1
theorem CondAt.succ:∀ (h:Nat) (cs:List Value) (c:Cnd),CondAt w h cs c→CondAt w (h+1) cs c
 | 0,_,_,hc=>hc.elim
 | h+1,cs,.mk k t n v kids,hc=>by
   obtain ⟨A,C,h1,h2,h3⟩:=hc
   refine ⟨A,C,h1,h2,fun j kid hj=>?_⟩
   obtain ⟨b,off,cs',h4,h5,h6⟩:=h3 j kid hj
   exact ⟨b,off,cs',h4,h5,CondAt.succ h cs' kid h6⟩
theorem CondAt.mono {a b:Nat} (h:a≤b) {cs:List Value} {c:Cnd} (hc:CondAt w a cs c):CondAt w b cs c:=by
 induction h with
 | refl=>exact hc
 | step _ ih=>exact CondAt.succ _ _ _ ih
end
theorem laidOutP:laidOutB Tryz.prog=true:=by kernel_rfl
end Go.Proofs.YtkchaoajegkadaaGreatDoor
namespace Go.Proofs.YtkchaoajegkadaaGreatDoor
open Go.Proofs.Tryz
open Go.ChangeShapes Go.WideShapes Go.ChangeAt Go.RowKit Go.Deep
set_option maxRecDepth 100000
def laidN : List (String × DataW Unit) := [("math/bits.deBruijn32tab", Rows.laid_math_bits_deBruijn32tab), ("math/bits.deBruijn64tab", Rows.laid_math_bits_deBruijn64tab), ("internal/strconv.uint64pow10", Rows.laid_internal_strconv_uint64pow10), ("seisin/check.needs", Rows.laid_seisin_check_needs)]
theorem laid_at {P:Program} {W:World} {n:String} {d:DataW Unit}:∀ {l:List (String × DataW Unit)} {ps:List MemPlace},DataW.LaidVars P W l ps→(n,d) ∈ l →
   ∃ g t cs fuel p,P.globalNamed n=some g∧(P.globals[g]?).map (·.type)=some t∧W.var? P n=some cs∧DataW.trod (fun _=>()) P W 0 (fun _=>true) false fuel t cs.toList=some (d,p)
 | [],_,_,hm=>by cases hm
 | (n0,d0) :: r,ps,⟨g,t,cs,f,p,q,h1,h2,h3,h4,h5,_⟩,hm=>by
   rcases List.mem_cons.1 hm with e | e
   · cases e;exact ⟨g,t,cs,f,p,h1,h2,h3,h4⟩
   · exact laid_at h5 e
theorem gNeeds : Tryz.prog.globalNamed "seisin/check.needs" = some 0 := by kernel_rfl
theorem tNeeds:(Tryz.prog.globals[0]?).map (·.type)=some 160:=by kernel_rfl
theorem needs_of_laid {W:World} (h:laidMetH Tryz.prog laidN W):NeedsAt W:=by
 rw [MakeChecks.laidMetH_plain _ _ _ (by kernel_rfl)] at h
 obtain ⟨ps,hps,_,_⟩:=h
 obtain ⟨g0, t0, cs0, f0, p0, hg0, ht0, hv0, hd0⟩ := laid_at (n := "seisin/check.needs") (d := Rows.laid_seisin_check_needs) hps (by unfold laidN; first | exact .head _ | exact .tail _ (.head _) | exact .tail _ (.tail _ (.tail _ (.head _))))
 obtain rfl:=Option.some.inj (gNeeds.symm.trans hg0)
 obtain rfl:=Option.some.inj (tNeeds.symm.trans ht0)
 obtain ⟨xs,m1,rfl,hx1,hlen,hn3,hel⟩:=DataW.trod_array underlying160 hd0
 have key:∀ i,i < 9→∃ n,cs0[i]? = some (.int .u8 n)∧(xs.map (·.1))[i]? = some (.lit (.int .u8 n)):=fun i hi=>by
   have h1:=hel i hi
   rw [cU8,List.getElem?_eq_getElem (by omega)] at h1
   obtain ⟨n,e1,e2,_⟩:=DataW.trod_int underlying5 h1
   refine ⟨n,?_,?_⟩
   · have:(((cs0.toList.drop (i * 1)).take 1))[0]? = some (.int .u8 n):=by rw [e1];rfl
     rw [List.getElem?_take,if_pos (by omega),List.getElem?_drop,Nat.mul_one,Nat.add_zero,Array.getElem?_toList] at this
     exact this
   · rw [List.getElem?_map,List.getElem?_eq_getElem (by omega),e2];rfl
 simp only [Prod.mk.injEq] at hx1
 have hl:xs.map (·.1)=[.lit (.int .u8 0),.lit (.int .u8 35),.lit (.int .u8 38),.lit (.int .u8 29),.lit (.int .u8 7),.lit (.int .u8 7),.lit (.int .u8 15),.lit (.int .u8 32),.lit (.int .u8 92)]:=by
   have:=hx1.1
   simp only [Rows.laid_seisin_check_needs,DataW.agg.injEq] at this
   exact this.symm
 rw [hl] at key
 have fin:∀ i:UInt8,i < 9→∀ n:Int,(([.lit (.int .u8 0),.lit (.int .u8 35),.lit (.int .u8 38),.lit (.int .u8 29),.lit (.int .u8 7),.lit (.int .u8 7),.lit (.int .u8 15),.lit (.int .u8 32),.lit (.int .u8 92)]:List (DataW Unit))[i.toNat]? = some (.lit (.int .u8 n)))→Value.int .u8 n=b8 (needOf i):=by
   intro i hi n hn
   have h9:i.toNat < 9:=UInt8.lt_iff_toNat_lt.1 hi
   have hi2:i=UInt8.ofNat i.toNat:=by simp
   generalize i.toNat=k at h9 hn hi2
   subst hi2
   match k,h9 with
   | 0,_=>simp at hn;subst hn;rfl
   | 1,_=>simp at hn;subst hn;rfl
   | 2,_=>simp at hn;subst hn;rfl
   | 3,_=>simp at hn;subst hn;rfl
   | 4,_=>simp at hn;subst hn;rfl
   | 5,_=>simp at hn;subst hn;rfl
   | 6,_=>simp at hn;subst hn;rfl
   | 7,_=>simp at hn;subst hn;rfl
   | 8,_=>simp at hn;subst hn;rfl
   | k+9,h=>omega
 intro i hi
 obtain ⟨n,h1,h2⟩:=key i.toNat (UInt8.lt_iff_toNat_lt.1 hi)
 rw [World.var?_cell hg0 hv0,h1,fin i hi n h2]
section
variable {H:Type} {enc:TypeId × Value→H} {W:World} {v:Value} {d:DataW H} {p:List MemPlace}
end
-- OpG
open Go.ChangeShapes Go.WideShapes Go.ChangeAt Go.RowKit Go.Deep
set_option maxRecDepth 100000
section
variable {H:Type} {enc:TypeId × Value→H} {w:World} {spare:Nat→Bool} {held:Bool} {fuel:Nat} {cs:List Value} {x:DataW H × List MemPlace}
theorem CapAt.succ:∀ (h:Nat) (cs:List Value) (c:Cnd),CapAt w h cs c→CapAt w (h+1) cs c
 | 0,_,_,hc=>hc.elim
 | h+1,cs,.mk k t n v kids,hc=>by
   obtain ⟨A,C,h1,h2,h2',h3⟩:=hc
   refine ⟨A,C,h1,h2,h2',fun j kid hj=>?_⟩
   obtain ⟨b,off,cs',h4,h5,h6⟩:=h3 j kid hj
   exact ⟨b,off,cs',h4,h5,CapAt.succ h cs' kid h6⟩
theorem CapAt.mono {a b:Nat} (h:a≤b) {cs:List Value} {c:Cnd} (hc:CapAt w a cs c):CapAt w b cs c:=by
 induction h with
 | refl=>exact hc
 | step _ ih=>exact CapAt.succ _ _ _ ih
theorem o_condK:∀ (fuel:Nat) {cs:List Value} {x:DataW H × List MemPlace},DataW.trod enc Tryz.prog w 0 spare held fuel 27 cs=some x→∃ c:Cnd,CapAt w fuel cs c:=by
 intro fuel
 induction fuel using Nat.strongRecOn with
 | ind fuel ih=>
   intro cs x h
   obtain ⟨hl,m,rfl,hf⟩:=o_struct Tryz.underlying27 h
   rw [cCond] at hl
   obtain ⟨a0,a1,a2,a3,a4,rfl⟩:=len5' hl
   have key:∀ o,DataW.trod enc Tryz.prog w 0 spare held m 5 (([a0,a1,a2,a3,a4].drop o).take (Tryz.prog.cellsOf 5)) ≠ none→∃ u:UInt8,([a0,a1,a2,a3,a4].drop o).take 1=[b8 u]:=by
     intro o ho
     obtain ⟨y,hy⟩:=Option.ne_none_iff_exists'.1 ho
     rw [cU8] at hy
     exact o_u8 Tryz.underlying5 hy
   have nn:∀ {z:Option (DataW H × List MemPlace)},(∃ y,z=some y)→z ≠ none:=fun ⟨y,hy⟩=>by rw [hy];exact fun h=>by cases h
   obtain ⟨u0,e0⟩:=key 0 (nn (hf 0 _ rfl))
   obtain ⟨u1,e1⟩:=key 1 (nn (hf 1 _ rfl))
   obtain ⟨u2,e2⟩:=key 2 (nn (hf 2 _ rfl))
   obtain ⟨u3,e3⟩:=key 3 (nn (hf 3 _ rfl))
   obtain ⟨y4,h4⟩:=hf 4 _ rfl
   replace h4:DataW.trod enc Tryz.prog w 0 spare held m 25 (([a0,a1,a2,a3,a4].drop 4).take (Tryz.prog.cellsOf 25))=_:=h4
   rw [cConds] at h4
   obtain ⟨A,len,cap,e4,hle,hc,hA,m2,rfl,hi⟩:=o_slice Tryz.underlying25 (by rw [cCond];omega) h4
   rw [cCond] at hi
   simp only [List.drop,List.take,List.cons.injEq,and_true] at e0 e1 e2 e3 e4
   subst e0 e1 e2 e3 e4
   obtain ⟨T,hT⟩:=choose_lt (p:=fun i (c:Cnd)=>∃ b off cs',A=some ⟨b,off,none⟩∧w.rangeAt b (off+i * 5) cs'∧CapAt w (m2+1) cs' c) (fun i him=>by
     obtain ⟨b,off,cs',y,h1,_,_,h2,h3⟩:=hi i him
     obtain ⟨c,hcc⟩:=ih m2 (by omega) h3
     exact ⟨c,b,off,cs',h1,h2,hcc.mono (by omega)⟩)
   refine ⟨.mk u0 u1 u2 u3 ((List.range len).map T),A,cap,by simp,by rw [List.length_map,List.length_range];exact hle,by unfold maxLen at hc;omega,fun j kid hj=>?_⟩
   rw [List.getElem?_map] at hj
   obtain ⟨q,hq,rfl⟩:=Option.map_eq_some_iff.1 hj
   obtain ⟨hjl,rfl⟩:=List.getElem?_eq_some_iff.1 hq
   rw [List.length_range] at hjl;rw [List.getElem_range]
   exact hT j hjl
end
section
variable {H:Type} {enc:TypeId × Value→H} {W:World} {v:Value} {d:DataW H} {p:List MemPlace}
end
-- OpC
open Go.ChangeShapes Go.WideShapes Go.ChangeAt Go.RowKit Go.Deep
set_option maxRecDepth 100000
section
variable {H:Type} {enc:TypeId × Value→H} {w:World} {spare:Nat→Bool} {held:Bool} {fuel:Nat} {cs:List Value} {x:DataW H × List MemPlace}
theorem o_threadsK (h:DataW.trod enc Tryz.prog w 0 spare held fuel 24 cs=some x):∃ A C,∃ l:List (List Ins),cs=[.slice A l.length C]∧ThreadsCap w A l∧l.length≤C∧C≤maxLen∧(A=none→C=0):=by
 obtain ⟨A,len,cap,rfl,hl,hc,hA,m,_,hi⟩:=o_slice Tryz.underlying24 (by rw [cInses];omega) h
 rw [cInses] at hi
 obtain ⟨T,hT⟩:=choose_lt (p:=fun i (t:List Ins)=>∃ b off B C,A=some ⟨b,off,none⟩∧w.cell? ⟨b,off+i * 1,none⟩=some (.slice B t.length C)∧RowsAt w B 10 (t.map Ins.cells)∧t.length≤C∧C≤9223372036854775807) (fun i him=>by
   obtain ⟨b,off,cs',y,h1,_,_,h2,h3⟩:=hi i him
   obtain ⟨B,C,l,rfl,h4,h5,h6,_⟩:=o_inses h3
   exact ⟨l,b,off,B,C,h1,by have:=h2 0 _ rfl;rwa [Nat.add_zero] at this,h4,h5,by unfold maxLen at h6;omega⟩)
 refine ⟨A,cap,(List.range len).map T,by simp,fun j c hj=>?_,by simpa using hl,hc,fun h=>(hA h).2⟩
 rw [List.getElem?_map] at hj
 obtain ⟨q,hq,rfl⟩:=Option.map_eq_some_iff.1 hj
 obtain ⟨hjl,rfl⟩:=List.getElem?_eq_some_iff.1 hq
 rw [List.length_range] at hjl;rw [List.getElem_range]
 exact hT j hjl
theorem o_progK (h:DataW.trod enc Tryz.prog w 0 spare held fuel 29 cs=some x):∃ p:Prg,ProgCap w cs p:=by
 obtain ⟨hl,m,_,hf⟩:=o_struct Tryz.underlying29 h
 rw [cProg] at hl
 obtain ⟨a0,a1,a2,a3,a4,a5,a6,a7,a8,a9,rfl⟩:=len10' hl
 obtain ⟨y0,h0⟩:=hf 0 _ rfl
 obtain ⟨y1,h1⟩:=hf 1 _ rfl
 obtain ⟨y2,h2⟩:=hf 2 _ rfl
 obtain ⟨y3,h3⟩:=hf 3 _ rfl
 obtain ⟨y4,h4⟩:=hf 4 _ rfl
 obtain ⟨y5,h5⟩:=hf 5 _ rfl
 replace h0:DataW.trod enc Tryz.prog w 0 spare held m 9 (([a0,a1,a2,a3,a4,a5,a6,a7,a8,a9].drop 0).take (Tryz.prog.cellsOf 9))=_:=h0
 replace h1:DataW.trod enc Tryz.prog w 0 spare held m 22 (([a0,a1,a2,a3,a4,a5,a6,a7,a8,a9].drop 1).take (Tryz.prog.cellsOf 22))=_:=h1
 replace h2:DataW.trod enc Tryz.prog w 0 spare held m 23 (([a0,a1,a2,a3,a4,a5,a6,a7,a8,a9].drop 2).take (Tryz.prog.cellsOf 23))=_:=h2
 replace h3:DataW.trod enc Tryz.prog w 0 spare held m 24 (([a0,a1,a2,a3,a4,a5,a6,a7,a8,a9].drop 3).take (Tryz.prog.cellsOf 24))=_:=h3
 replace h4:DataW.trod enc Tryz.prog w 0 spare held m 5 (([a0,a1,a2,a3,a4,a5,a6,a7,a8,a9].drop 4).take (Tryz.prog.cellsOf 5))=_:=h4
 replace h5:DataW.trod enc Tryz.prog w 0 spare held m 27 (([a0,a1,a2,a3,a4,a5,a6,a7,a8,a9].drop 5).take (Tryz.prog.cellsOf 27))=_:=h5
 rw [cStr] at h0;rw [cStrs] at h1;rw [cU8s] at h2;rw [cInsess] at h3;rw [cU8] at h4;rw [cCond] at h5
 obtain ⟨s,e0,hs⟩:=o_str Tryz.underlying9 h0
 obtain ⟨LA,LC,locs,e1,l1,l2,l3,l4,_⟩:=o_strs h1
 obtain ⟨IA,IC,init,e2,i1,i2,i3,_⟩:=o_bytes h2
 obtain ⟨TA,TC,threads,e3,t1,t2,t3,_⟩:=o_threadsK h3
 obtain ⟨ask,e4⟩:=o_u8 Tryz.underlying5 h4
 obtain ⟨c,hc⟩:=o_condK m h5
 simp only [List.drop,List.take,List.cons.injEq,and_true] at e0 e1 e2 e3 e4 hc
 subst e0 e1 e2 e3 e4
 unfold maxLen at l4 i3 t3
 exact ⟨⟨s,locs,init,threads,ask,c⟩,LA,LC,IA,IC,TA,TC,m,[a5,a6,a7,a8,a9],⟨rfl,hs,l1,by show locs.length≤_;omega,l3,l2,i1,by show init.length≤_;omega,t1.at,by show threads.length≤_;omega,hc.at⟩,hc,t1,i2,t2⟩
end
section
variable {H:Type} {enc:TypeId × Value→H} {W:World} {v:Value} {d:DataW H} {p:List MemPlace}
theorem a_progK (hv:Value.okWide Tryz.prog W .any 0 29 v) (h:DataW.Trod enc Tryz.prog W 0 (fun _=>true) true 29 v d p):∃ cs q,v = .agg cs.toArray∧ProgCap W cs q:=by
 obtain ⟨cs,rfl,_⟩:=okWide_struct Tryz.underlying29 hv
 obtain ⟨fuel,hf⟩:=h
 obtain ⟨q,hq⟩:=o_progK hf
 exact ⟨cs.toList,q,by simp,hq⟩
end
-- OpY
open Go.ChangeShapes Go.WideShapes Go.ChangeAt Go.RowKit Go.Deep
set_option maxRecDepth 100000
section
variable {H:Type} {enc:TypeId × Value→H} {P:Program} {w:World} {spare:Nat→Bool} {held:Bool} {fuel:Nat} {t:TypeId} {cs:List Value} {x:DataW H × List MemPlace}
end
section
variable {H:Type} {enc:TypeId × Value→H} {w:World} {spare:Nat→Bool} {held:Bool} {fuel:Nat} {cs:List Value} {x:DataW H × List MemPlace}
end
section
variable {H:Type} {enc:TypeId × Value→H} {W:World} {v:Value} {d:DataW H} {p:List MemPlace}
end
-- OpJ
open Go.Proofs.Tryz
open Go.ChangeShapes Go.WideShapes Go.ChangeAt Go.RowKit Go.Deep
set_option maxRecDepth 100000
theorem tTen:(Tryz.prog.globals[1]?).map (·.type)=some 199:=by kernel_rfl
theorem ten_of {W : World} {l : List (String × DataW Unit)} (h : laidMetH Tryz.prog l W) (hp : (l.all fun x => x.2.handleName?.isNone) = true) (hm : ("internal/strconv.uint64pow10", Rows.laid_internal_strconv_uint64pow10) ∈ l) : TenAt W := by
 rw [MakeChecks.laidMetH_plain _ _ _ hp] at h
 obtain ⟨ps,hps,_,_⟩:=h
 obtain ⟨g0, t0, cs0, f0, p0, hg0, ht0, hv0, hd0⟩ := laid_at (n := "internal/strconv.uint64pow10") (d := Rows.laid_internal_strconv_uint64pow10) hps hm
 obtain rfl:=Option.some.inj (gTen.symm.trans hg0)
 obtain rfl:=Option.some.inj (tTen.symm.trans ht0)
 have e:=Lib.cells_of_tab (zs:=Lib.pow10Tab) underlying199 underlying185 (by kernel_rfl) (by kernel_rfl) hd0
 show World.var? Tryz.prog W _=_
 rw [hv0,← e]
theorem ten_of_laid4 {W:World} (h:laidMetH Tryz.prog laidN W):TenAt W:=ten_of h (by kernel_rfl) (by unfold laidN;exact .tail _ (.tail _ (.head _)))
section
variable {H:Type} {enc:TypeId × Value→H} {P:Program} {w:World} {spare:Nat→Bool} {held:Bool} {fuel:Nat} {t:TypeId} {cs:List Value} {x:DataW H × List MemPlace}
end
section
variable {H:Type} {enc:TypeId × Value→H} {w:World} {spare:Nat→Bool} {held:Bool} {fuel:Nat} {cs:List Value} {x:DataW H × List MemPlace}
end
section
variable {H:Type} {enc:TypeId × Value→H} {W:World} {v:Value} {d:DataW H} {p:List MemPlace}
end
end Go.Proofs.YtkchaoajegkadaaGreatDoor
