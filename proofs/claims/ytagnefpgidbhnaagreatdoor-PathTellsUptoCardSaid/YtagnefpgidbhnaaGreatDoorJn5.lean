/-
  WALK2. Package path: distinct. Conditions: the slice lies in memory.
-/
import Derived.Test.YtagnefpgidbhnaaGreatDoorJn4
import Derived.Test.YtagnefpgidbhnaaGreatDoorCkK
import Derived.OrdersIn
import Derived.RangeFuncLeaves
import Derived.RangeFuncNested
import Derived.RangeFuncCalls
import Derived.TacticsIn
set_option linter.unusedSimpArgs false
set_option linter.unusedVariables false
namespace Go.Proofs.YtagnefpgidbhnaaGreatDoor
-- SoM
open Go.RowKit
set_option maxRecDepth 100000
theorem Own.rwsAddr {w0 w:World} {row:Option Nat} {rs:List Res} (H:Own w0 row w rs) (i:Nat) {e:TypeId} {sz n c:Nat} {A:Option Addr} {rows:List (List Value)} (hi:rs[i]? = some (.rws e sz (.slice A n c) rows)) (hne:0 < rows.length):∃ g,A=some ⟨g,0,.none⟩:=by
 have h:=H.arr i hi
 rcases h.2 with ⟨h1,h2⟩ | ⟨g,cap,cur,h1,_⟩
 · omega
 · cases h1;exact ⟨g,rfl⟩
theorem JB:∀ {l m:List UInt8},l.Pairwise (fun x y=>x.toNat < y.toNat)→m.Pairwise (fun x y=>x.toNat < y.toNat)→(∀ x,x ∈ l ↔ x ∈ m)→l=m
 | [],[],_,_,_=>rfl
 | [],y :: m,_,_,h=>absurd ((h y).2 (by simp)) (by simp)
 | x :: l,[],_,_,h=>absurd ((h x).1 (by simp)) (by simp)
 | x :: l,y :: m,hl,hm,h=>by
   have h1:=List.pairwise_cons.1 hl
   have h2:=List.pairwise_cons.1 hm
   have e:x=y:=by
     apply Decidable.byContradiction
     intro hne
     have hx:x ∈ m:=by
       have:=(h x).1 (by simp)
       rcases List.mem_cons.1 this with e | e
       · exact absurd e hne
       · exact e
     have hy:y ∈ l:=by
       have:=(h y).2 (by simp)
       rcases List.mem_cons.1 this with e | e
       · exact absurd e.symm hne
       · exact e
     have:=h1.1 y hy
     have:=h2.1 x hx
     omega
   subst e
   congr 1
   refine JB h1.2 h2.2 fun z=>⟨fun hz=>?_,fun hz=>?_⟩
   · rcases List.mem_cons.1 ((h z).1 (by simp [hz])) with e | e
     · rw [e] at hz;have:=h1.1 x hz;omega
     · exact e
   · rcases List.mem_cons.1 ((h z).2 (by simp [hz])) with e | e
     · rw [e] at hz;have:=h2.1 x hz;omega
     · exact e
def XP (l:List UInt8):List UInt8:=((List.range 256).map UInt8.ofNat).filter fun v=>l.contains v
theorem U5 (l:List UInt8):(XP l).Pairwise (fun x y=>x.toNat < y.toNat):=by
 refine List.Pairwise.filter _ (List.pairwise_map.2 ?_)
 refine List.pairwise_iff_getElem.2 fun i j hi hj hij=>?_
 rw [List.length_range] at hi hj;rw [List.getElem_range,List.getElem_range,UInt8.toNat_ofNat',UInt8.toNat_ofNat']
 omega
theorem Vd (l:List UInt8) (x:UInt8):x ∈ XP l ↔ x ∈ l:=by
 unfold XP
 rw [List.mem_filter,List.contains_iff_mem]
 refine ⟨fun h=>h.2,fun h=>⟨List.mem_map.2 ⟨x.toNat,List.mem_range.2 x.toNat_lt,by simp⟩,h⟩⟩
theorem Ml {l m:List UInt8} (hm:m.Pairwise (fun x y=>x.toNat < y.toNat)) (h:∀ x,x ∈ m ↔ x ∈ l):m=XP l:=JB hm (U5 l) fun x=>(h x).trans (Vd l x).symm
theorem Lj:XP []=[]:=by unfold XP;exact List.filter_eq_nil_iff.2 fun x _=>by simp
def Xb0 (k:Nat) (d:By):List UInt8:=(List.range k).map d
theorem CC (k:Nat) (d:By):(Xb0 k d).length=k:=by unfold Xb0;rw [List.length_map,List.length_range]
theorem DG (k:Nat) (d:By):VX k d=(Xb0 k d).map fun x=>[b8 x]:=by unfold VX Xb0;rw [List.map_map];rfl
theorem Xav {k:Nat} {d:By} (h:Inc k d):∀ {j i:Nat},i < j→j < k→(d i).toNat < (d j).toNat
 | 0,_,h1,_=>by omega
 | j+1,i,h1,h2=>by
   have h3:=h j h2
   rcases Nat.lt_or_ge i j with h4 | h4
   · have:=Xav h h4 (by omega);omega
   · rw [show i=j by omega];exact h3
theorem DH {k n:Nat} {d d1:By} {l:List UInt8} (hi:Inc k d) (ha:Alk k d n d1) (hs:Sm 0 n (ofL l) d1) (hn:n=l.length):Xb0 k d=XP l:=by
 have hof:∀ j,j < l.length→ofL l j ∈ l∧l[j]? = some (ofL l j):=fun j hj=>by
   unfold ofL
   rw [List.getD_eq_getElem?_getD,List.getElem?_eq_getElem hj]
   exact ⟨List.getElem_mem hj,rfl⟩
 refine Ml ?_ fun x=>⟨fun hx=>?_,fun hx=>?_⟩
 · unfold Xb0
   refine List.pairwise_map.2 (List.pairwise_iff_getElem.2 fun i j h1 h2 h3=>?_);rw [List.length_range] at h1 h2;rw [List.getElem_range,List.getElem_range]
   exact Xav hi h3 h2
 · obtain ⟨i,h1,rfl⟩:=List.mem_map.1 hx
   obtain ⟨j,h2,h3⟩:=ha.1 i (List.mem_range.1 h1)
   obtain ⟨q,_,h4,h5⟩:=hs.to j (Nat.zero_le _) h2
   rw [h3,h5]
   exact (hof q (by omega)).1
 · obtain ⟨q,hq⟩:=List.mem_iff_getElem?.1 hx
   have hql:=(List.getElem?_eq_some_iff.1 hq).1
   have e:ofL l q=x:=Option.some.inj ((hof q hql).2.symm.trans hq)
   obtain ⟨j,_,h4,h5⟩:=hs.fro q (Nat.zero_le _) (by omega)
   obtain ⟨i,h1,h2⟩:=ha.2 j h4
   exact List.mem_map.2 ⟨i,List.mem_range.2 h1,by rw [h2,h5,e]⟩
theorem UJ (A:Option Addr) (C:Nat) (l:List UInt8) (w0:World) (hR:RowsAt w0 A 1 (l.map fun x=>[Go.Proofs.YtagnefpgidbhnaaGreatDoor.b8 x])) (hn:l.length≤1000000) :
   Calls Tryz.prog 28 #[.slice A l.length C] w0 fun e w'=>∃ A2 c2,e = .returned (.slice A2 l.length c2)∧Own w0 none w' [.rws 5 1 (.slice A2 l.length c2) (l.map fun x=>[Go.Proofs.YtagnefpgidbhnaaGreatDoor.b8 x])]:=by
 have H:=Own.start w0 none
 have hr:∀ r ∈ (l.map fun x=>[Go.Proofs.YtagnefpgidbhnaaGreatDoor.b8 x]),r.length=1:=by simp
 have h1:∀ r ∈ (l.map fun x=>[Go.Proofs.YtagnefpgidbhnaaGreatDoor.b8 x]),r.all (·.oneCell')=true:=by simp [Go.Proofs.YtagnefpgidbhnaaGreatDoor.b8,Value.oneCell']
 refine XE Tryz.func28 rfl Tryz.ntmps28 rfl (fun a F=>?_);refine cSR fun K1 hK1=>Xa F rfl (qNK hK1 ?_);clear hK1;clear F a;intro a F;refine cSeq (fun K2 hK2=>?_);refine cSR fun K3 hK3=>Xl F rfl (Xj rfl rfl (bNil Tryz.underlying23) (qNK hK3 ?_));clear hK3;clear F a;intro a F
 refine cIf F rfl (fun h4=>?_) (fun h4=>?_)
 ·
  obtain rfl:A=none:=by cases A with | none=>rfl | some a=>cases h4
  obtain rfl:l=[]:=by
   cases l with
   | nil=>rfl
   | cons r rs=>
    obtain ⟨b,o,he,_⟩:=hR 0 _ rfl
    cases he
  refine cSR fun K4 hK4=>Xa F rfl (qNK hK4 ?_);clear hK4;clear F a;intro a F;refine wp_ret ?_;simp only [Exit.then];refine bRet Tryz.results28 F rfl ?_
  exact ⟨none,0,rfl,H.nilRws 5 1⟩
 obtain ⟨a0,rfl⟩:∃ a0,A=some a0:=by cases A with | none=>cases h4 | some a=>exact ⟨a,rfl⟩
 refine wp_skip (hK2 _ _ (cSR fun K5 hK5=>?_));clear hK2;refine sBs (cs:=[]) H Tryz.underlying23 Tryz.sizeOf5 Tryz.zeroValue5 rfl F rfl rfl rfl rfl rfl ?_;clear F a H;intro b5 a w F H
 replace H:=H.emptyRws 1
 refine Xl F rfl ?_;clear F a;intro a F;refine Xce (bytes:=1) H 0 Tryz.underlying23 Tryz.typeInfo5 rfl rfl rfl rfl rfl rfl F rfl rfl rfl rfl rfl (by simp) (((hR.own H).flat hr)) (hr) (h1) ((by simp only [List.length_nil,List.length_map];omega)) ?_;clear F a H;intro A7 c7 a w F H;refine Xa F rfl (qNK hK5 ?_);clear hK5;clear F a;intro a F;refine wp_ret ?_;refine bRet Tryz.results28 F rfl ?_
 (simp only [List.nil_append,List.length_map] at H
  exact ⟨_,_,by simp only [List.nil_append,List.length_map],H.pick 0 rfl⟩)
theorem Nb (A:Option Addr) (c:Nat) (w0:World):Calls Tryz.prog 39 #[.slice A 0 c] w0 fun e w'=>e = .returned (.slice A 0 c)∧Below w0.heap.size w0 w':=by
 have H:=Own.start w0 none
 refine XE Tryz.func39 rfl Tryz.ntmps39 rfl (fun a F=>?_);refine cSR fun K1 hK1=>Xa F rfl (qNK hK1 ?_);clear hK1;clear F a;intro a F;refine cSeq (fun K2 hK2=>?_);refine cSR fun K3 hK3=>Xl F rfl (Xs Tryz.underlying23 rfl (Xj rfl rfl YW (qNK hK3 ?_)));clear hK3;clear F a;intro a F
 refine cIf F rfl (fun h8=>?_) (fun h8=>?_)
 ·
  replace h8:=of_decide_eq_true h8;refine cSR fun K4 hK4=>Xl F rfl (Xh rfl (qNK hK4 ?_));clear hK4;clear F a;intro a F;refine wp_ret ?_;simp only [Exit.then];refine bRet Tryz.results39 F rfl ?_
  exact ⟨rfl,H.below⟩
 replace h8:=of_decide_eq_false h8
 omega
def MB (l:List UInt8) (w0:World) (e:Ending) (w':World):Prop:=∃ A2 c2,e = .returned (.slice A2 (XP l).length c2)∧Own w0 none w' [.rws 5 1 (.slice A2 (XP l).length c2) ((XP l).map fun x=>[Go.Proofs.YtagnefpgidbhnaaGreatDoor.b8 x])]
theorem Qo (A:Option Addr) (C:Nat) (w0:World):Calls Tryz.prog 24 #[.slice A 0 C] w0 (MB [] w0):=by
 have H:=Own.start w0 none
 refine XE Tryz.func24 rfl Tryz.ntmps24 rfl (fun a F=>?_);refine cSR fun K1 hK1=>Xa F rfl (qNK hK1 (qSR fun K2 hK2=>Xd rfl ?_));clear hK1;clear F a;intro a F;refine Xn Tryz.call28 F rfl (UJ A C [] _ (show RowsAt _ A 1 [] from fun j cs h=>by simp at h) (Nat.zero_le _)) ?_;rintro e w ⟨A2,c2,rfl,H2⟩;replace H:=H.join H2;clear H2;refine ⟨_,rfl,?_⟩;clear F a;intro a F;refine Xa F rfl (qNK hK2 (qSR fun K3 hK3=>Xd rfl ?_));clear hK2;clear F a;intro a F;refine Xn Tryz.call38 F rfl (EQ A2 c2 _) (gG H ?_);clear F a H;intro a w F H;refine nK hK3 (cSR fun K4 hK4=>Xl F rfl ?_);clear hK3;clear F a;intro a F;refine Xn Tryz.call39 F rfl (Nb A2 c2 _) (gG H ?_);clear F a H;intro a w F H;refine Xa F rfl (qNK hK4 ?_);clear hK4;clear F a;intro a F;refine wp_ret ?_;refine bRet Tryz.results24 F rfl ?_
 exact ⟨A2,c2,by rw [Lj];rfl,by rw [Lj];exact H.sel [0] rfl rfl⟩
theorem Qn (A:Option Addr) (C:Nat) (l:List UInt8) (w0:World) (hR:RowsAt w0 A 1 (l.map fun x=>[Go.Proofs.YtagnefpgidbhnaaGreatDoor.b8 x])) (hn:l.length≤1000000) (h0:0 < l.length):Calls Tryz.prog 24 #[.slice A l.length C] w0 (MB l w0):=by
 have H:=Own.start w0 none
 refine XE Tryz.func24 rfl Tryz.ntmps24 rfl (fun a F=>?_);refine cSR fun K1 hK1=>Xa F rfl (qNK hK1 (qSR fun K2 hK2=>Xd rfl ?_));clear hK1;clear F a;intro a F;refine Xn Tryz.call28 F rfl (UJ A C l _ (hR.own H) hn) ?_;rintro e w ⟨A2,c2,rfl,H2⟩;replace H:=H.join H2
 clear H2
 obtain ⟨g,rfl⟩:=H.rwsAddr 0 rfl (by rw [List.length_map];exact h0)
 rw [B5] at H;refine ⟨_,rfl,?_⟩;clear F a;intro a F;refine Xa F rfl (qNK hK2 (qSR fun K3 hK3=>Xd rfl ?_));clear hK2;clear F a;intro a F;refine Xn Tryz.call38 F rfl (EP g l.length c2 _ w0 none [] _ H hn) ?_;rintro e w ⟨rfl,d1,hs1,hr1,H2⟩
 replace H:=H2;clear H2
 refine ⟨_,rfl,?_⟩;clear F a;intro a F;refine nK hK3 (cSR fun K4 hK4=>Xl F rfl ?_);clear hK3;clear F a;intro a F;refine Xn Tryz.call39 F rfl (Na g l.length c2 _ w0 none [] _ H hn h0 hr1) ?_;rintro e w ⟨k,d2,rfl,hk0,hkn,hinc,halk,H2⟩
 replace H:=H2;clear H2
 refine ⟨_,rfl,?_⟩;clear F a;intro a F;refine Xa F rfl (qNK hK4 ?_);clear hK4;clear F a;intro a F;refine wp_ret ?_;refine bRet Tryz.results24 F rfl ?_
 have e:=DH hinc halk hs1 rfl
 have el:k=(XP l).length:=by rw [← e,CC]
 refine ⟨some ⟨g,0,none⟩,c2,by rw [← el],?_⟩
 rw [← el,← e,← DG]
 exact H
theorem WW (A:Option Addr) (C:Nat) (l:List UInt8) (w0:World) (hR:RowsAt w0 A 1 (l.map fun x=>[Go.Proofs.YtagnefpgidbhnaaGreatDoor.b8 x])) (hn:l.length≤1000000):Calls Tryz.prog 24 #[.slice A l.length C] w0 (MB l w0):=by
 rcases Nat.eq_zero_or_pos l.length with h0 | h0
 · obtain rfl:=List.eq_nil_of_length_eq_zero h0
   exact Qo A C w0
 · exact Qn A C l w0 hR hn h0
-- SqA
open Go.RowKit
set_option maxRecDepth 100000
structure Calm (G:Fence):Prop where
 fn:∀ f,G.fn f
 dep:G.depth=none
 calls:∀ {m:Nat} {P:Program} {f:FuncId} {args:Array Value} {w:World} {R:Ending→World→Prop},Calls P f args w R→CallsIn G m P f args w R
 rows:∀ {m:Nat} {P:Program} {row:String} {args:Array Value} {w:World} {R:Value→World→Prop},Rows P row args w R→RowsIn G m P row args w R
theorem GT:Calm Fence.wide:=⟨fun _=>trivial,rfl,fun h=>callsIn_wide.2 h,fun h c cs _=>let ⟨v,w',r,s⟩:=h c cs;⟨v,w',r,stepsIn_wide.2 s⟩⟩
theorem UK (l:Nat):Calm (Fence.wide.inRound l):=⟨fun _=>trivial,rfl,fun h=>CallsIn.inRound l (callsIn_wide.2 h),fun h c cs _=>let ⟨v,w',r,s⟩:=h c cs;⟨v,w',r,stepsIn_wide.2 s⟩⟩
def Xbj (l:List Oper):Bool:=l.all fun o=>match o.op with | .defer _=>false | _=>true
theorem M1 {l:List Oper} (h:Xbj l=true) {o:Oper} (ho:o ∈ l):∀ c,o.op ≠ .defer c:=fun c e=>by
 have:=List.all_eq_true.1 h o ho
 rw [e] at this
 cases this
abbrev wD (a:Act) (ds:List Deferred):Act:={ a with defers:=ds }
theorem UR (a:Act) (ds:List Deferred) (d:Option Tmp) (v:Value):(wD a ds).put d v=wD (a.put d v) ds:=by cases d <;> rfl
theorem WV (a:Act) (ds:List Deferred):(wD a ds).eval=a.eval:=funext fun x=>by cases x <;> rfl
def Qd (ds:List Deferred) (Q:Exit→Act→World→Prop):Exit→Act→World→Prop:=fun e a w=>a.defers=[]∧Q e (wD a ds) w
theorem WR {a:Act} {d:Option Tmp} {v:Value} (h:(a.put d v).defers=[]):a.defers=[]:=by cases d <;> exact h
section
variable {P:Program} {Q:Exit→Act→World→Prop} {ds:List Deferred} {G:Fence} {n:Nat}
theorem L5 (ho:LetsOut Q→False):LetsOut (Qd ds Q)→False:=fun ⟨_,_,h⟩=>ho ⟨_,_,h.2⟩
theorem M0 {o:Oper} {a:Act} {next:Act→World→Prop} (ho:LetsOut Q→False) (hn:∀ a w,next a w→a.defers=[]) {r:Result Next} (h:o.upon P a next (Qd ds Q) r):a.defers=[]:=by
 cases r with
 | ok x w'=>
   cases x with
   | value v=>exact WR (hn _ _ h)
   | skip=>exact WR (hn _ _ h)
   | defer d=>have:=WR (hn _ _ h);cases this
   | enter f args=>
     obtain ⟨e,w2,fr,hR,_⟩:=(h:Calls P f args w' _) []
     cases e with
     | returned v=>exact WR (hn _ _ hR)
     | panicked c=>exact hR.1
     | outgrown=>exact (L5 ho hR).elim
   | row row args=>
     obtain ⟨v,w2,hR,_⟩:=(h:Rows P row args w' _) default []
     exact WR (hn _ _ hR)
   | _=>exact h.elim
 | halt x w'=>
   cases x with
   | panic v=>exact h.1
   | _=>exact h.elim
theorem J2 {ops:Array Oper} (ho:LetsOut Q→False):∀ (l:List Oper) (a:Act) (w:World),wpList P ops (Qd ds Q) l a w→a.defers=[]
 | [],_,_,h=>h.1
 | o :: l,a,w,h=>by
   unfold wpList at h
   split at h
   · rcases h with h | ⟨_,h⟩
     · exact M0 ho (fun a w h=>J2 ho l a w h) h
     · exact (L5 ho h).elim
   · exact WR (J2 ho l _ _ h)
theorem ED (hG:Calm G) {o:Oper} {a:Act} {next next':Act→World→Prop} (ho:LetsOut Q→False) (hk:∀ a w,next a w→next' (wD a ds) w) (hn:∀ a w,next a w→a.defers=[]) {r:Result Next} (h:o.upon P a next (Qd ds Q) r):o.uponIn G n P (wD a ds) next' Q r:=by
 have hd:G.depth.isSome=true→1≤n:=fun h=>by rw [hG.dep] at h;cases h
 cases r with
 | ok x w'=>
   cases x with
   | value v=>show next' ((wD a ds).put _ _) _;rw [UR];exact hk _ _ h
   | skip=>show next' ((wD a ds).put _ _) _;rw [UR];exact hk _ _ h
   | defer d=>have:=WR (hn _ _ h);cases this
   | enter f args=>
     refine ⟨hd,hG.calls (Calls.mono h fun e w2 he=>?_)⟩
     cases e with
     | returned v=>show next' ((wD a ds).put _ _) _;rw [UR];exact hk _ _ he
     | panicked c=>exact he.2
     | outgrown=>exact (L5 ho he).elim
   | row row args=>
     refine ⟨hd,hG.rows (Rows.mono h fun v w2 he=>?_)⟩
     show next' ((wD a ds).put _ _) _;rw [UR];exact hk _ _ he
   | _=>exact h.elim
 | halt x w'=>
   cases x with
   | panic v=>exact h.2
   | _=>exact h.elim
theorem N7 (hG:Calm G) {ops:Array Oper} (ho:LetsOut Q→False):∀ (l:List Oper),(∀ o ∈ l,∀ c,o.op ≠ .defer c)→∀ (a:Act) (w:World),wpList P ops (Qd ds Q) l a w→wpListIn G n P ops Q l (wD a ds) w
 | [],_,_,_,h=>h.2
 | o :: l,hl,a,w,h=>by
   unfold wpList at h
   unfold wpListIn
   split at h
   · rename_i hw
     rw [if_pos hw]
     rcases h with h | ⟨_,h⟩
     · refine ⟨fun f _=>hG.fn f,?_⟩
       rw [Oper.semAt_eq _ _ _ (hl o (by simp)),WV]
       exact ED hG ho (fun a w h=>N7 hG ho l (fun o hm=>hl o (by simp [hm])) a w h) (fun a w h=>J2 ho l a w h) h
     · exact (L5 ho h).elim
   · rename_i hw
     rw [if_neg hw]
     refine ⟨fun f _=>hG.fn f,?_⟩
     rw [UR]
     exact N7 hG ho l (fun o hm=>hl o (by simp [hm])) _ _ h
theorem Xcv {ops:Array Oper} {i:Nat} {K:Act→World→Prop} {a:Act} {w:World} (ho:LetsOut Q→False) (hn:∀ a w,K a w→a.defers=[]) (h:wpOp P ops (Qd ds Q) i K a w):a.defers=[]:=by
 unfold wpOp at h
 split at h
 · exact hn _ _ h
 · split at h
   · rcases h with h | ⟨_,h⟩
     · exact M0 ho hn h
     · exact (L5 ho h).elim
   · exact WR (hn _ _ h)
theorem Du {ops:Array Oper} (ho:LetsOut Q→False):∀ (fuel:Nat) (listed:Array Bool) (a:Act) (w:World),wpAny P .any ops (Qd ds Q) fuel listed a w→a.defers=[]
 | 0,_,_,_,h=>h.2.1
 | fuel+1,listed,a,w,h=>by
   cases hr:Region.ready .any ops listed with
   | nil=>exact (h.1 hr).1
   | cons i r=>exact Xcv ho (fun a w h=>Du ho fuel _ a w h) (h.2 i (by rw [hr];simp))
theorem op_in (hG:Calm G) {ops:Array Oper} (hd:∀ o ∈ ops.toList,∀ c,o.op ≠ .defer c) {i:Nat} {K K':Act→World→Prop} {a:Act} {w:World} (ho:LetsOut Q→False) (hk:∀ a w,K a w→K' (wD a ds) w) (hn:∀ a w,K a w→a.defers=[]) (h:wpOp P ops (Qd ds Q) i K a w):wpOpIn G n P ops Q i K' (wD a ds) w:=by
 unfold wpOp at h
 unfold wpOpIn
 split at h
 · rename_i hi;simp only [hi];exact hk _ _ h
 · rename_i o hi
   simp only [hi]
   split at h
   · rename_i hw
     rw [if_pos hw]
     rcases h with h | ⟨_,h⟩
     · refine ⟨fun f _=>hG.fn f,?_⟩
       rw [Oper.semAt_eq _ _ _ (hd o (Array.mem_toList_iff.2 (Array.mem_of_getElem? hi))),WV]
       exact ED hG ho hk hn h
     · exact (L5 ho h).elim
   · rename_i hw
     rw [if_neg hw]
     refine ⟨fun f _=>hG.fn f,?_⟩
     rw [UR]
     exact hk _ _ h
theorem XaK (hG:Calm G) {ops:Array Oper} (hd:∀ o ∈ ops.toList,∀ c,o.op ≠ .defer c) (ho:LetsOut Q→False):∀ (fuel:Nat) (listed:Array Bool) (a:Act) (w:World),wpAny P .any ops (Qd ds Q) fuel listed a w→wpAnyIn G n P .any ops Q fuel listed (wD a ds) w
 | 0,_,_,_,h=>⟨h.1,h.2.2⟩
 | fuel+1,listed,a,w,h=>⟨fun hr=>(h.1 hr).2,fun i hi=>op_in hG hd ho (fun a w h=>XaK hG hd ho fuel _ a w h) (fun a w h=>Du ho fuel _ a w h) (h.2 i hi)⟩
end
-- SqB
open Go.RowKit
set_option maxRecDepth 100000
theorem EA {N:Nat} {a:Act} {env:List (Nat × Value)} (F:Has N a env):wD a []=a:=by
 have:=F.nod
 cases a
 simp_all
def Dw (Q:Exit→Act→World→Prop):Exit→Act→World→Prop
 | .outgrown,_,_=>False
 | e,a,w=>Q e a w
theorem toMd {P:Program} {c:Code} {Q:Exit→Act→World→Prop} {N:Nat} {a:Act} {env:List (Nat × Value)} {w:World} (F:Has N a env) (h:c.wpIn Fence.wide 0 P (Dw Q) (wD a []) w):c.wp P Q a w:=by
 rw [EA F] at h
 exact wp_mono (wpIn_wide.1 h) (fun e a w h=>by cases e <;> first | exact h | exact h.elim)
def Xc4 (ds:List Deferred) (N:Nat) (a':Act) (e:List (Nat × Value)):Prop:=∃ a,a'=wD a ds∧Has N a e
theorem Has.toD {N:Nat} {a:Act} {env e:List (Nat × Value)} {ds:List Deferred} (F:Has N a env) (h:Le e env):Xc4 ds N (wD a ds) e:=⟨a,rfl,F.to h⟩
namespace Md
variable {P:Program} {l:List Oper} {Q:Exit→Act→World→Prop} {S:World→Prop} {N:Nat} {a:Act} {env:List (Nat × Value)} {w w0:World} {row:Option Nat} {rs:List Res} {ds:List Deferred} {G:Fence} {n:Nat}
theorem cSeq {x y:Code} (h:∀ K:Act→World→Prop,(∀ a w,y.wpIn G n P Q a w→K a w)→x.wpIn G n P (Exit.then K Q) (wD a ds) w):(Code.seq x y).wpIn G n P Q (wD a ds) w:=wpIn_seq_k h
theorem cReg {id:Nat} (h:wpList P l.toArray (Qd ds Q) l a w) (hG:Calm G:=by first | exact GT | exact UK _) (hd:Xbj l=true:=by rfl) (ho:LetsOut Q→False:=by exact fun ⟨_,_,h⟩=>h):(Code.region id l.toArray false).wpIn G n P Q (wD a ds) w:=
 wpIn_region_lit (N7 hG ho l (fun _ hm=>M1 hd hm) a w h)
theorem sNil (K:Q .normal (wD a ds) w) (F:Has N a env:=by assumption):wpList P l.toArray (Qd ds Q) [] a w:=⟨F.nod,K⟩
theorem cIfT {c:Operand} {x y:Code} (F:Has N a env) (hc:ev env c=some (.bool true)) (h:x.wpIn G n P Q (wD a ds) w):(Code.cond c x y).wpIn G n P Q (wD a ds) w:=wpIn_cond_true (by rw [WV];exact F.eval hc) h
theorem cIfF {c:Operand} {x y:Code} (F:Has N a env) (hc:ev env c=some (.bool false)) (h:y.wpIn G n P Q (wD a ds) w):(Code.cond c x y).wpIn G n P Q (wD a ds) w:=wpIn_cond_false (by rw [WV];exact F.eval hc) h
theorem cIf {c:Operand} {x y:Code} {b:Bool} (F:Has N a env) (hc:ev env c=some (.bool b)) (h1:b=true→x.wpIn G n P Q (wD a ds) w) (h2:b=false→y.wpIn G n P Q (wD a ds) w):(Code.cond c x y).wpIn G n P Q (wD a ds) w:=wpIn_cond_split (by rw [WV];exact F.eval hc) h1 h2
theorem cRegRO {id:Nat} (hm:P.follows .mixedOrders=true) (_H:Own w0 row w rs) (h:wpR P l (Qd ds Q) (fun w=>Own w0 row w rs) 0 (List.replicate l.length false) a w.drew) (hG:Calm G:=by first | exact GT | exact UK _) (hd:Xbj l=true:=by rfl) (ho:LetsOut Q→False:=by exact fun ⟨_,_,h⟩=>h):(Code.region id l.toArray true).wpIn G n P Q (wD a ds) w:=by
 refine wpIn_region_any hm ?_
 have hc:Closed l (List.replicate l.length false).toArray:=fun j o hj hl e he hb=>by
   exfalso
   simp only [Array.getD_eq_getD_getElem?,List.getElem?_toArray,List.getElem?_replicate] at hl
   split at hl <;> simp at hl
 have:=Ve _ _ _ _ _ (h hc (Nat.zero_le _))
 rw [List.size_toArray,show Array.replicate l.length false=(List.replicate l.length false).toArray by simp]
 exact XaK hG (fun _ hm=>M1 hd (by simpa using hm)) ho _ _ _ _ this
theorem eNil {k:Nat} {m:List Bool} (ht:(Nat.beq k l.length && (Region.ready .any l.toArray m.toArray).isEmpty)=true) (K:Q .normal (wD a ds) w) (F:Has N a env:=by assumption):wpR P l (Qd ds Q) S k m a w:=Go.Proofs.YtagnefpgidbhnaaGreatDoor.eNil ht ⟨F.nod,K⟩
theorem wp_block {id:Nat} {c:Code} (h:c.wpIn G n P (Exit.inBlock id Q) (wD a ds) w):(Code.block id c).wpIn G n P Q (wD a ds) w:=wpIn_block h
theorem wp_exit {id:Nat} (h:Q (.exit id) (wD a ds) w):(Code.exit id).wpIn G n P Q (wD a ds) w:=wpIn_exit h
theorem wp_ret (h:Q .ret (wD a ds) w):Code.ret.wpIn G n P Q (wD a ds) w:=wpIn_ret h
theorem wp_skip (h:Q .normal (wD a ds) w):Code.skip.wpIn G n P Q (wD a ds) w:=wpIn_skip h
theorem cSeqJ {x y:Code} (ks:List Nat) (I:List (Nat × Value)→World→Prop) (_F:Has N a env) {e:List (Nat × Value)} (_hs:SubR env ks e)
   (h1:x.wpIn G n P (Exit.then (fun a' w'=>∃ ups,I ups w'∧Xc4 ds N a' (ups++e)) Q) (wD a ds) w) (h2:∀ ups a w,I ups w→Has N a (ups++e)→y.wpIn G n P Q (wD a ds) w):(Code.seq x y).wpIn G n P Q (wD a ds) w:=
 wpIn_seq (wpIn_mono h1 (fun e a' w' h=>by
   cases e with
   | normal=>obtain ⟨ups,hI,a0,rfl,hF⟩:=h;exact h2 ups a0 w' hI hF
   | _=>exact h))
theorem cSeqS {x y:Code} (ks:List Nat) (I:List (Nat × Value)→World→Prop) (_F:Has N a env) {e:List (Nat × Value)} (h1:x.wpIn G n P (Exit.then (fun a' w'=>∃ ups,I ups w'∧Xc4 ds N a' (ups++e)) Q) (wD a ds) w) (h2:∀ ups a w,I ups w→Has N a (ups++e)→y.wpIn G n P Q (wD a ds) w) (_hs:SubR env ks e:=by repeat (first | exact SubR.nil | (apply SubR.cons;· rfl))):(Code.seq x y).wpIn G n P Q (wD a ds) w:=cSeqJ ks I _F _hs h1 h2
theorem cLoopR {c:Code} (ks:List Nat) (I:Nat→List (Nat × Value)→World→Prop) (F:Has N a env) (m0:Nat) (ups:List (Nat × Value)) {e:List (Nat × Value)} (hs:SubR env ks e) (h0:I m0 ups w) (hu:Le ups env)
   (round:∀ m ups a w,I m ups w→Has N a (ups++e)→c.wpIn G n P (Exit.then (fun a' w'=>∃ m',m' < m∧∃ ups',I m' ups' w'∧Xc4 ds N a' (ups'++e)) Q) (wD a ds) w):(Code.loop c).wpIn G n P Q (wD a ds) w:=by
 have hle:∀ l:List (Nat × Value),Le l env→Le (l++e) env:=fun l hl=>by
   induction l with
   | nil=>exact hs.le
   | cons p r ih=>exact ⟨hl.1,ih hl.2⟩
 intro b k cs hro hb hr
 have main:∀ m ups a w,I m ups w→Has N a (ups++e)→∃ e a' w',Q e a' w'∧ArrivesIn (Machine.fenced P G) P (lone (b.atR (wD a ds) (.code c :: .inLoop c :: k)) cs w) b k cs e a' w':=by
   intro m
   induction m using Nat.strongRecOn with
   | _ m ih=>
     intro ups a w hI hF
     obtain ⟨x,a1,w1,hq,harr⟩:=round m ups a w hI hF b (.inLoop c :: k) cs hro hb hr
     cases x with
     | normal=>
       obtain ⟨m',hlt,ups',hI',a0,rfl,hF'⟩:=hq
       obtain ⟨e2,a2,w2,hq2,harr2⟩:=ih m' hlt ups' a0 w1 hI' hF'
       exact ⟨e2,a2,w2,hq2,.of_steps (StepsIn.trans harr (.one (fenced_calm hb hr rfl) stepR_inLoop)) harr2⟩
     | exit id=>exact ⟨_,a1,w1,hq,.pass (x:=.inLoop c) rfl (fun _ _=>.inl (by simp)) harr⟩
     | goto id=>exact ⟨_,a1,w1,hq,.pass (x:=.inLoop c) rfl (fun _ _=>.inl (by simp)) harr⟩
     | ret=>exact ⟨_,a1,w1,hq,.pass (x:=.inLoop c) rfl (fun _ _=>.inl (by simp)) harr⟩
     | panic ch=>exact ⟨_,a1,w1,hq,.pass (x:=.inLoop c) rfl (fun _ _=>.inl (by simp)) harr⟩
     | outgrown=>exact ⟨_,a1,w1,hq,.pass (x:=.inLoop c) rfl (fun _ _=>.inl (by simp)) harr⟩
 obtain ⟨x,a',w',hq,harr⟩:=main m0 ups a w h0 (F.to (hle ups hu))
 exact ⟨x,a',w',hq,.of_steps (.one (fenced_calm hb hr rfl) stepR_loop) harr⟩
theorem cLoopS {c:Code} (ks:List Nat) (I:Nat→List (Nat × Value)→World→Prop) (F:Has N a env) (m0:Nat) (ups:List (Nat × Value)) {e:List (Nat × Value)} (h0:I m0 ups w) (round:∀ m ups a w,I m ups w→Has N a (ups++e)→c.wpIn G n P (Exit.then (fun a' w'=>∃ m',m' < m∧∃ ups',I m' ups' w'∧Xc4 ds N a' (ups'++e)) Q) (wD a ds) w) (hs:SubR env ks e:=by repeat (first | exact SubR.nil | (apply SubR.cons;· rfl))) (hu:Le ups env:=by repeat (first | exact trivial | refine Le.cons rfl ?_)):(Code.loop c).wpIn G n P Q (wD a ds) w:=cLoopR ks I F m0 ups hs h0 hu round
theorem bRet {fn:Func} {R:Ending→World→Prop} {t:Tmp} {v:Value} (hres:fn.results = #[.tmp t]) (F:Has N a env) (hv:lk env t=some v) (h:R (.returned v) w):Dw (bodyPost P fn R) .ret (wD a []) w:=by
 show bodyPost P fn R .ret (wD a []) w
 rw [EA F];exact Go.Proofs.YtagnefpgidbhnaaGreatDoor.bRet hres F hv h
theorem bEnd {fn:Func} {R:Ending→World→Prop} (hres:fn.results = #[]) (F:Has N a env) (h:R (.returned (.tuple #[])) w):Dw (bodyPost P fn R) .normal (wD a []) w:=by
 show bodyPost P fn R .normal (wD a []) w
 rw [EA F];exact Go.Proofs.YtagnefpgidbhnaaGreatDoor.bEnd hres F h
/-! ### One operation at a time, in the fence -/
variable {ops:Array Oper} {rest:List Oper} {d:Tmp} {ty:TypeId} {pos:String} {af:Array Edge} {g:Option (Nat × Bool)}
theorem iV {o:Oper} {v:Value} (F:Has N a env) (hg:wants l env o.guard=true) (hdst:o.dst=some d) (hN:Nat.blt d N=true) (hdf:∀ c,o.op ≠ .defer c)
   (hr:(execOp a.eval o).run P w = .ok (.value v) w) (K:∀ a,Has N a ((d,v) :: env)→wpListIn G n P l.toArray Q rest (wD a ds) w) (hG:Calm G:=by first | exact GT | exact UK _):wpListIn G n P l.toArray Q (o :: rest) (wD a ds) w:=by
 unfold wpListIn
 rw [if_pos (YJ F hg)]
 refine ⟨fun f _=>hG.fn f,?_⟩
 rw [Oper.semAt_eq _ _ _ hdf,WV,hr,Oper.uponIn_value,hdst,UR]
 exact K _ (F.put hN)
theorem iY {x y:Operand} {lp:Nat} {arg:Value} {R:Ending→World→Prop} (F:Has N a env) (hg:wants l env g=true) (hN:Nat.blt d N=true) (hx:ev env x=some (.func (.yield lp) #[] #[])) (hy:ev env y=some arg) {ts:Array TypeId}
   (hY:YieldAt Fence.wide 0 P lp #[arg] w R) (K:∀ e w,R e w→∃ v,e = .returned v∧∀ a,Has N a ((d,v) :: env)→wpListIn Fence.wide 0 P l.toArray Q rest (wD a ds) w) :
   wpListIn Fence.wide 0 P l.toArray Q (⟨some d,.call ⟨.value x,#[y],ts⟩,ty,pos,af,g⟩ :: rest) (wD a ds) w:=by
 unfold wpListIn
 rw [if_pos (YJ (o:=⟨some d,.call ⟨.value x,#[y],ts⟩,ty,pos,af,g⟩) F hg)]
 refine ⟨fun f _=>trivial,?_⟩
 obtain ⟨fn,tmps,asg,body,hrun,hround⟩:=hY
 have hr:(execOp a.eval ⟨some d,.call ⟨.value x,#[y],ts⟩,ty,pos,af,g⟩).run P w = .ok (.round lp fn tmps asg body) w:=by
   simp only [execOp,resolve,List.map_toArray,List.map_cons,List.map_nil,F.eval hx,F.eval hy]
   simp [Deferred.ofValue,invoke,hrun,go_sem]
 rw [Oper.semAt_eq _ _ _ (fun c h=>by cases h),WV,hr,Oper.uponIn_round]
 refine ⟨fun h=>(by cases h),hround.mono fun e w' he=>?_⟩
 obtain ⟨v,rfl,hk⟩:=K e w' he
 show wpListIn _ _ _ _ _ _ ((wD a ds).put _ _) _
 rw [UR]
 exact hk _ (F.put hN)
theorem iNil (K:Q .normal (wD a ds) w):wpListIn G n P l.toArray Q [] (wD a ds) w:=K
end Md
-- SqC
open Go.RowKit
set_option maxRecDepth 100000
def Res.obj (b:Nat) (o:Obj):Res:=⟨(· = b),fun w=>w.heap[b]? = some o,fun _ _ h hp=>(h b rfl).trans hp⟩
section
variable {w0 w:World} {row:Option Nat} {rs qs:List Res}
theorem Own.perm (H:Own w0 row w rs) (hp:rs.Perm qs):Own w0 row w qs:=by
 have hpw:rs.Pairwise (fun r s=>(∀ b,r.foot b→¬ s.foot b)∧∀ b,s.foot b→¬ r.foot b):=List.pairwise_iff_getElem.2 fun i j hi hj hij=>
   ⟨H.apart i j _ _ (List.getElem?_eq_getElem hi) (List.getElem?_eq_getElem hj) (by omega),H.apart j i _ _ (List.getElem?_eq_getElem hj) (List.getElem?_eq_getElem hi) (by omega)⟩
 have hqw:=(hp.pairwise_iff (fun {x y} h=>⟨h.2,h.1⟩)).1 hpw
 have hmem:∀ (i:Nat) (r:Res),qs[i]? = some r→∃ j,rs[j]? = some r:=fun i r h=>List.mem_iff_getElem?.1 (hp.mem_iff.2 (List.mem_of_getElem? h))
 refine ⟨H.grown,fun i r h=>?_,fun i r h=>?_,fun i j r s hi hj hij=>?_⟩
 · obtain ⟨j,hj⟩:=hmem i r h;exact H.pred j r hj
 · obtain ⟨j,hj⟩:=hmem i r h;exact H.foot j r hj
 · obtain ⟨h1,e1⟩:=List.getElem?_eq_some_iff.1 hi
   obtain ⟨h2,e2⟩:=List.getElem?_eq_some_iff.1 hj
   subst e1 e2
   rcases Nat.lt_or_ge i j with h | h
   · exact (List.pairwise_iff_getElem.1 hqw i j h1 h2 h).1
   · exact (List.pairwise_iff_getElem.1 hqw j i h2 h1 (by omega)).2
theorem Own.newObj (H:Own w0 row w rs) (o:Obj):Own w0 row (w.alloc o) (.obj w.heap.size o :: rs):=
 H.add (.obj w.heap.size o) ((Below.refl _ w).alloc (Nat.le_refl _) o) (World.alloc_heap_new w o) (fun b hb=>by
   have hb:b=w.heap.size:=hb
   subst hb
   exact ⟨Nat.le_refl _,by simp⟩)
theorem Own.putO (H:Own w0 .none w rs) (i:Nat) {b:Nat} {o:Obj} (hi:rs[i]? = some (.obj b o)) (o':Obj):Own w0 .none (w.putObj b o') (rs.set i (.obj b o')):=by
 have hf:=H.foot i _ hi b rfl
 have hb:w0.heap.size≤b:=by
   rcases hf.1 with h | h
   · exact h
   · cases h
 refine H.turn i hi (.obj b o') ⟨H.grown.os,H.grown.tape,H.grown.output,by simpa using H.grown.size,fun k hk hne=>?_⟩ (by simp) (fun c hc hnc=>?_) (World.putObj_heap_same hf.2) (fun c hc=>?_)
 · exact (World.putObj_heap_other (by omega)).trans (H.grown.block k hk hne)
 · exact World.putObj_heap_other (fun e=>hnc e)
 · have hc:c=b:=hc
   subst hc
   exact ⟨.inl rfl,by simpa using hf.2⟩
end
variable {α:Type}
def Iter (P:Program) (gf:Nat) (lb:Array Value) (T:TypeId) (cells:α→List Value) (ok:α→Prop) (all:List α) (w0:World) (ts:List Res):Prop:=
 ∀ (lp:Nat) (J Jx:List α→List Res→Prop) (w:World) (ps:List Res),Own w0 none w (ps++ts)→J [] ps →
   (∀ (pre:List α) (x:α) (b:Nat) (w1:World) (ps1 qs:List Res),J pre ps1→pre++[x] <+: all→ok x→Own w0 none w1 (.blk b (cells x) T :: (ps1++qs)) →
     YieldAt Fence.wide 0 P lp #[.pointer (some ⟨b,0,none⟩)] w1 fun e w2=>∃ ps2,Own w0 none w2 (.blk b (cells x) T :: (ps2++qs))∧((e = .returned (.bool true)∧J (pre++[x]) ps2)∨(e = .returned (.bool false)∧Jx (pre++[x]) ps2))) →
   CallsIn Fence.wide 0 P gf (#[.func (.yield lp) #[] #[]]++lb) w fun e w'=>(∃ v,e = .returned v)∧∃ ps',Own w0 none w' (ps'++ts)∧(J all ps'∨∃ pre,pre <+: all∧Jx pre ps')
def Cl (I:List α→List Res→Prop) (Ix:Code→List α→List Res→Prop) (xs:List α) (O:List Res→World→Prop):Exit→Act→World→Prop
 | .normal,_,w=>∃ ps2,I xs ps2∧O ps2 w
 | .ret,_,w=>∃ ps2,Ix .ret xs ps2∧O ps2 w
 | .exit id,_,w=>∃ ps2,Ix (.exit id) xs ps2∧O ps2 w
 | .goto t,_,w=>∃ ps2,Ix (.goto t) xs ps2∧O ps2 w
 | .panic _,_,_=>False
 | .outgrown,_,_=>False
abbrev LZ (D:Nat):Deferred:={ target:=.collected D,args:=#[] }
theorem rfOwn {P:Program} {g:Operand} {p:Tmp} {assign body:Code} {Q:Exit→Act→World→Prop} {N:Nat} {a:Act} {env:List (Nat × Value)} {ds:List Deferred} {w0 w:World} {us ts:List Res}
   {gf:Nat} {lb:Array Value} {T:TypeId} {cells:α→List Value} {ok:α→Prop} {all:List α} (F:Has N a env) (hpN:Nat.blt p N=true) (hg:ev env g=some (.func (.func gf) #[] lb)) (eg:∀ args w,(callFunc gf args).run P w = .ok (.enter gf args) w)
   (H:Own w0 none w (us++ts)) (hit:Iter P gf lb T cells ok all w0 ts) (I:List α→List Res→Prop) (Ix:Code→List α→List Res→Prop) (h0:I [] us) (asg:Value→List (Nat × Value))
   (hassign:∀ (l:Nat) (a1:Act) (W:World) (v:Value) (K:Act→World→Prop),Has N a1 ((p,v) :: env)→(∀ a2,Has N a2 (asg v++(p,v) :: env)→K (wD a2 []) W)→assign.wpIn (Fence.wide.inRound l) 0 P (Exit.then K (fun _ _ _=>False)) (wD a1 []) W)
   (hbody:∀ (l:Nat) (pre:List α) (x:α) (b:Nat) (W:World) (ps1 qs:List Res) (a2:Act),I pre ps1→pre++[x] <+: all→ok x→Own w0 none W (.blk b (cells x) T :: (ps1++qs))→Has N a2 (asg (.pointer (some ⟨b,0,none⟩))++(p,.pointer (some ⟨b,0,none⟩)) :: env) →
     body.wpIn (Fence.wide.inRound l) 0 P (Cl I Ix (pre++[x]) (fun ps2 w2=>Own w0 none w2 (.blk b (cells x) T :: (ps2++qs)))) (wD a2 []) W)
   (hdone:∀ (D:Nat) (W:World) (us':List Res),I all us'→Own w0 none W (.obj D (.deferred (some [])) :: (us'++ts))→Q .normal (wD a (LZ D :: ds)) W)
   (hstop:∀ (D:Nat) (c:Code) (pre:List α) (W:World) (us':List Res),pre <+: all→Ix c pre us'→Own w0 none W (.obj D (.deferred (some [])) :: (us'++ts))→c.wpIn Fence.wide 0 P Q (wD a (LZ D :: ds)) W) :
   (Code.rangeFunc g #[p] assign body).wpIn Fence.wide 0 P Q (wD a ds) w:=by
 refine wpIn_rangeFunc ?_
 intro fn hfn
 obtain ⟨D,hD⟩:∃ D,D=w.heap.size:=⟨_,rfl⟩
 obtain ⟨rec,hrec⟩:∃ rec:LoopState→Option Code→Loop,rec=fun st pe=>{ state:=st,pending:=pe,fn,tmps:=a.tmps,params:=#[p],assign,body,defers:=D }:=⟨_,rfl⟩
 have HD:Own w0 none (w.alloc (.deferred (some []))) (.obj D (.deferred (some [])) :: (us++ts)):=by rw [hD];exact H.newObj _
 have HL:Own w0 none ((w.alloc (.deferred (some []))).alloc (.loop (rec .ready none))) (.obj (D+1) (.loop (rec .ready none)) :: .obj D (.deferred (some [])) :: (us++ts)):=by
   have:=HD.newObj (.loop (rec .ready none))
   rw [World.size_alloc,← hD] at this
   exact this
 obtain ⟨W1,hW1⟩:∃ W1,(w.alloc (.deferred (some []))).alloc (.loop (rec .ready none))=W1:=⟨_,rfl⟩
 rw [hW1] at HL
 refine ⟨D+1,[LZ D],W1,{ target:=.fn (.func gf) lb,args:=#[.func (.yield (D+1)) #[] #[]] },W1,gf,#[.func (.yield (D+1)) #[] #[]]++lb,W1,?_,?_,fun _ _=>trivial,?_,fun h=>(by cases h),?_⟩
 · rw [← hW1,hrec,hD];exact run_enterLoop_outer _ _ _ _ _
 · have hge:(wD a ds).eval g = .func (.func gf) #[] lb:=by rw [WV];exact F.eval hg
   simp only [resolve,hge]
   simp [go_sem]
 · simp [invoke,go_sem,eg]
 · refine (hit (D+1)
     (fun pre ps=>∃ us',ps = .obj (D+1) (.loop (rec .ready none)) :: .obj D (.deferred (some [])) :: us'∧I pre us')
     (fun pre ps=>∃ c us',ps = .obj (D+1) (.loop (rec .done (some c))) :: .obj D (.deferred (some [])) :: us'∧Ix c pre us')
     W1 (.obj (D+1) (.loop (rec .ready none)) :: .obj D (.deferred (some [])) :: us) HL ⟨us,rfl,h0⟩ ?_).mono ?_
   · rintro pre x b w1 _ qs ⟨us1,rfl,hi⟩ hpx hox H1
     have hl:w1.heap[D+1]? = some (.loop (rec .ready none)):=H1.pred 1 _ rfl
     have hy:=run_yield (P:=P) (args:=#[.pointer (some ⟨b,0,none⟩)]) hl (by rw [hrec];rfl)
     rw [hrec] at hy
     replace hy:(Instr.yield (D+1) #[.pointer (some ⟨b,0,none⟩)]).run P w1 = .ok (.round (D+1) fn (a.tmps.setIfInBounds p (.pointer (some ⟨b,0,none⟩))) assign body) w1:=by simpa using hy
     have F1:Has N ({ tmps:=a.tmps.setIfInBounds p (.pointer (some ⟨b,0,none⟩)),defers:=[] }:Act) ((p,.pointer (some ⟨b,0,none⟩)) :: env):=by
       have:=F.put (d:=p) (v:=.pointer (some ⟨b,0,none⟩)) hpN
       have e:a.put (some p) (.pointer (some ⟨b,0,none⟩))=({ tmps:=a.tmps.setIfInBounds p (.pointer (some ⟨b,0,none⟩)),defers:=[] }:Act):=by
         simp only [Act.put,F.nod]
       rw [e] at this
       exact this
     have hasg:=hassign (D+1) _ w1 (.pointer (some ⟨b,0,none⟩)) (fun a₁ w₁=>∃ w₂,(Instr.beginRound (D+1)).run P w₁ = .ok () w₂∧body.wpIn (Fence.wide.inRound (D+1)) 0 P (roundPost P (D+1) (fun e w2=>∃ ps2,Own w0 none w2 (.blk b (cells x) T :: (ps2++qs))∧((e = .returned (.bool true)∧∃ us',ps2 = .obj (D+1) (.loop (rec .ready none)) :: .obj D (.deferred (some [])) :: us'∧I (pre++[x]) us')∨(e = .returned (.bool false)∧∃ c us',ps2 = .obj (D+1) (.loop (rec .done (some c))) :: .obj D (.deferred (some [])) :: us'∧Ix c (pre++[x]) us')))) a₁ w₂) F1 (fun a2 F2=>?_)
     · refine ⟨fn,_,assign,body,hy,roundIn_of_wpIn hfn ?_⟩
       exact hasg
     · refine ⟨_,run_beginRound hl (by rw [hrec]),?_⟩
       have H2:=H1.putO 1 (b:=D+1) rfl (.loop { rec .ready none with state:=.busy })
       have hperm:∀ (o:Obj) (us':List Res),(Res.blk b (cells x) T :: ((.obj (D+1) o :: .obj D (.deferred (some [])) :: us')++qs)).Perm (.blk b (cells x) T :: (us'++(.obj (D+1) o :: .obj D (.deferred (some [])) :: qs))):=fun o us'=>by
         refine List.Perm.cons _ ?_
         have h1:(us'++(Res.obj (D+1) o :: Res.obj D (.deferred (some [])) :: qs)).Perm (Res.obj (D+1) o :: (us'++(Res.obj D (.deferred (some [])) :: qs))):=List.perm_middle
         have h2:(us'++(Res.obj D (.deferred (some [])) :: qs)).Perm (Res.obj D (.deferred (some [])) :: (us'++qs)):=List.perm_middle
         exact (h1.trans (h2.cons _)).symm
       refine wpIn_mono (hbody (D+1) pre x b _ us1 _ a2 hi hpx hox (H2.perm (hperm _ us1)) F2) ?_
       have fin:∀ (jump:Option Code) (W3:World) (us3:List Res),Own w0 none W3 (.blk b (cells x) T :: (us3++(.obj (D+1) (.loop { rec .ready none with state:=.busy }) :: .obj D (.deferred (some [])) :: qs))) →
           (Instr.endRound (D+1) jump).run P W3 = .ok (.bool jump.isNone) (W3.putObj (D+1) (.loop (rec (if jump.isNone then .ready else .done) jump))) ∧
           Own w0 none (W3.putObj (D+1) (.loop (rec (if jump.isNone then .ready else .done) jump))) (.blk b (cells x) T :: ((.obj (D+1) (.loop (rec (if jump.isNone then .ready else .done) jump)) :: .obj D (.deferred (some [])) :: us3)++qs)):=fun jump W3 us3 H3=>by
         have H4:=H3.perm (hperm _ us3).symm
         have hl3:W3.heap[D+1]? = some (.loop { rec .ready none with state:=.busy }):=H4.pred 1 _ rfl
         have hrun:=run_endRound (P:=P) jump hl3
         have H5:=H4.putO 1 (b:=D+1) rfl (.loop (rec (if jump.isNone then .ready else .done) jump))
         rw [hrec] at hrun H5 ⊢
         exact ⟨hrun,H5⟩
       rintro e a3 W3 hp
       cases e with
       | normal=>
         obtain ⟨ps2,hi3,H3⟩:=hp
         obtain ⟨h1,h2⟩:=fin none W3 ps2 H3
         exact ⟨_,_,h1,_,h2,.inl ⟨rfl,ps2,rfl,hi3⟩⟩
       | ret=>
         obtain ⟨ps2,hi3,H3⟩:=hp
         obtain ⟨h1,h2⟩:=fin (some .ret) W3 ps2 H3
         exact ⟨_,_,h1,_,h2,.inr ⟨rfl,_,ps2,rfl,hi3⟩⟩
       | exit id=>
         obtain ⟨ps2,hi3,H3⟩:=hp
         obtain ⟨h1,h2⟩:=fin (some (.exit id)) W3 ps2 H3
         exact ⟨_,_,h1,_,h2,.inr ⟨rfl,_,ps2,rfl,hi3⟩⟩
       | goto t=>
         obtain ⟨ps2,hi3,H3⟩:=hp
         obtain ⟨h1,h2⟩:=fin (some (.goto t)) W3 ps2 H3
         exact ⟨_,_,h1,_,h2,.inr ⟨rfl,_,ps2,rfl,hi3⟩⟩
       | panic ch=>exact hp.elim
       | outgrown=>exact hp.elim
   · rintro e W2 ⟨⟨v,rfl⟩,ps',H',(⟨us',rfl,hi⟩ | ⟨pre,hpre,c,us',rfl,hi⟩)⟩
     · have hl:W2.heap[D+1]? = some (.loop (rec .ready none)):=H'.pred 0 _ rfl
       have hrun:=run_endLoop (P:=P) hl (by rw [hrec];simp)
       have H3:=(H'.putO 0 (b:=D+1) rfl (.loop { rec .ready none with state:=.exhausted })).tail
       rw [hrec] at hrun H3
       exact ⟨none,_,hrun,hdone D _ us' hi H3⟩
     · have hl:W2.heap[D+1]? = some (.loop (rec .done (some c))):=H'.pred 0 _ rfl
       have hrun:=run_endLoop (P:=P) hl (by rw [hrec];simp)
       have H3:=(H'.putO 0 (b:=D+1) rfl (.loop { rec .done (some c) with state:=.exhausted })).tail
       rw [hrec] at hrun H3
       exact ⟨some c,_,hrun,hstop D c pre _ us' hpre hi H3⟩
end Go.Proofs.YtagnefpgidbhnaaGreatDoor
