/-
  WALK2. The law of chapter 07: prog, store, skip, folded. Conditions: what they are handed lies in memory.
-/
import Derived.Test.YtkchaoajegkadaaGreatDoorJn17
import Derived.Test.YtkchaoajegkadaaGreatDoorJn5
import Derived.Lib.AppendStr
set_option linter.unusedSimpArgs false
set_option linter.unusedVariables false
namespace Go.Proofs.YtkchaoajegkadaaGreatDoor
-- LfA
open Go.Proofs.Tryz
open Go.RowKit
set_option maxRecDepth 100000
theorem RowsAt.ofRange {w:World} {b sz:Nat}:∀ {rows:List (List Value)} {o:Nat},w.rangeAt b o rows.flatten→(∀ r ∈ rows,r.length=sz)→RowsAt w (some ⟨b,o,none⟩) sz rows:=by
 intro rows o h hr j cs hj
 refine ⟨b,o,rfl,fun k v hk=>?_⟩
 have key:∀ (rows:List (List Value)),(∀ r ∈ rows,r.length=sz)→∀ j cs,rows[j]? = some cs→∀ k v,cs[k]? = some v→rows.flatten[j * sz+k]? = some v:=by
   intro rows hr
   induction rows with
   | nil=>intro j cs hj;simp at hj
   | cons r0 rest ih=>
     intro j cs hj k v hk
     have h0:r0.length=sz:=hr r0 (by simp)
     cases j with
     | zero=>
       simp at hj;subst hj
       have:k < r0.length:=(List.getElem?_eq_some_iff.1 hk).1
       rw [List.flatten_cons,List.getElem?_append_left (by omega)];simpa using hk
     | succ j=>
       rw [List.flatten_cons,List.getElem?_append_right (by rw [h0,Nat.add_mul];omega),h0]
       have e1:(j+1) * sz+k - sz=j * sz+k:=by rw [Nat.add_mul];omega
       rw [e1]
       exact ih (fun r hm=>hr r (by simp [hm])) j cs (by simpa using hj) k v hk
 have:=h (j * sz+k) v (key rows hr j cs hj k v hk)
 rwa [Nat.add_assoc]
def storeI (v:UInt8):Ins:=⟨2,0,0,false,v,false,0,0,0,0⟩
def skipI (n:UInt8) (r:Bool) (a fn b:UInt8):Ins:=⟨8,0,0,r,a,false,b,fn,0,n⟩
def progP7 (l:List Ins):Prg:=⟨⟨#[97]⟩,[⟨#[120]⟩],[0],[l],1,.mk 0 0 0 0 []⟩
def progCells (b3 b4 b6:Nat):List Value:=[.string ⟨#[97]⟩,.slice (some ⟨b3,0,none⟩) 1 1,.slice (some ⟨b4,0,none⟩) 1 1,.slice (some ⟨b6,0,none⟩) 1 1,Go.Proofs.YtkchaoajegkadaaGreatDoor.b8 1,Go.Proofs.YtkchaoajegkadaaGreatDoor.b8 0,Go.Proofs.YtkchaoajegkadaaGreatDoor.b8 0,Go.Proofs.YtkchaoajegkadaaGreatDoor.b8 0,Go.Proofs.YtkchaoajegkadaaGreatDoor.b8 0,.slice none 0 0]
def progRes (b3 b4 b6:Nat) (A:Option Addr) (n C:Nat):List Res:=[.blk b6 [.slice A n C] 52,.blk b4 [Go.Proofs.YtkchaoajegkadaaGreatDoor.b8 0] 5,.blk b3 [.string ⟨#[120]⟩] 9]
theorem store_any (v:UInt8) (w0:World):Calls Tryz.prog 38 #[Go.Proofs.YtkchaoajegkadaaGreatDoor.b8 v] w0 fun e w'=>e = .returned (.agg (storeI v).cells.toArray)∧Below w0.heap.size w0 w':=by
 have H:=Own.start w0 none
 refine enterF func38 rfl ntmps38 rfl (fun a F=>?_);refine cSR fun K1 hK1=>?_;refine sAl H zeroValue44 F rfl rfl ?_;clear F a H;intro b2 a w F H;refine nK hK1 (cSR fun K2 hK2=>sMv F rfl rfl rfl (qBd (places:=[(0,1),(1,1)]) zeroValue42 underlying42 (by kernel_rfl) rfl rfl rfl rfl (qBd (cs:=(storeI v).cells) (places:=[(0,1),(1,1),(2,1),(3,2),(5,2),(7,1),(8,1),(9,1)]) zeroValue44 underlying44 (by kernel_rfl) rfl rfl rfl rfl ?_)));clear hK1;clear F a;intro a F
 refine sSr H 0 ?si F rfl rfl rfl ?s1 rfl rfl ?_
 case si=>exact info_size sizeOf44
 case s1=>first | rfl | (repeat (first | exact one_nil | (apply one_cons;· first | rfl | assumption | exact one_bif rfl rfl)))
 clear H;intro w H;refine nK hK2 ?_;clear hK2;refine wp_ret ?_;refine bRetC results38 F rfl underlying44 rfl H 0 rfl sizeOf44 rfl ?_
 exact ⟨rfl,H.below⟩
theorem skip_any (n:UInt8) (r:Bool) (av fn b:UInt8) (w0:World):Calls Tryz.prog 40 #[Go.Proofs.YtkchaoajegkadaaGreatDoor.b8 n,.agg #[.bool r,Go.Proofs.YtkchaoajegkadaaGreatDoor.b8 av],Go.Proofs.YtkchaoajegkadaaGreatDoor.b8 fn,Go.Proofs.YtkchaoajegkadaaGreatDoor.b8 b] w0 fun e w'=>e = .returned (.agg (skipI n r av fn b).cells.toArray)∧Below w0.heap.size w0 w':=by
 have H:=Own.start w0 none
 refine enterF func40 rfl ntmps40 rfl (fun a F=>?_);refine cSR fun K1 hK1=>?_;refine sBx H F rfl rfl rfl ?_;clear F a H;intro b5 a w F H;refine sAl H zeroValue44 F rfl rfl ?_;clear F a H;intro b8 a w F H;refine nK hK1 (cSR fun K2 hK2=>sMv F rfl rfl rfl ?_);clear hK1;clear F a;intro a F
 refine sLr underlying42 rfl ?si F rfl rfl rfl (H.whole 1 rfl) ?_
 case si=>exact info_size sizeOf42
 clear F a;intro a F;refine sMv F rfl rfl rfl (qMv rfl rfl rfl (qBd (places:=[(0,1),(1,1)]) zeroValue42 underlying42 (by kernel_rfl) rfl rfl rfl rfl (qBd (cs:=(skipI n r av fn b).cells) (places:=[(0,1),(1,1),(2,1),(3,2),(5,2),(7,1),(8,1),(9,1)]) zeroValue44 underlying44 (by kernel_rfl) rfl rfl rfl rfl ?_)));clear F a;intro a F
 refine sSr H 0 ?si F rfl rfl rfl ?s1 rfl rfl ?_
 case si=>exact info_size sizeOf44
 case s1=>first | rfl | (repeat (first | exact one_nil | (apply one_cons;· first | rfl | assumption | exact one_bif rfl rfl)))
 clear H;intro w H;refine nK hK2 ?_;clear hK2;refine wp_ret ?_;refine bRetC results40 F rfl underlying44 rfl H 0 rfl sizeOf44 rfl ?_
 exact ⟨rfl,H.below⟩
theorem prog_any (A:Option Addr) (n C:Nat) (w0:World):Calls Tryz.prog 37 #[.slice A n C] w0 fun e w'=>∃ b3 b4 b6,e = .returned (.agg (progCells b3 b4 b6).toArray)∧Own w0 none w' (progRes b3 b4 b6 A n C):=by
 have H:=Own.start w0 none
 refine enterF func37 rfl ntmps37 rfl (fun a F=>?_);refine cSR fun K1 hK1=>?_;refine sAl H zeroValue29 F rfl rfl ?_;clear F a H;intro b2 a w F H;refine nK hK1 (cSR fun K2 hK2=>?_);clear hK1;refine sBs1 H underlying22 sizeOf9 zeroValue9 rfl F rfl rfl rfl rfl ?_;clear F a H;intro b3 a w F H;refine sBs1 H underlying23 sizeOf5 zeroValue5 rfl F rfl rfl rfl rfl ?_;clear F a H;intro b4 a w F H;refine sMv F rfl rfl rfl ?_;clear F a;intro a F;refine sBs1 H underlying24 sizeOf52 zeroValue52 rfl F rfl rfl rfl rfl ?_;clear F a H;intro b6 a w F H;refine sBd (cs:=(progCells b3 b4 b6)) (places:=[(0,1),(1,1),(2,1),(3,1),(4,1),(5,5)]) zeroValue29 underlying29 (by kernel_rfl) F rfl rfl rfl rfl ?_;clear F a;intro a F
 refine sSr H 3 ?si F rfl rfl rfl ?s1 rfl rfl ?_
 case si=>exact info_size sizeOf29
 case s1=>first | rfl | (repeat (first | exact one_nil | (apply one_cons;· first | rfl | assumption | exact one_bif rfl rfl)))
 clear H;intro w H;refine nK hK2 ?_;clear hK2;refine wp_ret ?_;refine bRetC results37 F rfl underlying29 rfl H 3 rfl sizeOf29 rfl ?_
 exact ⟨b3,b4,b6,rfl,H.sel [0,1,2] rfl rfl⟩
theorem pr_prog {w0 w:World} {row:Option Nat} {b3 b4 b6 C:Nat} {A:Option Addr} {l:List Ins} (H:Own w0 row w (progRes b3 b4 b6 A l.length C)) (hR:RowsAt w A 10 (l.map Ins.cells)) (hl:l.length≤9223372036854775807) :
   ProgIn w (progCells b3 b4 b6) (progP7 l) (some ⟨b3,0,none⟩) 1 (some ⟨b4,0,none⟩) 1 (some ⟨b6,0,none⟩) 1 1 [Go.Proofs.YtkchaoajegkadaaGreatDoor.b8 0,Go.Proofs.YtkchaoajegkadaaGreatDoor.b8 0,Go.Proofs.YtkchaoajegkadaaGreatDoor.b8 0,Go.Proofs.YtkchaoajegkadaaGreatDoor.b8 0,.slice none 0 0]:=by
 have h6:=H.blk 0 rfl
 have h4:=H.whole 1 rfl
 have h3:=H.whole 2 rfl
 refine ⟨rfl,(show (⟨#[97]⟩:ByteArray).size≤maxLen by decide),RowsAt.ofRange (sz:=1) (rows:=[[_]]) h3 (by simp),(show 1≤9223372036854775807 by decide),(show 1≤1 by decide),?_,RowsAt.ofRange (sz:=1) (rows:=[[_]]) h4 (by simp),(show 1≤9223372036854775807 by decide),?_,(show 1≤9223372036854775807 by decide),none,0,rfl,by decide,fun j kid hj=>by simp at hj⟩
 · intro s hs
   obtain rfl:s=⟨#[120]⟩:=by simpa [progP7] using hs
   decide
 · intro j t hj
   match j,hj with
   | 0,hj=>cases hj;exact ⟨b6,0,A,C,rfl,h6.cell 0 rfl,hR,hl⟩
   | n+1,hj=>simp [progP7] at hj
theorem Own.rowCell {w0 w:World} {row:Option Nat} {rs:List Res} (H:Own w0 row w rs) (i:Nat) {e:TypeId} {n c b:Nat} {r:Value} (hi:rs[i]? = some (.rws e 1 (.slice (some ⟨b,0,.none⟩) n c) [[r]])):w.cell? ⟨b,0,.none⟩=some r:=by
 obtain ⟨b',o,he,h⟩:=H.rowsAt i hi (by simp) (by decide) 0 [r] rfl
 cases he
 exact h 0 r rfl
theorem Own.groveRow {w0 w:World} {row:Option Nat} {rs:List Res} (H:Own w0 row w rs) (i:Nat) {S:Nat→Prop} {y:Ins} {b o n c:Nat} (hi:rs[i]? = some (.grove S [[.slice (some ⟨b,o,.none⟩) n c]] [[y]])):w.rangeAt b o y.cells:=by
 obtain ⟨B,C,h1,h2⟩:=(H.pred i _ hi:groveP S w [[.slice (some ⟨b,o,.none⟩) n c]] [[y]]) 0 _ _ rfl rfl
 cases h1
 obtain ⟨b',o',he,_,h⟩:=h2 0 _ rfl
 cases he
 simpa using h
set_option maxHeartbeats 4000000 in
theorem folded_any (cs:List Value) (p:Prg) (l:List Ins) (y:Ins) (LA:Option Addr) (LC:Nat) (IA:Option Addr) (IC:Nat) (TA:Option Addr) (TC h:Nat) (ccs:List Value) (w0:World) (hp:ProgIn w0 cs p LA LC IA IC TA TC h ccs) (hN:NeedsAt w0) (hs:Slim h p.cond) (hl:p.locs.length≤1099511627776)
   (hr:rightErr p=0) (hf:FoldPre p) (ht:p.threads=[l]) (hy:foldP l=[y]) :
   Calls Tryz.prog 39 #[.agg cs.toArray,.agg y.cells.toArray] w0 fun e w'=>e = .returned (.bool true)∧Below w0.heap.size w0 w':=by
 obtain ⟨c1,c2,c3,c4,A5,m5,C5,rfl⟩:=condShape hp.cond
 have hcs:=hp.cs
 simp only [List.cons_append,List.nil_append] at hcs
 subst hcs
 have H:=Own.start w0 none
 refine enterF func39 rfl ntmps39 rfl (fun a F=>?_);refine cSR fun K1 hK1=>?_;refine sBx H F rfl rfl rfl ?_;clear F a H;intro b2 a w F H;refine sBx H F rfl rfl rfl ?_;clear F a H;intro b3 a w F H;refine sAs F rfl rfl rfl (qNK hK1 (qSR fun K2 hK2=>?_));clear hK1;clear F a;intro a F
 refine sLr underlying29 rfl ?si F rfl rfl rfl (H.whole 1 rfl) ?_
 case si=>exact info_size sizeOf29
 clear F a;intro a F;refine sCall call70 F rfl rfl rfl (Fold_any _ p LA LC IA IC TA TC h _ _ (hp.own H) (hN.own H) (fun _=>hs) (fun _=>hl) (fun _=>hf)) ?_;rintro e w h9
 rcases h9 with ⟨h9,_⟩ | ⟨_,v9,rfl,h9⟩
 · exact absurd hr h9
 obtain ⟨LA2,LC2,S1,IA2,IC2,S2,TA2,TC2,rows,S3,ccs2,S4,rfl,_,hrl,hr1,H2⟩:=h9
 obtain ⟨d1,d2,d3,d4,A6,m6,C6,rfl⟩:=condShape (H2.pred 0 _ rfl:TreeIn S4 _ h ccs2 p.cond).at
 rw [ht] at hrl H2
 simp only [List.map_cons,List.map_nil,hy] at H2
 obtain ⟨r0,rfl⟩:∃ r0,rows=[r0]:=List.length_eq_one_iff.1 hrl
 obtain ⟨B0,C0,rfl,hg0⟩:=(H2.pred 2 _ rfl:groveP S3 _ [r0] [[y]]) 0 _ _ rfl rfl
 obtain ⟨bY,oY,rfl,_⟩:=hg0 0 _ rfl
 obtain ⟨bT,oT,rfl,hq⟩:=H2.rowsAt 1 rfl hr1 (by decide) 0 _ rfl
 obtain rfl:oT=0:=by
  rcases (H2.arr 1 rfl).2 with ⟨q1,_⟩ | ⟨g,cap,cur,q1,_⟩
  · cases q1
  · cases q1;rfl
 replace H:=H.join H2;clear H2;refine ⟨_,rfl,?_⟩;clear F a;intro a F;refine sMv F rfl rfl rfl (qExt rfl rfl rfl rfl (qExt rfl rfl rfl rfl ?_));clear F a;intro a F;refine sAl H zeroValue29 F rfl rfl ?_;clear F a H;intro b5 a w F H
 refine sSr H 0 ?si F rfl rfl rfl ?s1 rfl rfl ?_
 case si=>exact info_size sizeOf29
 case s1=>first | rfl | (repeat (first | exact one_nil | (apply one_cons;· first | rfl | assumption | exact one_bif rfl rfl)))
 clear H;intro w H;refine sAs F rfl rfl rfl (qNK hK2 ?_);clear hK2;clear F a;intro a F;refine cSeq (fun K3 hK3=>?_);refine cRegRO (by kernel_rfl) H ?_;replace H:=H.drew;refine eTF 0 rfl (by kernel_rfl) F rfl rfl rfl (fun w=>rMv F rfl) H qq0 (qTF 1 rfl (by kernel_rfl) rfl rfl rfl (fun a F w=>rBin F rfl rfl bEql) H qq0 (qTF 2 rfl (by kernel_rfl) rfl rfl rfl (fun a F w=>rMv F rfl) H qq0 ?_));clear F a;intro a F
 refine F.split 14 rfl ?_ ?_ <;> (clear F;intro h14 F)
 ·
  replace h14:=beqT h14;refine eTF 3 rfl (by kernel_rfl) F rfl rfl rfl (fun w=>rFa (f:=3) (k:=3) underlying29 rfl sizeOf24 rfl rfl F rfl) H qq0 (qT 4 rfl (by kernel_rfl) rfl rfl rfl rfl (fun a F w H=>rLd isAgg24 F rfl (H.cell 0 rfl rfl)) H qq0 (qT 5 rfl (by kernel_rfl) rfl rfl rfl rfl (fun a F w H=>rLen underlying24 F rfl) H qq0 (qTF 6 rfl (by kernel_rfl) rfl rfl rfl (fun a F w=>rBin F rfl rfl bEql) H qq0 (qTF 7 rfl (by kernel_rfl) rfl rfl rfl (fun a F w=>rPk F rfl rfl) H qq0 (qTF 8 rfl (by kernel_rfl) rfl rfl rfl (fun a F w=>rMv F rfl) H qq0 ?_)))));clear F a;intro a F
  refine F.split 20 rfl ?_ ?_ <;> (clear F;intro h20 F)
  ·
   replace h20:=beqT h20;refine eTF 9 rfl (by kernel_rfl) F rfl rfl rfl (fun w=>rFa (f:=3) (k:=3) underlying29 rfl sizeOf24 rfl rfl F rfl) H qq0 (qT 10 rfl (by kernel_rfl) rfl rfl rfl rfl (fun a F w H=>rLd isAgg24 F rfl (H.cell 0 rfl rfl)) H qq0 ?_);clear F a;intro a F
   refine eTakeF (k:=11) (i:=11) rfl (by kernel_rfl) F rfl rfl rfl (fun w=>rIx (j:=0) underlying24 sizeOf52 F rfl rfl ?_) H (fun _ _ _ h=>h) ?_
   focus (first | omega | decide | (simp;omega))
   clear F a;intro a F;refine eT 12 rfl (by kernel_rfl) F rfl rfl rfl rfl (fun w H=>rLd isAgg52 F rfl (H.rowCell 2 rfl)) H qq0 (qT 13 rfl (by kernel_rfl) rfl rfl rfl rfl (fun a F w H=>rLen underlying52 F rfl) H qq0 (qTF 14 rfl (by kernel_rfl) rfl rfl rfl (fun a F w=>rBin F rfl rfl bEql) H qq0 (qTF 15 rfl (by kernel_rfl) rfl rfl rfl (fun a F w=>rPk F rfl rfl) H qq0 (qTF 16 rfl (by kernel_rfl) rfl rfl rfl (fun a F w=>rMv F rfl) H qq0 ?_))));clear F a;intro a F
   refine F.split 28 rfl ?_ ?_ <;> (clear F;intro h28 F)
   ·
    replace h28:=beqT h28;refine eTF 17 rfl (by kernel_rfl) F rfl rfl rfl (fun w=>rFa (f:=3) (k:=3) underlying29 rfl sizeOf24 rfl rfl F rfl) H qq0 (qT 18 rfl (by kernel_rfl) rfl rfl rfl rfl (fun a F w H=>rLd isAgg24 F rfl (H.cell 0 rfl rfl)) H qq0 ?_);clear F a;intro a F
    refine eTakeF (k:=19) (i:=19) rfl (by kernel_rfl) F rfl rfl rfl (fun w=>rIx (j:=0) underlying24 sizeOf52 F rfl rfl ?_) H (fun _ _ _ h=>h) ?_
    focus (first | omega | decide | (simp;omega))
    clear F a;intro a F;refine eT 20 rfl (by kernel_rfl) F rfl rfl rfl rfl (fun w H=>rLd isAgg52 F rfl (H.rowCell 2 rfl)) H qq0 ?_;clear F a;intro a F
    refine eTakeF (k:=21) (i:=21) rfl (by kernel_rfl) F rfl rfl rfl (fun w=>rIx (j:=0) underlying52 sizeOf44 F rfl rfl ?_) H (fun _ _ _ h=>h) ?_
    focus (first | omega | decide | (simp;omega))
    clear F a;intro a F
    refine eTake (k:=22) (i:=22) rfl (by kernel_rfl) F rfl rfl rfl rfl (fun w H=>rLr underlying44 rfl ?si F rfl (H.groveRow 3 rfl)) H (fun _ _ _ h=>h) ?_
    case si=>exact info_size sizeOf44
    clear F a;intro a F
    refine eTake (k:=23) (i:=23) rfl (by kernel_rfl) F rfl rfl rfl rfl (fun w H=>rLr underlying44 rfl ?si F rfl (H.whole 6 rfl)) H (fun _ _ _ h=>h) ?_
    case si=>exact info_size sizeOf44
    clear F a;intro a F;refine eTF 24 rfl (by kernel_rfl) F rfl rfl rfl (fun w=>rBin F rfl rfl bEqI) H qq0 (qTF 25 rfl (by kernel_rfl) rfl rfl rfl (fun a F w=>rPk F rfl rfl) H qq0 (qTF 26 rfl (by kernel_rfl) rfl rfl rfl (fun a F w=>rAs F rfl) H qq0 ?_));clear F a;intro a F;refine eNil (k:=27) (by kernel_rfl) ?_;refine hK3 _ _ ?_;clear hK3;refine wp_ret ?_;refine bRet results39 F rfl ?_
    exact ⟨rfl,H.below⟩
   replace h28:=beqF h28
   (exact absurd rfl h28)
  replace h20:=beqF h20
  (exact absurd (by rw [ht];rfl) h20)
 replace h14:=beqF h14
 exact absurd rfl h14
-- LfB
open Go.RowKit
set_option maxRecDepth 100000
def l0:List Ins:=[storeI 1]
def l1:List Ins:=[skipI 1 false 1 4 1,storeI 1,storeI 2]
def l2:List Ins:=[skipI 1 false 1 4 2,storeI 1]
def l3:List Ins:=[skipI 2 true 0 4 0,skipI 1 false 1 4 1,storeI 1,storeI 2]
theorem hvP_of {l:List Ins} (h:(List.range l.length).all (fun i=>match l[i]? with | some x=>x.op != 8 || (decide (1≤x.skip.toNat) && decide (i+1+x.skip.toNat≤l.length)) | none=>true)=true):hvP l:=fun i x hx ho=>by
 have hi:=(List.getElem?_eq_some_iff.1 hx).1
 have:=List.all_eq_true.1 h i (List.mem_range.2 hi)
 rw [hx] at this
 simp [ho] at this
 exact this
theorem pre_of {l:List Ins} (h1:l.length≤12) (h2:hvP l):FoldPre (progP7 l):=⟨(show 1≤4 by decide),(show 1≤1099511627776 by decide),fun t ht=>by
 obtain rfl:t=l:=by simpa [progP7] using ht
 exact ⟨h1,h2⟩⟩
theorem slim_prog (l:List Ins):Slim 1 (progP7 l).cond:=⟨(show 0≤4398046510976 by decide),fun _ h=>by cases h⟩
theorem r0:rightErr (progP7 l0)=0:=by kernel_rfl
theorem r1:rightErr (progP7 l1)=0:=by kernel_rfl
theorem r2:rightErr (progP7 l2)=0:=by kernel_rfl
theorem r3:rightErr (progP7 l3)=0:=by kernel_rfl
theorem f1:foldP l1=[storeI 2]:=by kernel_rfl
theorem f2:foldP l2=[storeI 1]:=by kernel_rfl
theorem f3:foldP l3=[storeI 2]:=by kernel_rfl
theorem hone (l:List Ins):∀ r ∈ l.map Ins.cells,r.length=10:=fun r hr=>by
 obtain ⟨x,_,rfl⟩:=List.mem_map.1 hr;rfl
set_option maxHeartbeats 16000000 in
theorem awake7_any (w0:World) (hN:NeedsAt w0):Calls Tryz.prog 17 #[] w0 fun e w'=>e = .returned (.bool true)∧Below w0.heap.size w0 w':=by
 have H:=Own.start w0 none
 refine enterF Tryz.func17 rfl Tryz.ntmps17 rfl (fun a F=>?_);refine cSR fun K1 hK1=>sAs F rfl rfl rfl (qNK hK1 (qSR fun K2 hK2=>qBd (places:=[(0,1),(1,1)]) Tryz.zeroValue42 Tryz.underlying42 (by kernel_rfl) rfl rfl rfl rfl (qBd (places:=[(0,1),(1,1)]) Tryz.zeroValue42 Tryz.underlying42 (by kernel_rfl) rfl rfl rfl rfl ?_)));clear hK1;clear F a;intro a F;refine sAl H Tryz.zeroValue42 F rfl rfl ?_;clear F a H;intro b1 a w F H;refine sAl H Tryz.zeroValue42 F rfl rfl ?_;clear F a H;intro b2 a w F H
 refine sSr H 1 ?si F rfl rfl rfl ?s1 rfl rfl ?_
 case si=>exact info_size Tryz.sizeOf42
 case s1=>first | rfl | (repeat (first | exact one_nil | (apply one_cons;· first | rfl | assumption | exact one_bif rfl rfl)))
 clear H;intro w H
 refine sSr H 0 ?si F rfl rfl rfl ?s1 rfl rfl ?_
 case si=>exact info_size Tryz.sizeOf42
 case s1=>first | rfl | (repeat (first | exact one_nil | (apply one_cons;· first | rfl | assumption | exact one_bif rfl rfl)))
 clear H;intro w H;refine nK hK2 ?_;clear hK2;refine cSeq (fun K3 hK3=>?_);refine cRegRO (by kernel_rfl) H ?_;replace H:=H.drew;refine eOne (k:=0) (i:=0) rfl (by kernel_rfl) F rfl (oCall Tryz.call38 F rfl rfl (store_any 1 _) ?_);rintro e w ⟨rfl,hb⟩;replace H:=H.grow hb;clear hb;refine ⟨_,rfl,?_⟩;clear F a;intro a F;refine ePartO (by kernel_rfl) H ?_;refine eOne (k:=1) (i:=1) rfl (by kernel_rfl) F rfl (oBsA H Tryz.underlying52 Tryz.sizeOf44 Tryz.zeroValue44 rfl F rfl rfl rfl rfl ?_);clear F a H;intro b6 a w F H;refine ePartO (by kernel_rfl) H ?_;refine eOne (k:=2) (i:=2) rfl (by kernel_rfl) F rfl (oCall Tryz.call37 F rfl rfl (prog_any _ 1 1 _) ?_);rintro e w ⟨x3,x4,x6,rfl,H2⟩;replace H:=H.join H2;clear H2;refine ⟨_,rfl,?_⟩;clear F a;intro a F;refine ePartO (by kernel_rfl) H ?_;refine eOne (k:=3) (i:=3) rfl (by kernel_rfl) F rfl (oCall Tryz.call19 F rfl rfl (right_any' _ (progP7 l0) _ ⟨_,_,_,_,_,_,_,_,pr_prog (l:=l0) (H.sel [0,1,2] rfl rfl) (RowsAt.ofRange (sz:=10) (rows:=l0.map Ins.cells) (H.whole 3 rfl) (hone _)) (by decide)⟩ (hN.own H)) ?_);rintro e w ⟨rfl,hb⟩;replace H:=H.grow hb;clear hb;refine ⟨_,rfl,?_⟩;clear F a;intro a F;refine ePartO (by kernel_rfl) H ?_;refine eTF 4 rfl (by kernel_rfl) F rfl rfl rfl (fun w=>rBin F rfl rfl bEql) H qq0 (qTF 5 rfl (by kernel_rfl) rfl rfl rfl (fun a F w=>rMv F rfl) H qq0 ?_);clear F a;intro a F
 refine F.split 10 rfl ?_ ?_ <;> (clear F;intro h10 F)
 ·
  replace h10:=beqT h10
  refine eTake (k:=6) (i:=6) rfl (by kernel_rfl) F rfl rfl rfl rfl (fun w H=>rLr Tryz.underlying42 rfl ?si F rfl (H.whole 5 rfl)) H (fun _ _ _ h=>h) ?_
  case si=>exact info_size Tryz.sizeOf42
  clear F a;intro a F;refine eOne (k:=7) (i:=7) rfl (by kernel_rfl) F rfl (oCall Tryz.call40 F rfl rfl (skip_any 1 false 1 4 1 _) ?_);rintro e w ⟨rfl,hb⟩;replace H:=H.grow hb;clear hb;refine ⟨_,rfl,?_⟩;clear F a;intro a F;refine ePartO (by kernel_rfl) H ?_;refine eOne (k:=8) (i:=8) rfl (by kernel_rfl) F rfl (oCall Tryz.call38 F rfl rfl (store_any 1 _) ?_);rintro e w ⟨rfl,hb⟩;replace H:=H.grow hb;clear hb;refine ⟨_,rfl,?_⟩;clear F a;intro a F;refine ePartO (by kernel_rfl) H ?_;refine eOne (k:=9) (i:=9) rfl (by kernel_rfl) F rfl (oCall Tryz.call38 F rfl rfl (store_any 2 _) ?_);rintro e w ⟨rfl,hb⟩;replace H:=H.grow hb;clear hb;refine ⟨_,rfl,?_⟩;clear F a;intro a F;refine ePartO (by kernel_rfl) H ?_;refine eOne (k:=10) (i:=10) rfl (by kernel_rfl) F rfl (oBsR (rows:=[(skipI 1 false 1 4 1).cells,(storeI 1).cells,(storeI 2).cells]) H Tryz.underlying52 Tryz.sizeOf44 Tryz.zeroValue44 rfl F rfl rfl rfl rfl ?_);clear F a H;intro b15 a w F H;refine ePartO (by kernel_rfl) H ?_;refine eOne (k:=11) (i:=11) rfl (by kernel_rfl) F rfl (oCall Tryz.call37 F rfl rfl (prog_any _ 3 3 _) ?_);rintro e w ⟨y3,y4,y6,rfl,H2⟩;replace H:=H.join H2;clear H2;refine ⟨_,rfl,?_⟩;clear F a;intro a F;refine ePartO (by kernel_rfl) H ?_;refine eOne (k:=12) (i:=12) rfl (by kernel_rfl) F rfl (oCall Tryz.call38 F rfl rfl (store_any 2 _) ?_);rintro e w ⟨rfl,hb⟩;replace H:=H.grow hb;clear hb;refine ⟨_,rfl,?_⟩;clear F a;intro a F;refine ePartO (by kernel_rfl) H ?_;refine eOne (k:=13) (i:=13) rfl (by kernel_rfl) F rfl (oCall Tryz.call39 F rfl rfl (folded_any _ (progP7 l1) l1 (storeI 2) _ _ _ _ _ _ 1 _ _ (pr_prog (l:=l1) (H.sel [0,1,2] rfl rfl) (RowsAt.ofRange (sz:=10) (rows:=l1.map Ins.cells) (H.whole 3 rfl) (hone _)) (by decide)) (hN.own H) (slim_prog _) (show 1≤1099511627776 by decide) r1 (pre_of (by decide) (hvP_of (by decide))) rfl f1) ?_)
  rintro e w ⟨rfl,hb⟩;replace H:=H.grow hb;clear hb;refine ⟨_,rfl,?_⟩;clear F a;intro a F;refine ePartO (by kernel_rfl) H ?_;refine eTF 14 rfl (by kernel_rfl) F rfl rfl rfl (fun w=>rPk F rfl rfl) H qq0 (qTF 15 rfl (by kernel_rfl) rfl rfl rfl (fun a F w=>rMv F rfl) H qq0 ?_);clear F a;intro a F
  refine F.split 20 rfl ?_ ?_ <;> (clear F;intro h20 F)
  ·
   refine eTake (k:=16) (i:=16) rfl (by kernel_rfl) F rfl rfl rfl rfl (fun w H=>rLr Tryz.underlying42 rfl ?si F rfl (H.whole 9 rfl)) H (fun _ _ _ h=>h) ?_
   case si=>exact info_size Tryz.sizeOf42
   clear F a;intro a F;refine eOne (k:=17) (i:=17) rfl (by kernel_rfl) F rfl (oCall Tryz.call40 F rfl rfl (skip_any 1 false 1 4 2 _) ?_);rintro e w ⟨rfl,hb⟩;replace H:=H.grow hb;clear hb;refine ⟨_,rfl,?_⟩;clear F a;intro a F;refine ePartO (by kernel_rfl) H ?_;refine eOne (k:=18) (i:=18) rfl (by kernel_rfl) F rfl (oCall Tryz.call38 F rfl rfl (store_any 1 _) ?_);rintro e w ⟨rfl,hb⟩;replace H:=H.grow hb;clear hb;refine ⟨_,rfl,?_⟩;clear F a;intro a F;refine ePartO (by kernel_rfl) H ?_;refine eOne (k:=19) (i:=19) rfl (by kernel_rfl) F rfl (oBsR (rows:=[(skipI 1 false 1 4 2).cells,(storeI 1).cells]) H Tryz.underlying52 Tryz.sizeOf44 Tryz.zeroValue44 rfl F rfl rfl rfl rfl ?_);clear F a H;intro b24 a w F H;refine ePartO (by kernel_rfl) H ?_;refine eOne (k:=20) (i:=20) rfl (by kernel_rfl) F rfl (oCall Tryz.call37 F rfl rfl (prog_any _ 2 2 _) ?_);rintro e w ⟨z3,z4,z6,rfl,H2⟩;replace H:=H.join H2;clear H2;refine ⟨_,rfl,?_⟩;clear F a;intro a F;refine ePartO (by kernel_rfl) H ?_;refine eOne (k:=21) (i:=21) rfl (by kernel_rfl) F rfl (oCall Tryz.call38 F rfl rfl (store_any 1 _) ?_);rintro e w ⟨rfl,hb⟩;replace H:=H.grow hb;clear hb;refine ⟨_,rfl,?_⟩;clear F a;intro a F;refine ePartO (by kernel_rfl) H ?_;refine eOne (k:=22) (i:=22) rfl (by kernel_rfl) F rfl (oCall Tryz.call39 F rfl rfl (folded_any _ (progP7 l2) l2 (storeI 1) _ _ _ _ _ _ 1 _ _ (pr_prog (l:=l2) (H.sel [0,1,2] rfl rfl) (RowsAt.ofRange (sz:=10) (rows:=l2.map Ins.cells) (H.whole 3 rfl) (hone _)) (by decide)) (hN.own H) (slim_prog _) (show 1≤1099511627776 by decide) r2 (pre_of (by decide) (hvP_of (by decide))) rfl f2) ?_)
   rintro e w ⟨rfl,hb⟩;replace H:=H.grow hb;clear hb;refine ⟨_,rfl,?_⟩;clear F a;intro a F;refine ePartO (by kernel_rfl) H ?_;refine eTF 23 rfl (by kernel_rfl) F rfl rfl rfl (fun w=>rPk F rfl rfl) H qq0 (qTF 24 rfl (by kernel_rfl) rfl rfl rfl (fun a F w=>rMv F rfl) H qq0 ?_);clear F a;intro a F
   refine F.split 29 rfl ?_ ?_ <;> (clear F;intro h29 F)
   ·
    refine eTake (k:=25) (i:=25) rfl (by kernel_rfl) F rfl rfl rfl rfl (fun w H=>rLr Tryz.underlying42 rfl ?si F rfl (H.whole 12 rfl)) H (fun _ _ _ h=>h) ?_
    case si=>exact info_size Tryz.sizeOf42
    clear F a;intro a F
    refine eTake (k:=26) (i:=27) rfl (by kernel_rfl) F rfl rfl rfl rfl (fun w H=>rLr Tryz.underlying42 rfl ?si F rfl (H.whole 13 rfl)) H (fun _ _ _ h=>h) ?_
    case si=>exact info_size Tryz.sizeOf42
    clear F a;intro a F;refine eOne (k:=27) (i:=26) rfl (by kernel_rfl) F rfl (oCall Tryz.call40 F rfl rfl (skip_any 2 true 0 4 0 _) ?_);rintro e w ⟨rfl,hb⟩;replace H:=H.grow hb;clear hb;refine ⟨_,rfl,?_⟩;clear F a;intro a F;refine eKeep H ?_;refine eOne (k:=28) (i:=28) rfl (by kernel_rfl) F rfl (oCall Tryz.call40 F rfl rfl (skip_any 1 false 1 4 1 _) ?_);rintro e w ⟨rfl,hb⟩;replace H:=H.grow hb;clear hb;refine ⟨_,rfl,?_⟩;clear F a;intro a F;refine ePartO (by kernel_rfl) H ?_;refine eOne (k:=29) (i:=29) rfl (by kernel_rfl) F rfl (oCall Tryz.call38 F rfl rfl (store_any 1 _) ?_);rintro e w ⟨rfl,hb⟩;replace H:=H.grow hb;clear hb;refine ⟨_,rfl,?_⟩;clear F a;intro a F;refine ePartO (by kernel_rfl) H ?_;refine eOne (k:=30) (i:=30) rfl (by kernel_rfl) F rfl (oCall Tryz.call38 F rfl rfl (store_any 2 _) ?_);rintro e w ⟨rfl,hb⟩;replace H:=H.grow hb;clear hb;refine ⟨_,rfl,?_⟩;clear F a;intro a F;refine ePartO (by kernel_rfl) H ?_;refine eOne (k:=31) (i:=31) rfl (by kernel_rfl) F rfl (oBsR (rows:=[(skipI 2 true 0 4 0).cells,(skipI 1 false 1 4 1).cells,(storeI 1).cells,(storeI 2).cells]) H Tryz.underlying52 Tryz.sizeOf44 Tryz.zeroValue44 rfl F rfl rfl rfl rfl ?_);clear F a H;intro b36 a w F H;refine ePartO (by kernel_rfl) H ?_;refine eOne (k:=32) (i:=32) rfl (by kernel_rfl) F rfl (oCall Tryz.call37 F rfl rfl (prog_any _ 4 4 _) ?_);rintro e w ⟨u3,u4,u6,rfl,H2⟩;replace H:=H.join H2;clear H2;refine ⟨_,rfl,?_⟩;clear F a;intro a F;refine ePartO (by kernel_rfl) H ?_;refine eOne (k:=33) (i:=33) rfl (by kernel_rfl) F rfl (oCall Tryz.call38 F rfl rfl (store_any 2 _) ?_)
    rintro e w ⟨rfl,hb⟩;replace H:=H.grow hb;clear hb;refine ⟨_,rfl,?_⟩;clear F a;intro a F;refine ePartO (by kernel_rfl) H ?_;refine eOne (k:=34) (i:=34) rfl (by kernel_rfl) F rfl (oCall Tryz.call39 F rfl rfl (folded_any _ (progP7 l3) l3 (storeI 2) _ _ _ _ _ _ 1 _ _ (pr_prog (l:=l3) (H.sel [0,1,2] rfl rfl) (RowsAt.ofRange (sz:=10) (rows:=l3.map Ins.cells) (H.whole 3 rfl) (hone _)) (by decide)) (hN.own H) (slim_prog _) (show 1≤1099511627776 by decide) r3 (pre_of (by decide) (hvP_of (by decide))) rfl f3) ?_);rintro e w ⟨rfl,hb⟩;replace H:=H.grow hb;clear hb;refine ⟨_,rfl,?_⟩;clear F a;intro a F;refine ePartO (by kernel_rfl) H ?_;refine eTF 35 rfl (by kernel_rfl) F rfl rfl rfl (fun w=>rPk F rfl rfl) H qq0 (qTF 36 rfl (by kernel_rfl) rfl rfl rfl (fun a F w=>rAs F rfl) H qq0 ?_);clear F a;intro a F;refine eNil (k:=37) (by kernel_rfl) ?_;refine hK3 _ _ ?_;clear hK3;refine wp_ret ?_;refine bRet Tryz.results17 F rfl ?_
    exact ⟨rfl,H.below⟩
   cases h29
  cases h20
 replace h10:=beqF h10
 exact absurd r0 h10
-- VsA
open Go.RowKit
set_option maxRecDepth 100000
variable {P:Program} {l:List Oper} {Q:Exit→Act→World→Prop} {N:Nat} {a:Act} {env:List (Nat × Value)} {rest:List Oper} {d:Tmp} {ty:TypeId} {pos:String} {af:Array Edge} {g:Option (Nat × Bool)}
 {w0 w:World} {row:Option Nat} {rs:List Res} {Kt:Act→World→Prop}
def bytC (l:List UInt8):List (List Value):=l.map fun x=>[b8 x]
theorem bytC_length (l:List UInt8):(bytC l).length=l.length:=by simp [bytC]
theorem bytC_flat (l:List UInt8):(bytC l).flatten=l.map b8:=by
 induction l with
 | nil=>rfl
 | cons x r ih=>show [b8 x]++(bytC r).flatten=_;rw [ih];rfl
theorem appS_run {t u e:TypeId} {xs:List UInt8} {A:Option Addr} {C:Nat} {s:ByteArray} {ti:TypeInfo} (H:Own w0 row w rs) (i:Nat) (ht:P.underlying t=some (.slice e)) (hu:P.underlying u=some .string)
   (hi:∀ w,(typeInfo e).run P w = .ok ti w) (hz:ti.zero=some (.int .u8 0)) (hsize:ti.size=1) (hby:ti.bytes=1)
   (hr:rs[i]? = some (.rws e 1 (.slice A xs.length C) (bytC xs))) (hb:xs.length+s.size≤140737488355328) (ty:TypeId) :
   ∃ A' C' w',(Builtin.append_ #[t,u] ty #[.slice A xs.length C,.string s]).run P w = .ok (.slice A' (xs++s.data.toList).length C') w'∧Own w0 row w' (rs.set i (.rws e 1 (.slice A' (xs++s.data.toList).length C') (bytC (xs++s.data.toList)))):=by
 have hown:w.ownsRow 0 e 1 (.slice A xs.length C) xs.length (xs.map b8):=by
   have:=H.arr i hr
   rwa [bytC_length,bytC_flat] at this
 have hsz:s.data.toList.length=s.size:=Array.length_toList
 have hlen:(xs++s.data.toList).length=xs.length+s.size:=by rw [List.length_append,hsz]
 obtain ⟨v',w',hrun,ho,hgr,_⟩:=Lib.run_append_own_string (P:=P) w 0 t u ty e ti ht hu (info_of hi) hz hsize hby (.slice A xs.length C) xs.length (xs.map b8) hown s (by simp only [maxLen];omega) hb (Nat.zero_le _)
 have hv:∃ A' C',v' = .slice A' (xs.length+s.size) C':=by
   rcases ho.2 with ⟨h1,h2⟩ | ⟨g,cap,cur,h1,_⟩
   · exact ⟨none,0,by rw [h1,h2]⟩
   · exact ⟨_,_,h1⟩
 obtain ⟨A',C',rfl⟩:=hv
 have hat:∀ b,(Value.slice A' (xs.length+s.size) C').ownBlock=some b→((Value.slice A xs.length C).ownBlock=some b∨w.heap.size≤b)∧b < w'.heap.size:=by
   intro b hbb
   have hlt:b < w'.heap.size:=by
     rcases ho.2 with ⟨h1,h2⟩ | ⟨g,cap,cur,h1,_,h3,_⟩
     · rw [h1] at hbb;cases hbb
     · rw [h1] at hbb
       cases hbb
       exact (Array.getElem?_eq_some_iff.1 h3).1
   refine ⟨?_,hlt⟩
   rcases Nat.lt_or_ge b w.heap.size with hbl | hbl
   · left
     rcases hown.2 with ⟨h1,h2⟩ | ⟨g,cap,cur,h1,_,h3,h4,h5,h6,_⟩
     · -- nil
       by_cases hm:s.size=0
       · rcases ho.2 with ⟨e1,_⟩ | ⟨g',cap',cur',e1,_,e3,_⟩
         · rw [e1] at hbb;cases hbb
         · exfalso
           have hf:=Lib.run_firstCells_string (P:=P) w 1 s
           rw [hm] at hf
           have h0:xs.length=0:=h2
           rw [h1,h0] at hrun
           simp [Builtin.append_,run_underlying ht,run_underlying hu,sizeOf,typeInfo,info_of hi,hsize,Builtin.lenOf,hm,hf] at hrun
           obtain ⟨⟨q1,_⟩,_⟩:=hrun
           rw [← q1] at hbb
           cases hbb
       · exfalso
         have h0:xs.length=0:=h2
         have hr2:=run_append_nil_string (P:=P) w t u ty e ti (.int .u8 0) ht hu (info_of hi) hz s (by omega) (by omega) (by rw [hby];omega)
         rw [h1] at hrun;rw [hr2] at hrun
         simp only [Result.ok.injEq,Value.slice.injEq] at hrun
         obtain ⟨⟨q1,_⟩,_⟩:=hrun
         rw [← q1] at hbb
         simp only [Value.ownBlock,Option.some.injEq] at hbb
         omega
     · cases h1
       by_cases hroom:xs.length+s.size≤C
       · have hr2:=Lib.run_append_room_string (P:=P) w t u ty e ti ht hu (info_of hi) hsize g xs.length C cur h3 s hroom (by omega)
         rw [hr2] at hrun
         simp only [Result.ok.injEq,Value.slice.injEq] at hrun
         obtain ⟨⟨q1,_⟩,_⟩:=hrun
         rw [← q1] at hbb
         exact hbb
       · exfalso
         have holds:∀ j u,(xs.map b8)[j]? = some u→w.cell? ((⟨g,0,none⟩:Addr).add j)=some u:=hown.cells (g:=g) rfl
         have hr2:=Lib.run_append_grow_string (P:=P) w t u ty e ti (.int .u8 0) ht hu (info_of hi) hz ⟨g,0,none⟩ xs.length C (xs.map b8) (by rw [hsize];simp) holds s (by omega) (by omega) (by rw [hby];exact growslice_fits (by omega) (by omega))
         rw [hr2] at hrun
         simp only [Result.ok.injEq,Value.slice.injEq] at hrun
         obtain ⟨⟨q1,_⟩,_⟩:=hrun
         rw [← q1] at hbb
         simp only [Value.ownBlock,Option.some.injEq] at hbb
         omega
   · exact .inr hbl
 refine ⟨A',C',w',by rw [hlen];exact hrun,?_⟩
 refine H.turn i hr _ ?_ hgr.size (fun b hb hnb=>hgr.block b hb (fun e=>hnb (show (Value.slice A xs.length C).ownBlock=some b from e.symm))) ?_ ?_
 · refine ⟨hgr.os.trans H.grown.os,hgr.tape.trans H.grown.tape,hgr.output.trans H.grown.output,Nat.le_trans H.grown.size hgr.size,fun k hk hne=>?_⟩
   refine (hgr.block k (Nat.lt_of_lt_of_le hk H.grown.size) (fun e=>?_)).trans (H.grown.block k hk hne)
   rcases (H.foot i _ hr k (show (Value.slice A xs.length C).ownBlock=some k from e.symm)).1 with h | h
   · exact absurd hk (by omega)
   · exact hne h
 · show w'.ownsRow 0 e 1 _ (bytC (xs++s.data.toList)).length (bytC (xs++s.data.toList)).flatten
   rw [bytC_length,bytC_flat,hlen,List.map_append]
   exact ho
 · intro b hbb
   have hbb:(Value.slice A' (xs.length+s.size) C').ownBlock=some b:=by
     have h2:(Value.slice A' (xs++s.data.toList).length C').ownBlock=some b:=hbb
     rw [hlen] at h2
     exact h2
   exact hat b hbb
theorem sAppS {t u e:TypeId} {x y:Operand} {xs:List UInt8} {A:Option Addr} {C:Nat} {s:ByteArray} {ti:TypeInfo} (H:Own w0 row w rs) (i:Nat) (ht:P.underlying t=some (.slice e)) (hu:P.underlying u=some .string)
   (hi:∀ w,(typeInfo e).run P w = .ok ti w) (hz:ti.zero=some (.int .u8 0)) (hsize:ti.size=1) (hby:ti.bytes=1)
   (F:Has N a env) (hg:wants l env g=true) (hN:Nat.blt d N=true) (hx:ev env x=some (.slice A xs.length C)) (hy:ev env y=some (.string s))
   (hr:rs[i]? = some (.rws e 1 (.slice A xs.length C) (bytC xs))) (hb:xs.length+s.size≤140737488355328)
   (K:∀ A' C' a w,Has N a ((d,.slice A' (xs++s.data.toList).length C') :: env)→Own w0 row w (rs.set i (.rws e 1 (.slice A' (xs++s.data.toList).length C') (bytC (xs++s.data.toList))))→wpList P l.toArray Q rest a w) :
   wpList P l.toArray Q (⟨some d,.call ⟨.builtin .append,#[x,y],#[t,u]⟩,ty,pos,af,g⟩ :: rest) a w:=by
 obtain ⟨A',C',w',h2,h3⟩:=appS_run (P:=P) (s:=s) H i ht hu hi hz hsize hby hr hb ty
 refine stepV F hg rfl hN (v:=.slice A' (xs++s.data.toList).length C') (w':=w') ?_ (fun a' F'=>K A' C' a' w' F' h3)
 simp only [execOp,resolve,invoke,builtin,Sem.run_bind,Sem.run_pure,Result.andThen_ok,List.map_toArray,List.map_cons,List.map_nil,F.eval hx,F.eval hy,h2]
end Go.Proofs.YtkchaoajegkadaaGreatDoor
