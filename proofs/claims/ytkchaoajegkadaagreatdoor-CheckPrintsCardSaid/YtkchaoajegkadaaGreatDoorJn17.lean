/-
  WALK2. Package check: turnCond with a function that does nothing: the condition again, in new memory. Conditions: the condition lies in memory; its rows are not too long.
-/
import Derived.Test.YtkchaoajegkadaaGreatDoorJn16
import Derived.Test.YtkchaoajegkadaaGreatDoorJn5
import Derived.Test.YtkchaoajegkadaaGreatDoorJn6
import Derived.Test.YtkchaoajegkadaaGreatDoorJn14
import Derived.Test.YtkchaoajegkadaaGreatDoorCkK
set_option linter.unusedSimpArgs false
set_option linter.unusedVariables false
namespace Go.Proofs.YtkchaoajegkadaaGreatDoor
-- FoE
open Go.RowKit
set_option maxRecDepth 100000
def Slim:Nat→Cnd→Prop
 | 0,_=>True
 | h+1,.mk _ _ _ _ kids=>kids.length≤4398046510976∧∀ kid ∈ kids,Slim h kid
theorem nothing_any (x:Value) (w0:World):CallsF Tryz.prog (.func (.func 127) #[] #[]) [x] w0 fun e w'=>e = .returned (.tuple #[])∧Below w0.heap.size w0 w':=by
 have H:=Own.start w0 none
 refine ⟨_,[],[],rfl,Tryz.call127,?_⟩
 show Calls Tryz.prog 127 #[x] w0 _
 refine enterF Tryz.func127 rfl Tryz.ntmps127 rfl (fun a F=>?_);refine wp_skip ?_
 first | refine bEnd Tryz.results127 F ?_ | (simp only [Exit.then,Exit.inBlock,if_true];(repeat (first | rw [if_pos rfl] | rw [if_neg (by decide)]));refine bEnd Tryz.results127 F ?_)
 exact ⟨rfl,H.below⟩
set_option maxHeartbeats 4000000 in
theorem turn_any (h:Nat):∀ (cs:List Value) (c:Cnd) (w0:World),CondAt w0 h cs c→Slim h c →
   Calls Tryz.prog 126 #[.agg cs.toArray,.func (.func 127) #[] #[]] w0 fun e w'=>∃ cs' S,e = .returned (.agg cs'.toArray)∧Own w0 none w' [.tree S h cs' c]:=by
 induction h with
 | zero=>intro cs c w0 hC;exact hC.elim
 | succ h ih=>
   intro cs c w0 hC hs
   obtain ⟨k,t,n,v,kids⟩:=c
   obtain ⟨A,C,rfl,hkl,hK⟩:=hC
   obtain ⟨hs1,hs2⟩:=hs
   have H:=Own.start w0 none
   refine enterF Tryz.func126 rfl Tryz.ntmps126 rfl (fun a F=>?_);refine cSR fun K1 hK1=>?_;refine sBx H F rfl rfl rfl ?_;clear F a H;intro b2 a w F H;refine sAl H Tryz.zeroValue27 F rfl rfl ?_;clear F a H;intro b4 a w F H;refine nK hK1 (cSR fun K2 hK2=>sAs F rfl rfl rfl ?_);clear hK1;clear F a;intro a F
   replace H:=H.nilRws 27 5
   refine nK hK2 ?_;clear hK2;refine cSeq (fun K3 hK3=>?_);refine cSR fun K4 hK4=>sFa (f:=4) (k:=4) Tryz.underlying27 rfl Tryz.sizeOf25 rfl rfl F rfl rfl rfl (qLd Tryz.isAgg25 rfl rfl rfl (H.cell 2 rfl rfl) (qLen Tryz.underlying25 rfl rfl rfl (qMv rfl rfl rfl (qNK hK4 ?_))));clear hK4;clear F a;intro a F;refine wp_block ?_
   refine cLoopR [1,2,4,9,10] (fun m ups w=>∃ (j:Nat) (A5:Option Addr) (c5:Nat) (S:Nat→Prop) (rows:List (List Value)),m=kids.length - j∧ups=[(5,.slice A5 rows.length c5),(11,.int .i64 ((j:Nat):Int))]∧rows.length=j∧j≤kids.length∧(∀ r ∈ rows,r.length=5)∧Own w0 none w [.forest S h rows kids,.rws 27 5 (.slice A5 rows.length c5) rows,.blk b4 [Go.Proofs.YtkchaoajegkadaaGreatDoor.b8 0,Go.Proofs.YtkchaoajegkadaaGreatDoor.b8 0,Go.Proofs.YtkchaoajegkadaaGreatDoor.b8 0,Go.Proofs.YtkchaoajegkadaaGreatDoor.b8 0,.slice none 0 0] 27,.blk b2 [Go.Proofs.YtkchaoajegkadaaGreatDoor.b8 k,Go.Proofs.YtkchaoajegkadaaGreatDoor.b8 t,Go.Proofs.YtkchaoajegkadaaGreatDoor.b8 n,Go.Proofs.YtkchaoajegkadaaGreatDoor.b8 v,.slice A kids.length C] 27]) F (kids.length) [(5,.slice none 0 0),(11,.int .i64 ((0:Nat):Int))] (by repeat (first | exact SubR.nil | (apply SubR.cons;· rfl))) ?_ ?_ ?_
   · exact ⟨0,none,0,fun _=>False,[],rfl,rfl,rfl,Nat.zero_le _,(by simp),(H.sel [0,1,2] rfl rfl).void (.forest (fun _=>False) h [] kids) (fun j r kid h1=>by simp at h1) (fun _ hb=>hb)⟩
   · repeat (first | exact trivial | refine Le.cons rfl ?_)
   clear F
   clear H
   intro m ups a w hI F
   obtain ⟨j,A5,c5,S,rows,rfl,rfl,hrj,hj,hr5,H⟩:=hI
   refine cSR fun K5 hK5=>sBin F rfl rfl rfl rfl bLss (qNK hK5 ?_);clear hK5;clear F a;intro a F;refine cSeq (fun K6 hK6=>?_)
   refine cIf F rfl (fun h12=>?_) (fun h12=>?_)
   ·
    replace h12:=of_decide_eq_true h12
    have hjl:j < kids.length:=by omega
    obtain ⟨kid,hx⟩:∃ x,kids[j]? = some x:=⟨_,List.getElem?_eq_getElem hjl⟩
    obtain ⟨b',off',cs',rfl,hR',hC'⟩:=hK j kid hx
    obtain ⟨k0,t0,n0,v0,A0,m0,C0,rfl⟩:=condShape hC'
    refine wp_skip (hK6 _ _ ?_);clear hK6;refine cSeq (fun K7 hK7=>?_);refine wp_block ?_;refine cSR fun K8 hK8=>?_
    refine sIx Tryz.underlying25 Tryz.sizeOf27 F rfl rfl rfl rfl ?_ ?_
    focus (first | omega | decide | (simp;omega))
    clear F a;intro a F
    refine sLr Tryz.underlying27 rfl ?si F rfl rfl rfl (H.argR hR') ?_
    case si=>exact info_size Tryz.sizeOf27
    clear F a;intro a F;refine sAl H Tryz.zeroValue27 F rfl rfl ?_;clear F a H;intro b7 a w F H
    refine sSr H 0 ?si F rfl rfl rfl ?s1 rfl rfl ?_
    case si=>exact info_size Tryz.sizeOf27
    case s1=>first | rfl | (repeat (first | exact one_nil | (apply one_cons;· first | rfl | assumption | exact one_bif rfl rfl)))
    clear H;intro w H;refine nK hK8 (cReg (sMv F rfl rfl rfl ?_));clear hK8;clear F a;intro a F
    refine sLr Tryz.underlying27 rfl ?si F rfl rfl rfl (H.whole 0 rfl) ?_
    case si=>exact info_size Tryz.sizeOf27
    clear F a;intro a F;refine sMv F rfl rfl rfl ?_;clear F a;intro a F;refine sCall Tryz.call126 F rfl rfl rfl (ih _ kid _ (CondAt.grown H.grown rfl _ _ _ hC') (hs2 kid (List.mem_of_getElem? hx))) ?_;rintro e w ⟨cs9,S9,rfl,H2⟩
    have hsh:=condShape (H2.pred 0 _ rfl:TreeIn S9 _ h cs9 kid).at
    obtain ⟨k9,t9,n9,v9,A9,m9,C9,rfl⟩:=hsh
    replace H:=H.join H2;clear H2;refine ⟨_,rfl,?_⟩;clear F a;intro a F;refine sBsA H Tryz.underlying25 Tryz.sizeOf27 Tryz.zeroValue27 rfl F rfl rfl rfl rfl rfl ?_;clear F a H;intro b19 a w F H
    refine sApp1 (bytes:=32) H 4 Tryz.underlying25 Tryz.typeInfo27 rfl rfl rfl rfl rfl rfl F rfl rfl rfl rfl rfl (H.whole 0 rfl) rfl ?s1 ?s2 ?_
    case s1=>first | rfl | (repeat (first | exact one_nil | (apply one_cons;· first | rfl | assumption | exact one_bif rfl rfl)))
    case s2=>omega
    clear F a H;intro A20 c20 a w F H;refine sAs F rfl rfl rfl (qNK hK7 (qReg ?_));clear hK7;clear F a;intro a F
    refine sBin F rfl rfl rfl rfl (bAddN (j:=1) ?_) ?_
    focus omega
    clear F a;intro a F;refine sMv F rfl rfl rfl ?_;clear F a;intro a F;refine sNil ?_
    (refine ⟨_,?_,_,⟨j+1,A20,c20,_,_,rfl,rfl,?_,?_,?_,(H.sel [1,3,4,5,6] rfl rfl).plant (by rw [hrj];exact hx)⟩,F.to (by repeat (first | exact trivial | refine Le.cons rfl ?_))⟩
     · omega
     · simp;omega
     · omega
     · intro r hr
       rcases List.mem_append.1 hr with h1 | h1
       · exact hr5 r h1
       · simp at h1;subst h1;rfl)
   replace h12:=of_decide_eq_false h12
   have hjl:rows.length=kids.length:=by omega
   refine wp_exit ?_;refine hK3 _ _ (cSR fun K9 hK9=>sMv F rfl rfl rfl (qFa (f:=4) (k:=4) Tryz.underlying27 rfl Tryz.sizeOf25 rfl rfl rfl rfl rfl ?_));clear hK3;clear F a;intro a F;refine sSt H 3 Tryz.sizeOf25 F rfl rfl rfl rfl rfl rfl ?_;clear H;intro w H;refine nK hK9 (cSR fun K10 hK10=>sMv F rfl rfl rfl ?_);clear hK9;clear F a;intro a F;refine sCallV F rfl rfl rfl rfl (nothing_any _ _) ?_;rintro e w ⟨rfl,hb⟩;replace H:=H.grow hb;clear hb;refine ⟨_,rfl,?_⟩;clear F a;intro a F;refine nK hK10 (cSR fun K11 hK11=>?_);clear hK10
   refine sLr Tryz.underlying27 rfl ?si F rfl rfl rfl (H.whole 3 rfl) ?_
   case si=>exact info_size Tryz.sizeOf27
   clear F a;intro a F
   refine sSr H 2 ?si F rfl rfl rfl ?s1 rfl rfl ?_
   case si=>exact info_size Tryz.sizeOf27
   case s1=>first | rfl | (repeat (first | exact one_nil | (apply one_cons;· first | rfl | assumption | exact one_bif rfl rfl)))
   clear H;intro w H;refine nK hK11 ?_;clear hK11;refine wp_ret ?_;refine bRetC Tryz.results126 F rfl Tryz.underlying27 rfl H 2 rfl Tryz.sizeOf27 rfl ?_
   exact ⟨_,_,rfl,((H.sel [0,1] rfl rfl).grown1 k t n v hjl hr5 hkl)⟩
-- FoF
open Go.RowKit
set_option maxRecDepth 100000
set_option maxHeartbeats 2000000 in
theorem cloneS_any (A:Option Addr) (C:Nat) (rows:List (List Value)) (w0:World) (hR:RowsAt w0 A 1 rows) (hr:∀ r ∈ rows,r.length=1) (h1:∀ r ∈ rows,r.all (·.oneCell')=true) (hn:rows.length≤1099511627776) :
   Calls Tryz.prog 123 #[.slice A rows.length C] w0 fun e w'=>∃ A2 c2 S,e = .returned (.slice A2 rows.length c2)∧rows.length≤c2∧Own w0 none w' [.held S A2 1 rows]:=by
 have H:=Own.start w0 none
 refine enterF Tryz.func123 rfl Tryz.ntmps123 rfl (fun a F=>?_);refine cSR fun K1 hK1=>sAs F rfl rfl rfl (qNK hK1 ?_);clear hK1;clear F a;intro a F;refine cSeq (fun K2 hK2=>?_);refine cSR fun K3 hK3=>sMv F rfl rfl rfl (qBin rfl rfl rfl rfl (bNil Tryz.underlying22) (qNK hK3 ?_));clear hK3;clear F a;intro a F
 refine cIf F rfl (fun h4=>?_) (fun h4=>?_)
 ·
  obtain rfl:A=none:=by cases A with | none=>rfl | some a=>cases h4
  obtain rfl:rows=[]:=by
   cases rows with
   | nil=>rfl
   | cons r rs=>
    obtain ⟨b,o,he,_⟩:=hR 0 r rfl
    cases he
  refine cSR fun K4 hK4=>sAs F rfl rfl rfl (qNK hK4 ?_);clear hK4;clear F a;intro a F;refine wp_ret ?_;simp only [Exit.then];refine bRet Tryz.results123 F rfl ?_
  first
    | exact ⟨none,0,fun _=>False,rfl,Nat.le_refl _,H.void (.held (fun _=>False) none 1 []) (show ∀ (j:Nat) (cs:List Value),([]:List (List Value))[j]? = some cs→_ from fun j cs h=>by simp at h) (fun _ hb=>hb)⟩
    | (have hq:=H.rwsLen 0 rfl
       simp only [List.nil_append] at H hq
       exact ⟨_,_,_,rfl,hq.2.1,((H.pick 0 rfl).toHeld hr Nat.zero_lt_one)⟩)
 obtain ⟨a0,rfl⟩:∃ a0,A=some a0:=by cases A with | none=>cases h4 | some a=>exact ⟨a,rfl⟩
 refine wp_skip (hK2 _ _ (cSR fun K5 hK5=>?_));clear hK2;refine sBs (cs:=[]) H Tryz.underlying22 Tryz.sizeOf9 Tryz.zeroValue9 rfl F rfl rfl rfl rfl rfl ?_;clear F a H;intro b5 a w F H
 replace H:=H.emptyRws 1
 refine sMv F rfl rfl rfl ?_;clear F a;intro a F;refine sAppM (bytes:=16) H 0 Tryz.underlying22 Tryz.typeInfo9 rfl rfl rfl rfl rfl rfl F rfl rfl rfl rfl rfl (by first | rfl | simp) (((hR.own H).flat hr)) (hr) (h1) ((by simp only [List.length_nil];omega)) ?_;clear F a H;intro A7 c7 a w F H;refine sAs F rfl rfl rfl (qNK hK5 ?_);clear hK5;clear F a;intro a F;refine wp_ret ?_;refine bRet Tryz.results123 F rfl ?_
 first
   | exact ⟨none,0,fun _=>False,rfl,Nat.le_refl _,H.void (.held (fun _=>False) none 1 []) (show ∀ (j:Nat) (cs:List Value),([]:List (List Value))[j]? = some cs→_ from fun j cs h=>by simp at h) (fun _ hb=>hb)⟩
   | (have hq:=H.rwsLen 0 rfl
      simp only [List.nil_append] at H hq
      exact ⟨_,_,_,rfl,hq.2.1,((H.pick 0 rfl).toHeld hr Nat.zero_lt_one)⟩)
set_option maxHeartbeats 2000000 in
theorem cloneB_any (A:Option Addr) (C:Nat) (rows:List (List Value)) (w0:World) (hR:RowsAt w0 A 1 rows) (hr:∀ r ∈ rows,r.length=1) (h1:∀ r ∈ rows,r.all (·.oneCell')=true) (hn:rows.length≤1099511627776) :
   Calls Tryz.prog 124 #[.slice A rows.length C] w0 fun e w'=>∃ A2 c2 S,e = .returned (.slice A2 rows.length c2)∧rows.length≤c2∧Own w0 none w' [.held S A2 1 rows]:=by
 have H:=Own.start w0 none
 refine enterF Tryz.func124 rfl Tryz.ntmps124 rfl (fun a F=>?_);refine cSR fun K1 hK1=>sAs F rfl rfl rfl (qNK hK1 ?_);clear hK1;clear F a;intro a F;refine cSeq (fun K2 hK2=>?_);refine cSR fun K3 hK3=>sMv F rfl rfl rfl (qBin rfl rfl rfl rfl (bNil Tryz.underlying23) (qNK hK3 ?_));clear hK3;clear F a;intro a F
 refine cIf F rfl (fun h4=>?_) (fun h4=>?_)
 ·
  obtain rfl:A=none:=by cases A with | none=>rfl | some a=>cases h4
  obtain rfl:rows=[]:=by
   cases rows with
   | nil=>rfl
   | cons r rs=>
    obtain ⟨b,o,he,_⟩:=hR 0 r rfl
    cases he
  refine cSR fun K4 hK4=>sAs F rfl rfl rfl (qNK hK4 ?_);clear hK4;clear F a;intro a F;refine wp_ret ?_;simp only [Exit.then];refine bRet Tryz.results124 F rfl ?_
  first
    | exact ⟨none,0,fun _=>False,rfl,Nat.le_refl _,H.void (.held (fun _=>False) none 1 []) (show ∀ (j:Nat) (cs:List Value),([]:List (List Value))[j]? = some cs→_ from fun j cs h=>by simp at h) (fun _ hb=>hb)⟩
    | (have hq:=H.rwsLen 0 rfl
       simp only [List.nil_append] at H hq
       exact ⟨_,_,_,rfl,hq.2.1,((H.pick 0 rfl).toHeld hr Nat.zero_lt_one)⟩)
 obtain ⟨a0,rfl⟩:∃ a0,A=some a0:=by cases A with | none=>cases h4 | some a=>exact ⟨a,rfl⟩
 refine wp_skip (hK2 _ _ (cSR fun K5 hK5=>?_));clear hK2;refine sBs (cs:=[]) H Tryz.underlying23 Tryz.sizeOf5 Tryz.zeroValue5 rfl F rfl rfl rfl rfl rfl ?_;clear F a H;intro b5 a w F H
 replace H:=H.emptyRws 1
 refine sMv F rfl rfl rfl ?_;clear F a;intro a F;refine sAppM (bytes:=1) H 0 Tryz.underlying23 Tryz.typeInfo5 rfl rfl rfl rfl rfl rfl F rfl rfl rfl rfl rfl (by first | rfl | simp) (((hR.own H).flat hr)) (hr) (h1) ((by simp only [List.length_nil];omega)) ?_;clear F a H;intro A7 c7 a w F H;refine sAs F rfl rfl rfl (qNK hK5 ?_);clear hK5;clear F a;intro a F;refine wp_ret ?_;refine bRet Tryz.results124 F rfl ?_
 first
   | exact ⟨none,0,fun _=>False,rfl,Nat.le_refl _,H.void (.held (fun _=>False) none 1 []) (show ∀ (j:Nat) (cs:List Value),([]:List (List Value))[j]? = some cs→_ from fun j cs h=>by simp at h) (fun _ hb=>hb)⟩
   | (have hq:=H.rwsLen 0 rfl
      simp only [List.nil_append] at H hq
      exact ⟨_,_,_,rfl,hq.2.1,((H.pick 0 rfl).toHeld hr Nat.zero_lt_one)⟩)
-- FoG
open Go.Proofs.Tryz
open Go.RowKit
set_option maxRecDepth 100000
def heldP (S:Nat→Prop) (w:World) (A:Option Addr) (sz:Nat) (rows:List (List Value)):Prop:=∀ (j:Nat) (cs:List Value),rows[j]? = some cs→∃ b off,A=some ⟨b,off,none⟩∧S b∧w.rangeAt b (off+j * sz) cs
theorem heldP.loc {S T:Nat→Prop} {w w':World} {A:Option Addr} {sz:Nat} {rows:List (List Value)} (h:heldP S w A sz rows) (hs:∀ b,S b→w'.heap[b]? = w.heap[b]?) (hT:∀ b,S b→T b):heldP T w' A sz rows:=fun j cs hj=>by
 obtain ⟨b,off,h1,h2,h3⟩:=h j cs hj
 exact ⟨b,off,h1,hT b h2,range_same (hs b h2) h3⟩
def groveP (S:Nat→Prop) (w:World) (rows:List (List Value)) (ts:List (List Ins)):Prop:=∀ (j:Nat) (r:List Value) (t:List Ins),rows[j]? = some r→ts[j]? = some t→∃ B C,r=[.slice B t.length C]∧heldP S w B 10 (t.map Ins.cells)
def Res.grove (S:Nat→Prop) (rows:List (List Value)) (ts:List (List Ins)):Res:=⟨S,fun w=>groveP S w rows ts,fun _ _ hb hp j r t h1 h2=>by
 obtain ⟨B,C,h3,h4⟩:=hp j r t h1 h2
 exact ⟨B,C,h3,h4.loc hb (fun _ h=>h)⟩⟩
theorem Own.plantG {w0 w:World} {row:Option Nat} {S T:Nat→Prop} {A:Option Addr} {n c:Nat} {t:List Ins} {rows:List (List Value)} {ts:List (List Ins)} {rs:List Res} (H:Own w0 row w (.held T A 10 (t.map Ins.cells) :: .grove S rows ts :: rs)) (hk:ts[rows.length]? = some t) (hn:n=t.length) :
   Own w0 row w (.grove (fun b=>T b∨S b) (rows++[[Value.slice A n c]]) ts :: rs):=by
 subst hn
 have hT:heldP T w A 10 (t.map Ins.cells):=H.pred 0 _ rfl
 have hS:groveP S w rows ts:=H.pred 1 _ rfl
 refine H.fuse (Res.grove (fun b=>T b∨S b) (rows++[[Value.slice A t.length c]]) ts) (show groveP (fun b=>T b∨S b) w (rows++[[Value.slice A t.length c]]) ts from fun j r u h1 h2=>?_) (fun b hb=>hb)
 rcases Nat.lt_or_ge j rows.length with hj | hj
 · rw [List.getElem?_append_left hj] at h1
   obtain ⟨B,C,h3,h4⟩:=hS j r u h1 h2
   exact ⟨B,C,h3,h4.loc (fun _ _=>rfl) (fun _ h=>.inr h)⟩
 · rw [List.getElem?_append_right hj] at h1
   obtain e:j - rows.length=0:=by
     rcases Nat.eq_zero_or_pos (j - rows.length) with e | e
     · exact e
     · rw [List.getElem?_eq_none (by simp;omega)] at h1;cases h1
   rw [e] at h1
   obtain rfl:j=rows.length:=by omega
   rw [hk] at h2
   cases h1;cases h2
   exact ⟨A,c,rfl,hT.loc (fun _ _=>rfl) (fun _ h=>.inl h)⟩
def FoldOut (p:Prg) (w0 w:World) (h:Nat) (v:Value):Prop:=
 ∃ LA LC S1 IA IC S2 TA TC rows S3 ccs S4,v = .agg ([.string p.name,.slice LA p.locs.length LC,.slice IA p.init.length IC,.slice TA p.threads.length TC,Go.Proofs.YtkchaoajegkadaaGreatDoor.b8 p.ask]++ccs).toArray∧p.locs.length≤LC∧rows.length=p.threads.length∧(∀ r ∈ rows,r.length=1) ∧
   Own w0 none w [.tree S4 h ccs p.cond,.rws 52 1 (.slice TA p.threads.length TC) rows,.grove S3 rows (p.threads.map foldP),.held S2 IA 1 (p.init.map fun x=>[Go.Proofs.YtkchaoajegkadaaGreatDoor.b8 x]),.held S1 LA 1 (p.locs.map fun s=>[.string s])]
def hvP (l:List Ins):Prop:=∀ i x,l[i]? = some x→x.op=8→1≤x.skip.toNat∧i+1+x.skip.toNat≤l.length
def FoldPre (p:Prg):Prop:=p.threads.length≤4∧p.init.length≤1099511627776∧∀ t ∈ p.threads,t.length≤12∧hvP t
def zeroPr:List Value:=[.string ByteArray.empty,.slice none 0 0,.slice none 0 0,.slice none 0 0,.int .u8 0,.int .u8 0,.int .u8 0,.int .u8 0,.int .u8 0,.slice none 0 0]
set_option maxHeartbeats 8000000 in
theorem Fold_any (cs:List Value) (p:Prg) (LA:Option Addr) (LC:Nat) (IA:Option Addr) (IC:Nat) (TA:Option Addr) (TC h:Nat) (ccs:List Value) (w0:World) (hp:ProgIn w0 cs p LA LC IA IC TA TC h ccs) (hN:NeedsAt w0) (hs:rightErr p=0→Slim h p.cond) (hl:rightErr p=0→p.locs.length≤1099511627776) (hOk:rightErr p=0→FoldPre p) :
   Calls Tryz.prog 70 #[.agg cs.toArray] w0 fun e w'=>
     (rightErr p ≠ 0∧e = .returned (.tuple #[.agg zeroPr.toArray,.int .i64 (rightErr p)])∧Below w0.heap.size w0 w')∨(rightErr p=0∧∃ v,e = .returned (.tuple #[v,.int .i64 0])∧FoldOut p w0 w' h v):=by
 have hP:ProgAt w0 cs p:=⟨_,_,_,_,_,_,_,_,hp⟩
 obtain ⟨c1,c2,c3,c4,A5,m5,C5,rfl⟩:=condShape hp.cond
 have hcs:=hp.cs
 simp only [List.cons_append,List.nil_append] at hcs
 subst hcs
 have H:=Own.start w0 none
 refine enterF func70 rfl ntmps70 rfl (fun a F=>?_);refine cSR fun K1 hK1=>?_;refine sBx H F rfl rfl rfl ?_;clear F a H;intro b1 a w F H;refine sAl H zeroValue29 F rfl rfl ?_;clear F a H;intro b2 a w F H;refine sAs F rfl rfl rfl (qNK hK1 ?_);clear hK1;clear F a;intro a F;refine cSeq (fun K2 hK2=>?_);refine cSR fun K3 hK3=>?_
 refine sLr underlying29 rfl ?si F rfl rfl rfl (H.whole 1 rfl) ?_
 case si=>exact info_size sizeOf29
 clear F a;intro a F;refine sCall call19 F rfl rfl rfl (right_any' _ p _ (hP.own H) (hN.own H)) ?_;rintro e w ⟨rfl,hb⟩;replace H:=H.grow hb;clear hb;refine ⟨_,rfl,?_⟩;clear F a;intro a F;refine sAs F rfl rfl rfl (qNK hK3 (qSR fun K4 hK4=>qMv rfl rfl rfl (qBin rfl rfl rfl rfl bNeq (qNK hK4 ?_))));clear hK3 hK4;clear F a;intro a F
 refine cIf F rfl (fun h11=>?_) (fun h11=>?_)
 ·
  replace h11:=bneT h11;refine cSR fun K5 hK5=>sBd (places:=[(0,1),(1,1),(2,1),(3,1),(4,1),(5,5)]) zeroValue29 underlying29 (by kernel_rfl) F rfl rfl rfl rfl (qMv rfl rfl rfl ?_);clear F a;intro a F
  refine sSr H 0 ?si F rfl rfl rfl ?s1 rfl rfl ?_
  case si=>exact info_size sizeOf29
  case s1=>first | rfl | (repeat (first | exact one_nil | (apply one_cons;· first | rfl | assumption | exact one_bif rfl rfl)))
  clear H;intro w H;refine sAs F rfl rfl rfl (qNK hK5 ?_);clear hK5;clear F a;intro a F;refine wp_ret ?_;simp only [Exit.then];refine bRetC1 results70 F rfl rfl underlying29 rfl H 0 rfl sizeOf29 rfl ?_
  first
    | exact .inl ⟨h11,rfl,H.below⟩
    | (refine .inr ⟨h0,_,rfl,?_⟩
       subst hrj
       exact ⟨A18,c18,S18,A21,c21,S21,A3,c3',rows,S,_,S9,by rw [hjl];rfl,by assumption,hjl,hr1,by rw [← hjl];exact H.sel [0,0,0,0,0] rfl rfl⟩)
 replace h11:=bneF h11
 have h0:rightErr p=0:=by omega
 obtain ⟨ht4,hi40,htt⟩:=hOk h0
 replace hs:=hs h0
 replace hl:=hl h0
 refine wp_skip (hK2 _ _ ?_);clear hK2;refine cSeq (fun K6 hK6=>?_);refine cRegRO (by kernel_rfl) H ?_;replace H:=H.drew;refine eTF 0 rfl (by kernel_rfl) F rfl rfl rfl (fun w=>rFa (f:=0) (k:=0) underlying29 rfl sizeOf9 rfl rfl F rfl) H qq0 (qT 1 rfl (by kernel_rfl) rfl rfl rfl rfl (fun a F w H=>rLd isAgg9 F rfl (H.cell 1 rfl rfl)) H qq0 (qTF 2 rfl (by kernel_rfl) rfl rfl rfl (fun a F w=>rFa (f:=1) (k:=1) underlying29 rfl sizeOf22 rfl rfl F rfl) H qq0 (qT 3 rfl (by kernel_rfl) rfl rfl rfl rfl (fun a F w H=>rLd isAgg22 F rfl (H.cell 1 rfl rfl)) H qq0 (qTF 5 rfl (by kernel_rfl) rfl rfl rfl (fun a F w=>rFa (f:=2) (k:=2) underlying29 rfl sizeOf23 rfl rfl F rfl) H qq0 (qT 6 rfl (by kernel_rfl) rfl rfl rfl rfl (fun a F w H=>rLd isAgg23 F rfl (H.cell 1 rfl rfl)) H qq0 (qTF 8 rfl (by kernel_rfl) rfl rfl rfl (fun a F w=>rFa (f:=4) (k:=4) underlying29 rfl sizeOf5 rfl rfl F rfl) H qq0 (qT 9 rfl (by kernel_rfl) rfl rfl rfl rfl (fun a F w H=>rLd isAgg5 F rfl (H.cell 1 rfl rfl)) H qq0 ?_)))))));clear F a;intro a F
 refine eJoin F H [1,2] 12 [true,true,true,true,true,true,true,true,true,true,true,true,false] (fun rs ups w=>∃ A18 c18 S18 A21 c21 S21 b5,ups=[(24,.agg ([.string p.name,.slice A18 p.locs.length c18,.slice A21 p.init.length c21,.slice none 0 0,Go.Proofs.YtkchaoajegkadaaGreatDoor.b8 p.ask,.int .u8 0,.int .u8 0,.int .u8 0,.int .u8 0,.slice none 0 0]:List Value).toArray),(5,.pointer (some ⟨b5,0,none⟩))]∧p.locs.length≤c18∧Own w0 none w ((.held S18 A18 1 (p.locs.map fun s=>[.string s])) :: (.held S21 A21 1 (p.init.map fun x=>[Go.Proofs.YtkchaoajegkadaaGreatDoor.b8 x])) :: (.blk b5 [.string ByteArray.empty,.slice none 0 0,.slice none 0 0,.slice none 0 0,.int .u8 0,.int .u8 0,.int .u8 0,.int .u8 0,.int .u8 0,.slice none 0 0] 29) :: rs)) (by repeat (first | exact SubR.nil | (apply SubR.cons;· rfl))) ?_ (fun hJ=>?_)
 rotate_left
 ·
  refine eTwo (k:=8) (i:=4) (j:=11) (by kernel_rfl) F rfl rfl rfl rfl ?_ ?_
  ·
   refine oCall call123 F rfl rfl ((by have:=cloneS_any LA LC _ _ (hp.locs.own H) (by simp) (by simp [Value.oneCell']) (by simpa using hl);simp only [List.length_map] at this;exact this)) ?_;rintro e w ⟨A18,c18,S18,rfl,hc18,H2⟩;replace H:=H.join H2;clear H2;refine ⟨_,rfl,?_⟩;clear F a;intro a F;refine eKeep H.tail ?_
   refine eTwo (k:=9) (i:=7) (j:=11) (by kernel_rfl) F rfl rfl rfl rfl ?_ ?_
   ·
    refine oCall call124 F rfl rfl ((by have:=cloneB_any IA IC _ _ (hp.init.own H) (by simp) (by simp [Go.Proofs.YtkchaoajegkadaaGreatDoor.b8,Value.oneCell']) (by simpa using hi40);simp only [List.length_map] at this;exact this)) ?_;rintro e w ⟨A21,c21,S21,rfl,hc21,H2⟩;replace H:=H.join H2;clear H2;refine ⟨_,rfl,?_⟩;clear F a;intro a F;refine eKeep H.tail.tail ?_;refine eT 10 rfl (by kernel_rfl) F rfl rfl rfl rfl (fun w H=>rBd (cs:=([.string p.name,.slice A18 p.locs.length c18,.slice A21 p.init.length c21,.slice none 0 0,Go.Proofs.YtkchaoajegkadaaGreatDoor.b8 p.ask,.int .u8 0,.int .u8 0,.int .u8 0,.int .u8 0,.slice none 0 0]:List Value)) (places:=[(0,1),(1,1),(2,1),(3,1),(4,1),(5,5)]) zeroValue29 underlying29 (by kernel_rfl) F rfl rfl) H.tail.tail qq0 ?_;clear F a;intro a F;refine eOne (k:=11) (i:=11) rfl (by kernel_rfl) F rfl (oAl H zeroValue29 F rfl ?_);clear F a H;intro b5 a w F H;refine eKeep H.tail.tail.tail ?_
    exact eGo hJ (by kernel_rfl) _ ⟨A18,c18,S18,A21,c21,S21,b5,rfl,by assumption,H.sel [2,1,0,3,4] rfl rfl⟩ (F.to (by repeat (first | exact trivial | refine Le.cons rfl ?_)))
   refine oAl H zeroValue29 F rfl ?_;clear F a H;intro b5 a w F H;refine eKeep H.tail.tail ?_;refine eOne (k:=10) (i:=7) rfl (by kernel_rfl) F rfl (oCall call124 F rfl rfl ((by have:=cloneB_any IA IC _ _ (hp.init.own H) (by simp) (by simp [Go.Proofs.YtkchaoajegkadaaGreatDoor.b8,Value.oneCell']) (by simpa using hi40);simp only [List.length_map] at this;exact this)) ?_);rintro e w ⟨A21,c21,S21,rfl,hc21,H2⟩;replace H:=H.join H2;clear H2;refine ⟨_,rfl,?_⟩;clear F a;intro a F;refine eKeep H.tail.tail.tail ?_;refine eT 10 rfl (by kernel_rfl) F rfl rfl rfl rfl (fun w H=>rBd (cs:=([.string p.name,.slice A18 p.locs.length c18,.slice A21 p.init.length c21,.slice none 0 0,Go.Proofs.YtkchaoajegkadaaGreatDoor.b8 p.ask,.int .u8 0,.int .u8 0,.int .u8 0,.int .u8 0,.slice none 0 0]:List Value)) (places:=[(0,1),(1,1),(2,1),(3,1),(4,1),(5,5)]) zeroValue29 underlying29 (by kernel_rfl) F rfl rfl) H.tail.tail.tail qq0 ?_;clear F a;intro a F
   exact eGo hJ (by kernel_rfl) _ ⟨A18,c18,S18,A21,c21,S21,b5,rfl,by assumption,H.sel [2,0,1,3,4] rfl rfl⟩ (F.to (by repeat (first | exact trivial | refine Le.cons rfl ?_)))
  refine oAl H zeroValue29 F rfl ?_;clear F a H;intro b5 a w F H;refine eKeep H.tail ?_;refine eOne (k:=9) (i:=4) rfl (by kernel_rfl) F rfl (oCall call123 F rfl rfl ((by have:=cloneS_any LA LC _ _ (hp.locs.own H) (by simp) (by simp [Value.oneCell']) (by simpa using hl);simp only [List.length_map] at this;exact this)) ?_);rintro e w ⟨A18,c18,S18,rfl,hc18,H2⟩;replace H:=H.join H2;clear H2;refine ⟨_,rfl,?_⟩;clear F a;intro a F;refine eKeep H.tail.tail ?_;refine eOne (k:=10) (i:=7) rfl (by kernel_rfl) F rfl (oCall call124 F rfl rfl ((by have:=cloneB_any IA IC _ _ (hp.init.own H) (by simp) (by simp [Go.Proofs.YtkchaoajegkadaaGreatDoor.b8,Value.oneCell']) (by simpa using hi40);simp only [List.length_map] at this;exact this)) ?_);rintro e w ⟨A21,c21,S21,rfl,hc21,H2⟩;replace H:=H.join H2;clear H2;refine ⟨_,rfl,?_⟩;clear F a;intro a F;refine eKeep H.tail.tail.tail ?_;refine eT 10 rfl (by kernel_rfl) F rfl rfl rfl rfl (fun w H=>rBd (cs:=([.string p.name,.slice A18 p.locs.length c18,.slice A21 p.init.length c21,.slice none 0 0,Go.Proofs.YtkchaoajegkadaaGreatDoor.b8 p.ask,.int .u8 0,.int .u8 0,.int .u8 0,.int .u8 0,.slice none 0 0]:List Value)) (places:=[(0,1),(1,1),(2,1),(3,1),(4,1),(5,5)]) zeroValue29 underlying29 (by kernel_rfl) F rfl rfl) H.tail.tail.tail qq0 ?_;clear F a;intro a F
  exact eGo hJ (by kernel_rfl) _ ⟨A18,c18,S18,A21,c21,S21,b5,rfl,by assumption,H.sel [1,0,2,3,4] rfl rfl⟩ (F.to (by repeat (first | exact trivial | refine Le.cons rfl ?_)))
 clear F H;intro ups a w hI F
 obtain ⟨A18,c18,S18,A21,c21,S21,b5,rfl,hfl0,H⟩:=hI
 refine eOne (k:=12) (i:=12) rfl (by kernel_rfl) F rfl (oSr H 2 ?si F rfl rfl ?s1 rfl rfl ?_)
 case si=>exact info_size sizeOf29
 case s1=>first | rfl | (repeat (first | exact one_nil | (apply one_cons;· first | rfl | assumption | exact one_bif rfl rfl)))
 clear H;intro w H;refine ePartO (by kernel_rfl) H ?_;refine eNil (k:=13) (by kernel_rfl) ?_;refine hK6 _ _ ?_;clear hK6;refine cSeq (fun K7 hK7=>?_);refine cSR fun K8 hK8=>sFa (f:=3) (k:=3) underlying29 rfl sizeOf24 rfl rfl F rfl rfl rfl (qLd isAgg24 rfl rfl rfl (H.cell 4 rfl rfl) (qLen underlying24 rfl rfl rfl (qMv rfl rfl rfl (qNK hK8 ?_))));clear hK8;clear F a;intro a F;refine wp_block ?_
 refine cLoopR [1,2,5,26,27] (fun m ups w=>∃ (j:Nat) (A3:Option Addr) (c3':Nat) (S:Nat→Prop) (rows:List (List Value)),m=p.threads.length - j∧ups=[(28,.int .i64 ((j:Nat):Int))]∧rows.length=j∧j≤p.threads.length∧(∀ r ∈ rows,r.length=1)∧Own w0 none w [.grove S rows (p.threads.map foldP),.rws 52 1 (.slice A3 rows.length c3') rows,.blk b5 [.string p.name,.slice A18 p.locs.length c18,.slice A21 p.init.length c21,.slice A3 rows.length c3',Go.Proofs.YtkchaoajegkadaaGreatDoor.b8 p.ask,.int .u8 0,.int .u8 0,.int .u8 0,.int .u8 0,.slice none 0 0] 29,.held S21 A21 1 (p.init.map fun x=>[Go.Proofs.YtkchaoajegkadaaGreatDoor.b8 x]),.held S18 A18 1 (p.locs.map fun s=>[.string s]),.blk b2 [.string ByteArray.empty,.slice none 0 0,.slice none 0 0,.slice none 0 0,.int .u8 0,.int .u8 0,.int .u8 0,.int .u8 0,.int .u8 0,.slice none 0 0] 29,.blk b1 [.string p.name,.slice LA p.locs.length LC,.slice IA p.init.length IC,.slice TA p.threads.length TC,Go.Proofs.YtkchaoajegkadaaGreatDoor.b8 p.ask,Go.Proofs.YtkchaoajegkadaaGreatDoor.b8 c1,Go.Proofs.YtkchaoajegkadaaGreatDoor.b8 c2,Go.Proofs.YtkchaoajegkadaaGreatDoor.b8 c3,Go.Proofs.YtkchaoajegkadaaGreatDoor.b8 c4,.slice A5 m5 C5] 29]) F (p.threads.length) [(28,.int .i64 ((0:Nat):Int))] (by repeat (first | exact SubR.nil | (apply SubR.cons;· rfl))) ?_ ?_ ?_
 · exact ⟨0,none,0,fun _=>False,[],rfl,rfl,rfl,Nat.zero_le _,(by simp),((H.sel [2,1,0,3,4] rfl rfl).nilRws 52 1).void (.grove (fun _=>False) [] (p.threads.map foldP)) (show groveP (fun _=>False) _ [] (p.threads.map foldP) from fun j r t h1=>by simp at h1) (fun _ hb=>hb)⟩
 · repeat (first | exact trivial | refine Le.cons rfl ?_)
 clear F
 clear H
 intro m ups a w hI F
 obtain ⟨j,A3,c3',S,rows,rfl,rfl,hrj,hj,hr1,H⟩:=hI
 refine cSR fun K9 hK9=>sBin F rfl rfl rfl rfl bLss (qNK hK9 ?_);clear hK9;clear F a;intro a F;refine cSeq (fun K10 hK10=>?_)
 refine cIf F rfl (fun h29=>?_) (fun h29=>?_)
 ·
  replace h29:=of_decide_eq_true h29
  have hjl:j < p.threads.length:=by omega
  obtain ⟨t,hx⟩:∃ x,p.threads[j]? = some x:=⟨_,List.getElem?_eq_getElem hjl⟩
  obtain ⟨b',off',B',C',rfl,hB',hR',hN'⟩:=hp.threads j t hx
  obtain ⟨ht12,hvt⟩:=htt t (List.mem_of_getElem? hx)
  refine wp_skip (hK10 _ _ ?_);clear hK10;refine cSeq (fun K11 hK11=>?_);refine wp_block ?_;refine cSR fun K12 hK12=>?_
  refine sIx underlying24 sizeOf52 F rfl rfl rfl rfl ?_ ?_
  focus (first | omega | decide | (simp;omega))
  clear F a;intro a F;refine sLd isAgg52 F rfl rfl rfl (H.arg hB') (qAs rfl rfl rfl (qNK hK12 ?_));clear hK12;clear F a;intro a F;refine cRegRO (by kernel_rfl) H ?_;replace H:=H.drew;refine eTF 0 rfl (by kernel_rfl) F rfl rfl rfl (fun w=>rFa (f:=3) (k:=3) underlying29 rfl sizeOf24 rfl rfl F rfl) H qq0 (qT 1 rfl (by kernel_rfl) rfl rfl rfl rfl (fun a F w H=>rLd isAgg24 F rfl (H.cell 2 rfl rfl)) H qq0 (qTF 2 rfl (by kernel_rfl) rfl rfl rfl (fun a F w=>rMv F rfl) H qq0 ?_));clear F a;intro a F;refine eOne (k:=3) (i:=3) rfl (by kernel_rfl) F rfl (oCall call125 F rfl rfl (fold_any B' C' t _ (hR'.own H) ht12 hvt) ?_);rintro e w ⟨A35,c35,rfl,H2⟩;replace H:=H.join H2;clear H2;refine ⟨_,rfl,?_⟩;clear F a;intro a F;refine eKeep H.tail ?_;refine eOne (k:=4) (i:=4) rfl (by kernel_rfl) F rfl (oBs1 H underlying24 sizeOf52 zeroValue52 rfl F rfl rfl rfl ?_);clear F a H;intro b36 a w F H;refine eKeep H.tail.tail ?_
  refine eOne (k:=5) (i:=5) rfl (by kernel_rfl) F rfl (oApp1 (bytes:=24) H 3 underlying24 typeInfo52 rfl rfl rfl rfl rfl rfl F rfl rfl rfl rfl (H.whole 0 rfl) rfl ?s1 ?s2 ?_)
  case s1=>first | rfl | (repeat (first | exact one_nil | (apply one_cons;· first | rfl | assumption | exact one_bif rfl rfl)))
  case s2=>omega
  clear F a H;intro A37 c37 a w F H;refine ePartO (by kernel_rfl) H ?_;refine eTF 6 rfl (by kernel_rfl) F rfl rfl rfl (fun w=>rFa (f:=3) (k:=3) underlying29 rfl sizeOf24 rfl rfl F rfl) H qq0 ?_;clear F a;intro a F;refine eOne (k:=7) (i:=7) rfl (by kernel_rfl) F rfl (oSt H 4 sizeOf24 F rfl rfl rfl rfl rfl ?_);clear H;intro w H;refine ePartO (by kernel_rfl) H ?_;refine eNil (k:=8) (by kernel_rfl) ?_;refine hK11 _ _ (cReg ?_);clear hK11
  refine sBin F rfl rfl rfl rfl (bAddN (j:=1) ?_) ?_
  focus omega
  clear F a;intro a F;refine sMv F rfl rfl rfl ?_;clear F a;intro a F;refine sNil ?_
  (refine ⟨_,?_,_,⟨j+1,A37,c37,_,_,rfl,rfl,?_,?_,?_,(((H.sel [1,2,3,4,5,6,7,8] rfl rfl).toHeld (by simp [Ins.cells]) (by decide)).plantG (by rw [hrj,List.getElem?_map,hx];rfl) rfl)⟩,F.to (by repeat (first | exact trivial | refine Le.cons rfl ?_))⟩
   · omega
   · simp;omega
   · omega
   · intro r hr
     rcases List.mem_append.1 hr with h1 | h1
     · exact hr1 r h1
     · simp at h1;subst h1;rfl)
 replace h29:=of_decide_eq_false h29
 have hjl:j=p.threads.length:=by omega
 refine wp_exit ?_;refine hK7 _ _ (cSR fun K13 hK13=>sFa (f:=5) (k:=5) underlying29 rfl sizeOf27 rfl rfl F rfl rfl rfl ?_);clear hK7;clear F a;intro a F
 refine sLr underlying27 rfl ?si F rfl rfl rfl (H.range 6 rfl _ 5) ?_
 case si=>exact info_size sizeOf27
 clear F a;intro a F;refine sCall call126 F rfl rfl rfl (turn_any h _ p.cond _ (CondAt.grown H.grown rfl _ _ _ hp.cond) hs) ?_;rintro e w ⟨cs9,S9,rfl,H2⟩
 have hsh:=condShape (H2.pred 0 _ rfl:TreeIn S9 _ h cs9 p.cond).at
 obtain ⟨k9,t9,n9,v9,A9,m9,C9,rfl⟩:=hsh
 replace H:=H.join H2;clear H2;refine ⟨_,rfl,?_⟩;clear F a;intro a F;refine sFa (f:=5) (k:=5) underlying29 rfl sizeOf27 rfl rfl F rfl rfl rfl ?_;clear F a;intro a F
 refine sSr H 3 ?si F rfl rfl rfl ?s1 rfl rfl ?_
 case si=>exact info_size sizeOf27
 case s1=>first | rfl | (repeat (first | exact one_nil | (apply one_cons;· first | rfl | assumption | exact one_bif rfl rfl)))
 clear H;intro w H;refine nK hK13 (cSR fun K14 hK14=>?_);clear hK13
 refine sLr underlying29 rfl ?si F rfl rfl rfl (H.range 3 rfl _ 10) ?_
 case si=>exact info_size sizeOf29
 clear F a;intro a F
 refine sSr H 6 ?si F rfl rfl rfl ?s1 rfl rfl ?_
 case si=>exact info_size sizeOf29
 case s1=>first | rfl | (repeat (first | exact one_nil | (apply one_cons;· first | rfl | assumption | exact one_bif rfl rfl)))
 clear H;intro w H;refine sAs F rfl rfl rfl (qNK hK14 ?_);clear hK14;clear F a;intro a F;refine wp_ret ?_;refine bRetC1 results70 F rfl rfl underlying29 rfl H 6 rfl sizeOf29 rfl ?_
 first
   | exact .inl ⟨h11,rfl,H.below⟩
   | (refine .inr ⟨h0,_,rfl,?_⟩
      subst hrj
      exact ⟨A18,c18,S18,A21,c21,S21,A3,c3',rows,S,_,S9,by rw [hjl];rfl,by assumption,hjl,hr1,by rw [← hjl];exact H.sel [0,2,1,4,5] rfl rfl⟩)
-- EqI
open Go.RowKit
set_option maxRecDepth 100000
theorem eTb:EqT Tryz.prog 1 4 [.bool] false:=eqBool Tryz.underlying4
theorem eTA:EqT Tryz.prog 2 42 [.bool,.u8] true:=by
 have h:=eqStruct (P:=Tryz.prog) (D:=1) (kss:=[([.bool],false),([.u8],false)]) Tryz.underlying42 (by kernel_rfl) ⟨rfl,by decide,Tryz.sizeOf4,Tryz.isAgg4,fun _=>rfl,eTb,rfl,by decide,Tryz.sizeOf5,Tryz.isAgg5,fun _=>rfl,eT8,trivial⟩
 exact h
theorem eTI:EqT Tryz.prog 3 44 [.u8,.u8,.u8,.bool,.u8,.bool,.u8,.u8,.u8,.u8] true:=by
 have hu:=(eT8.up 1)
 have h:=eqStruct (P:=Tryz.prog) (D:=2) (kss:=[([.u8],false),([.u8],false),([.u8],false),([.bool,.u8],true),([.bool,.u8],true),([.u8],false),([.u8],false),([.u8],false)]) Tryz.underlying44 (by kernel_rfl)
   ⟨rfl,by decide,Tryz.sizeOf5,Tryz.isAgg5,fun _=>rfl,hu,rfl,by decide,Tryz.sizeOf5,Tryz.isAgg5,fun _=>rfl,hu,rfl,by decide,Tryz.sizeOf5,Tryz.isAgg5,fun _=>rfl,hu,
     rfl,by decide,Tryz.sizeOf42,Tryz.isAgg42,fun h=>(by cases h),eTA,rfl,by decide,Tryz.sizeOf42,Tryz.isAgg42,fun h=>(by cases h),eTA,
     rfl,by decide,Tryz.sizeOf5,Tryz.isAgg5,fun _=>rfl,hu,rfl,by decide,Tryz.sizeOf5,Tryz.isAgg5,fun _=>rfl,hu,rfl,by decide,Tryz.sizeOf5,Tryz.isAgg5,fun _=>rfl,hu,trivial⟩
 exact h
theorem fitsI (x:Ins):Fits [.u8,.u8,.u8,.bool,.u8,.bool,.u8,.u8,.u8,.u8] x.cells:=by
 have hb:∀ c:UInt8,CK.ok .u8 (b8 c):=fun c=>⟨_,rfl⟩
 exact ⟨hb _,hb _,hb _,⟨_,rfl⟩,hb _,⟨_,rfl⟩,hb _,hb _,hb _,hb _,trivial⟩
theorem ceqI (x:Ins):ceq x.cells x.cells=true:=by simp [Ins.cells,ceq,cellEq,b8]
theorem bEqI {x y:Operand} {u:Ins}:BinR Tryz.prog .eql 44 x y (.agg u.cells.toArray) (.agg u.cells.toArray) (.bool true):=by
 have h:=bEqT (x':=x) (y':=y) eTI (by kernel_rfl) (by decide) (fitsI u) (fitsI u)
 rw [ceqI] at h
 exact h
end Go.Proofs.YtkchaoajegkadaaGreatDoor
