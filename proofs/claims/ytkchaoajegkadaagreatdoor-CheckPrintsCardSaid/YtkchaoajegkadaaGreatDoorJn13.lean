/-
  WALK2. Package parse: run: what is deferred takes a fault for the answer. Conditions: what the reading function needs lies in memory.
-/
import Derived.Test.YtkchaoajegkadaaGreatDoorJn12
import Derived.Test.YtkchaoajegkadaaGreatDoorLexK
import Derived.Test.YtkchaoajegkadaaGreatDoorJn3
set_option linter.unusedSimpArgs false
set_option linter.unusedVariables false
namespace Go.Proofs.YtkchaoajegkadaaGreatDoor
-- PzB
open Go.RowKit
set_option maxRecDepth 100000
/-! ### What is lexed -/
theorem nextT_posP {s:ByteArray}:∀ {f k o t k' o'},nextT s f k o=(some t,k',o')→k≤s.size→t.pos≤s.size
 | 0,k,o,t,k',o',h,hk=>by simp [nextT] at h
 | f+1,k,o,t,k',o',h,hk=>by
   have h2:=passTo_le s k hk
   rw [nextT] at h
   split at h
   · simp only [Prod.mk.injEq,Option.some.injEq] at h
     obtain ⟨rfl,_,_⟩:=h
     exact h2
   · split at h
     · simp only [Prod.mk.injEq,Option.some.injEq] at h
       obtain ⟨rfl,_,_⟩:=h
       exact h2
     · split at h
       · simp at h
       · exact nextT_posP h (by omega)
theorem toksF_ok {s:ByteArray}:∀ {f k o},k≤s.size→∀ t ∈ toksF s f k o,t.text.size≤s.size∧t.pos≤s.size∧1≤t.kind∧t.kind≤4
 | 0,k,o,_,t,h=>by simp [toksF] at h
 | f+1,k,o,hk,t,h=>by
   rw [toksF] at h
   split at h
   · rename_i t' k' o' hn
     rcases List.mem_cons.1 h with rfl | h
     · obtain ⟨h1,h2⟩:=nextT_ok hn
       exact ⟨h2,nextT_posP hn hk,by omega,by omega⟩
     · exact toksF_ok (nextT_le hn hk).1 t h
   · simp at h
def pxOf (s:ByteArray) (fx:Bool):PX:=⟨toks s,s.size,fx⟩
theorem lexBad_sizeP {s:ByteArray} (h:lexBad s=none):s.size≤16384:=by
 unfold lexBad at h
 split at h
 · cases h
 · omega
theorem px_ok {s:ByteArray} (fx:Bool) (h:lexBad s=none):(pxOf s fx).Ok:=by
 have hs:=lexBad_sizeP h
 have hl:=toks_len s
 refine ⟨by show (toks s).length≤_;omega,by show s.size≤_;omega,fun i t hi=>?_⟩
 obtain ⟨h1,h2,_,h4⟩:=toksF_ok (Nat.zero_le _) t (List.mem_of_getElem? hi)
 exact ⟨by omega,by omega,h4⟩
theorem px_few {s:ByteArray} (fx:Bool) (h:lexBad s=none):(pxOf s fx).ts.length≤900000:=by
 have hs:=lexBad_sizeP h
 have hl:=toks_len s
 show (toks s).length≤_
 omega
theorem cellsOf_rows (l:List Tok):cellsOf l=(rowsT l).flatten:=by unfold cellsOf rowsT;rw [List.flatMap_def]
theorem bad_ne {l:List Tok} {t:Tok} (h:firstBad l=some t):faultOf t ≠ 0:=by
 induction l with
 | nil=>cases h
 | cons x r ih=>
   rw [firstBad] at h
   split at h
   · exact ih h
   · cases h;assumption
theorem lexBad_neP {s:ByteArray} {p:Nat} {f:Int} (h:lexBad s=some (p,f)):f ≠ 0:=by
 unfold lexBad at h
 split at h
 · cases h;omega
 · obtain ⟨t,ht,he⟩:=Option.map_eq_some_iff.1 h
   cases he
   exact bad_ne ht
theorem lex_own (s:ByteArray) {W w:World} {rs:List Res} (hs:s.size≤maxLen) (H:Own W none w rs):Calls Tryz.prog 50 #[.string s] w fun e w'=>∃ (A:Option Addr) (n C p:Nat) (f:Int) (S:Nat→Prop) (rows:List (List Value)),e = .returned (.tuple #[.slice A n C,.int .i64 (p:Int),.int .i64 f])∧Own W none w' (.held S A 3 rows :: rs)∧(∀ b,(Value.slice A n C).ownBlock=some b→S b) ∧
   (f=0∧p=0∧lexBad s=none∧n=(toks s).length∧rows=rowsT (toks s)∨f ≠ 0∧lexBad s=some (p,f)):=by
 refine (lex_any s w hs).mono fun e w' h=>?_
 obtain ⟨hb,h | h⟩:=h
 · obtain ⟨p,f,h1,rfl⟩:=h
   exact ⟨none,0,0,p,f,fun _=>False,[],rfl,(H.grow hb).void _ (show ∀ (j:Nat) (cs:List Value),([]:List (List Value))[j]? = some cs→_ from fun j cs h=>by simp at h) (fun _ h=>h),(fun b h=>by cases h),.inr ⟨lexBad_neP h1,h1⟩⟩
 · obtain ⟨h1,sv,rfl,h2,_⟩:=h
   obtain ⟨A,C,rfl⟩:∃ A C,sv = .slice A (toks s).length C:=by
     rcases h2.2 with ⟨rfl,h0⟩ | ⟨g,cap,cur,rfl,_⟩
     · exact ⟨none,0,by rw [h0]⟩
     · exact ⟨_,_,rfl⟩
   have hr:(rowsT (toks s)).length=(toks s).length:=by unfold rowsT;rw [List.length_map]
   have hH:Own W none w' (.rws 140 3 (.slice A (toks s).length C) (rowsT (toks s)) :: rs):=by
     refine H.add (.rws 140 3 (.slice A (toks s).length C) (rowsT (toks s))) hb ?_ fun b hbb=>?_
     · show w'.ownsRow 0 140 3 (.slice A (toks s).length C) (rowsT (toks s)).length (rowsT (toks s)).flatten
       rw [hr,← cellsOf_rows]
       refine ⟨h2.1,?_⟩
       rcases h2.2 with h | ⟨g,cap,cur,e1,_,e3⟩
       · exact .inl h
       · exact .inr ⟨g,cap,cur,e1,Nat.zero_le _,e3⟩
     · have hbb:(Value.slice A (toks s).length C).ownBlock=some b:=hbb
       rcases h2.2 with ⟨e1,_⟩ | ⟨g,cap,cur,e1,e2,e3,_⟩
       · have e2:=congrArg Value.ownBlock e1
         rw [hbb] at e2
         cases e2
       · have e4:=congrArg Value.ownBlock e1
         rw [hbb] at e4
         cases e4
         exact ⟨e2,(Array.getElem?_eq_some_iff.1 e3).1⟩
   exact ⟨A,(toks s).length,C,0,0,fun b=>(Value.slice A (toks s).length C).ownBlock=some b,_,rfl,hH.toHeld rowsT_len (by decide),(fun b h=>h),.inl ⟨rfl,rfl,h1,rfl,rfl⟩⟩
/-! ### What is deferred -/
theorem prun1_idle {u4 u6 u7:Value} {W w:World} {rs:List Res} (H:Own W none w rs):CallsD Tryz.prog 51 #[u6,u7,u4] .returning w fun e m w'=>m = .returning∧e = .returned (.tuple #[])∧Own W none w' rs:=by
 refine callsD_rec (args:=[u6,u7,u4]) (v:=.nilIface) Tryz.func51 rfl Tryz.ntmps51 rfl rfl (.inl ⟨rfl,rfl,rfl⟩) (fun a F=>?_);refine wp_block ?_;refine cSR fun K1 hK1=>sBin F rfl rfl rfl rfl (bNilIf Tryz.underlying20) (qNK hK1 ?_);clear hK1;clear F a;intro a F
 refine cIf F rfl (fun h9=>?_) (fun h9=>?_)
 ·
  refine cReg (sAs F rfl rfl rfl ?_);clear F a;intro a F;refine sNil ?_
  first | refine bEnd Tryz.results51 F ?_ | (simp only [Exit.then,Exit.inBlock,if_true];(repeat (first | rw [if_pos rfl] | rw [if_neg (by decide)]));refine bEnd Tryz.results51 F ?_)
  exact ⟨rfl,H⟩
 cases h9
theorem prun1_fault {p e:Nat} {b4 b6 b7:Nat} {v6 v7:Value} {W w:World} {rs:List Res} (H:Own W none w (.blk b6 [v6] 3 :: .blk b7 [v7] 33 :: rs)):CallsD Tryz.prog 51 #[.pointer (some ⟨b6,0,none⟩),.pointer (some ⟨b7,0,none⟩),.pointer (some ⟨b4,0,none⟩)] (.panicking (flt p e)) w
   fun q m w'=>m = .panicking [{ v:=.iface 101 (.agg #[.int .i64 (p:Int),.int .i64 (e:Int)]),recovered:=true }]∧q = .returned (.tuple #[])∧Own W none w' (.blk b6 [.int .i64 (p:Int)] 3 :: .blk b7 [.int .i64 (e:Int)] 33 :: rs):=by
 refine callsD_rec (args:=[.pointer (some ⟨b6,0,none⟩),.pointer (some ⟨b7,0,none⟩),.pointer (some ⟨b4,0,none⟩)]) (v:=.iface 101 (.agg #[.int .i64 (p:Int),.int .i64 (e:Int)])) Tryz.func51 rfl Tryz.ntmps51 rfl rfl (.inr ⟨rfl,rfl⟩) (fun a F=>?_);refine wp_block ?_;refine cSR fun K1 hK1=>sBin F rfl rfl rfl rfl (bNoIf Tryz.underlying20) (qNK hK1 ?_);clear hK1;clear F a;intro a F
 refine cIf F rfl (fun h9=>?_) (fun h9=>?_)
 ·
  cases h9
 refine cSR fun K2 hK2=>sTa Tryz.underlying101 F rfl rfl rfl (qExt rfl rfl rfl rfl (qExt rfl rfl rfl rfl (qNK hK2 ?_)));clear hK2;clear F a;intro a F
 refine cIf F rfl (fun h11=>?_) (fun h11=>?_)
 ·
  refine cSR fun K3 hK3=>?_;refine sAl H Tryz.zeroValue101 F rfl rfl ?_;clear F a H;intro b4 a w F H
  refine sSr H 0 ?si F rfl rfl rfl ?s1 rfl rfl ?_
  case si=>exact info_size Tryz.sizeOf101
  case s1=>first | rfl | (repeat (first | exact one_nil | (apply one_cons;· first | rfl | assumption | exact one_bif rfl rfl)))
  clear H;intro w H;refine nK hK3 ?_;clear hK3;refine cRegRO (by kernel_rfl) (H.sel [0] rfl rfl) ?_;replace H:=H.drew;refine eTF 0 rfl (by kernel_rfl) F rfl rfl rfl (fun w=>rFa (f:=0) (k:=0) Tryz.underlying101 rfl Tryz.sizeOf3 rfl rfl F rfl) (H.sel [0] rfl rfl) qq0 (qT 1 rfl (by kernel_rfl) rfl rfl rfl rfl (fun a F w H=>rLd Tryz.isAgg3 F rfl (H.cell 0 rfl rfl)) (H.sel [0] rfl rfl) qq0 (qTF 2 rfl (by kernel_rfl) rfl rfl rfl (fun a F w=>rFa (f:=1) (k:=1) Tryz.underlying101 rfl Tryz.sizeOf33 rfl rfl F rfl) (H.sel [0] rfl rfl) qq0 (qT 3 rfl (by kernel_rfl) rfl rfl rfl rfl (fun a F w H=>rLd Tryz.isAgg33 F rfl (H.cell 0 rfl rfl)) (H.sel [0] rfl rfl) qq0 ?_)));clear F a;intro a F;refine eOne (k:=4) (i:=4) rfl (by kernel_rfl) F rfl (oSt H 1 Tryz.sizeOf3 F rfl rfl rfl rfl rfl ?_);clear H;intro w H;refine eKeep (H.sel [0] rfl rfl) ?_;refine eOne (k:=5) (i:=5) rfl (by kernel_rfl) F rfl (oSt H 2 Tryz.sizeOf33 F rfl rfl rfl rfl rfl ?_);clear H;intro w H;refine ePartO (by kernel_rfl) H ?_;refine eNil (k:=6) (by kernel_rfl) ?_
  first | refine bEnd Tryz.results51 F ?_ | (simp only [Exit.then,Exit.inBlock,if_true];(repeat (first | rw [if_pos rfl] | rw [if_neg (by decide)]));refine bEnd Tryz.results51 F ?_)
  exact ⟨rfl,H.tail⟩
 cases h11
-- PzX
open Go.Proofs.Tryz
open Go.RowKit
set_option maxRecDepth 100000
def zX:List Value:=[.string ⟨#[]⟩,.slice none 0 0,.slice none 0 0,.slice none 0 0,b8 0,b8 0,b8 0,b8 0,b8 0,.slice none 0 0,.int .i64 (0:Int),.int .i64 (0:Int)]
def parserV (fx:Bool) (B:Option Addr) (n D:Nat):List Value:=.slice none 0 0 :: .int .i64 (0:Int) :: .int .i64 (0:Int) :: .slice B n D :: .bool fx :: zX
def ReadOk {α:Type} (W:World) (rs:List Res) (c:PX) (names:List ByteArray) (B:Option Addr) (D:Nat) (f:Value) (R:Rs α) (G:α→List Res→Prop):Prop:=
 ∀ {A:Option Addr} {C bp:Nat} {S:Nat→Prop} {w:World} {b6 b7:Nat},Own W none w (.blk bp (parC c A C ⟨0,names⟩ B D zX) 66 :: .held S A 3 (rowsT c.ts) :: .blk b6 [.int .i64 (0:Int)] 3 :: .blk b7 [.int .i64 (0:Int)] 33 :: rs) →
   CallsF Tryz.prog f [.pointer (some ⟨bp,0,none⟩)] w (fun e w'=>Ans W (.blk b6 [.int .i64 (0:Int)] 3 :: .blk b7 [.int .i64 (0:Int)] 33 :: rs) R (fun v _ e w'=>e = .returned (.tuple #[])∧∃ qs,G v qs∧Own W none w' (.blk b6 [.int .i64 (0:Int)] 3 :: .blk b7 [.int .i64 (0:Int)] 33 :: qs)) e w')
def RunR {α:Type} (s:ByteArray) (R:Rs α):(Nat × Int) ⊕ α:=match lexBad s with
 | some pf=>.inl pf
 | none=>match R with
   | .ok v _=>.inr v
   | .no p e=>.inl (p,(e:Int))
def RunPost {α:Type} (W:World) (rs:List Res) (G:α→List Res→Prop) (e:Ending) (w':World):(Nat × Int) ⊕ α→Prop
 | .inl pf=>e = .returned (.tuple #[.int .i64 (pf.1:Int),.int .i64 pf.2])∧Own W none w' rs
 | .inr v=>e = .returned (.tuple #[.int .i64 (0:Int),.int .i64 (0:Int)])∧∃ qs,G v qs∧Own W none w' qs
theorem runR_bad {α:Type} {s:ByteArray} {R:Rs α} {p:Nat} {f:Int} (h:lexBad s=some (p,f)):RunR s R = .inl (p,f):=by unfold RunR;rw [h]
theorem runR_no {α:Type} {s:ByteArray} {R:Rs α} {p e:Nat} (h:lexBad s=none) (hr:R = .no p e):RunR s R = .inl (p,(e:Int)):=by unfold RunR;rw [h,hr]
theorem runR_ok {α:Type} {s:ByteArray} {R:Rs α} {v:α} {t:PS} (h:lexBad s=none) (hr:R = .ok v t):RunR s R = .inr v:=by unfold RunR;rw [h,hr]
set_option maxHeartbeats 4000000 in
theorem prun_any {α:Type} {W w0:World} {rs:List Res} (s:ByteArray) (hs:s.size≤maxLen) (fx:Bool) (names:List ByteArray) (B:Option Addr) (D:Nat) (f:Value) (R:Rs α) (G:α→List Res→Prop)
   (hread:lexBad s=none→ReadOk W rs (pxOf s fx) names B D f R G) (H:Own W none w0 rs) :
   Calls Tryz.prog 25 #[.string s,.agg (parserV fx B names.length D).toArray,f] w0 fun e w'=>RunPost W rs G e w' (RunR s R):=by
 refine enterD func25 rfl ntmps25 rfl (fun a F=>?_);refine cSR fun K1 hK1=>?_;refine sBx H F rfl rfl rfl ?_;clear F a H;intro b4 a w F H;refine sAl H zeroValue3 F rfl rfl ?_;clear F a H;intro b6 a w F H;refine sAl H zeroValue33 F rfl rfl ?_;clear F a H;intro b7 a w F H;refine nK hK1 (cSR fun K2 hK2=>sMv F rfl rfl rfl ?_);clear hK1;clear F a;intro a F;refine sCall call50 F rfl rfl rfl (lex_own s hs H) ?_;rintro e w ⟨A,n,C,p,er,S,rows,rfl,H,_,hl⟩;refine ⟨_,rfl,?_⟩;clear F a;intro a F;refine sMv F rfl rfl rfl (qExt rfl rfl rfl rfl (qExt rfl rfl rfl rfl (qExt rfl rfl rfl rfl (qAs rfl rfl rfl ?_))));clear F a;intro a F;refine sSt H 2 sizeOf3 F rfl rfl rfl rfl rfl rfl ?_;clear H;intro w H;refine sSt H 1 sizeOf33 F rfl rfl rfl rfl rfl rfl ?_;clear H;intro w H;refine nK hK2 ?_;clear hK2;refine cSeq (fun K3 hK3=>?_);refine cSR fun K4 hK4=>sLd isAgg33 F rfl rfl rfl (H.cell 1 rfl rfl) (qBin rfl rfl rfl rfl bNeq (qNK hK4 ?_));clear hK4;clear F a;intro a F
 refine cIf F rfl (fun h16=>?_) (fun h16=>?_)
 ·
  replace h16:=bneT h16
  obtain hlb:lexBad s=some (p,er):=by
    rcases hl with ⟨h,_⟩ | ⟨_,h⟩
    · exact absurd h h16
    · exact h
  refine cSeq (fun K5 hK5=>?_);refine regN ?_;refine cRegRO (by kernel_rfl) H ?_;replace H:=H.drew;refine eT 0 rfl (by kernel_rfl) F rfl rfl rfl rfl (fun w H=>rLd isAgg3 F rfl (H.cell 2 rfl rfl)) H qq0 (qT 1 rfl (by kernel_rfl) rfl rfl rfl rfl (fun a F w H=>rLd isAgg33 F rfl (H.cell 1 rfl rfl)) H qq0 ?_);clear F a;intro a F;refine eOne (k:=2) (i:=2) rfl (by kernel_rfl) F rfl (oSt H 2 sizeOf3 F rfl rfl rfl rfl rfl ?_);clear H;intro w H;refine eKeep H ?_;refine eOne (k:=3) (i:=3) rfl (by kernel_rfl) F rfl (oSt H 1 sizeOf33 F rfl rfl rfl rfl rfl ?_);clear H;intro w H;refine ePartO (by kernel_rfl) H ?_;refine eNil (k:=4) (by kernel_rfl) ?_;refine hK5 _ _ ?_;clear hK5;refine wp_ret ?_;simp only [Exit.then];refine postD (bodyPost_ret (results_two results25 (F.get 6 _ rfl) (F.get 7 _ rfl) isAgg3 isAgg33 (H.cell 2 rfl rfl) (H.cell 1 rfl rfl)) F.nod ?_)
  rw [runR_bad hlb];exact ⟨rfl,H.tail.tail.tail.tail⟩
 replace h16:=bneF h16
 obtain ⟨rfl,rfl,hlb,rfl,rfl⟩:er=0∧p=0∧lexBad s=none∧n=(toks s).length∧rows=rowsT (toks s):=by
      rcases hl with h | ⟨h,_⟩
      · exact h
      · exact absurd h16 h
 refine wp_skip (hK3 _ _ (cSR fun K6 hK6=>sMv F rfl rfl rfl (qMv rfl rfl rfl (qLenS underlying9 rfl rfl rfl (qBd (places:=[(0,1),(1,1),(2,1)]) zeroValue64 underlying64 (by kernel_rfl) rfl rfl rfl rfl (qFa (f:=0) (k:=0) underlying66 rfl sizeOf64 rfl rfl rfl rfl rfl ?_))))));clear hK3;clear F a;intro a F
 refine sSr H 3 ?si F rfl rfl rfl ?s1 rfl rfl ?_
 case si=>exact info_size sizeOf64
 case s1=>first | rfl | (repeat (first | exact one_nil | (apply one_cons;· first | rfl | assumption | exact one_bif rfl rfl)))
 clear H;intro w H;refine nK hK6 (cSR fun K7 hK7=>sFn F rfl rfl rfl rfl ?_);clear hK6;clear F a;intro a F;refine sDef F rfl rfl ?_;clear F a;intro a F;refine nK hK7 (cSR fun K8 hK8=>?_);clear hK7;refine dMv F rfl rfl rfl ?_;clear F a;intro a F;refine dCallVP F rfl rfl rfl rfl (hread hlb (H.selT 4 [3,0,2,1] rfl rfl)) ?_;rintro e w hq9
 rcases hq9.cases with ⟨p9,e9,hn9,rfl,H⟩ | ⟨v9,t9,hr9,rfl,qs,hG,H⟩
 · refine .inl ⟨_,rfl,?_⟩
   show Leaves _ _ a.tmps _ a.defers (.panicking (flt p9 e9)) w
   rw [F.dfr];refine leaves_cons (f:=51) (by intro h;cases h) (call51 _ _) ?_;refine (prun1_fault H).mono ?_;rintro q m w ⟨rfl,rfl,H⟩
   refine ⟨_,results_two results25 (F.get 6 _ rfl) (F.get 7 _ rfl) isAgg3 isAgg33 (H.cell 0 rfl rfl) (H.cell 1 rfl rfl),?_⟩
   rw [runR_no hlb hn9]
   exact ⟨rfl,H.tail.tail⟩
 refine .inr ⟨_,rfl,?_⟩
 clear F a;intro a F;refine nK hK8 (cSR fun K9 hK9=>?_);clear hK8;refine dSt H 0 sizeOf3 F rfl rfl rfl rfl rfl rfl ?_;clear H;intro w H;refine dSt H 1 sizeOf33 F rfl rfl rfl rfl rfl rfl ?_;clear H;intro w H;refine nK hK9 ?_;clear hK9;refine wp_ret ?_
 show Leaves _ _ a.tmps _ a.defers .returning w
 rw [F.dfr];refine leaves_cons (f:=51) (by intro h;cases h) (call51 _ _) ?_;refine (prun1_idle H).mono ?_;rintro q m w ⟨rfl,rfl,H⟩
 refine ⟨_,results_two results25 (F.get 6 _ rfl) (F.get 7 _ rfl) isAgg3 isAgg33 (H.cell 0 rfl rfl) (H.cell 1 rfl rfl),?_⟩
 rw [runR_ok hlb hr9]
 exact ⟨rfl,qs,hG,H.tail.tail⟩
end Go.Proofs.YtkchaoajegkadaaGreatDoor
namespace Go.Proofs.YtkchaoajegkadaaGreatDoor
open Go.Proofs.Tryz
open Go.RowKit
set_option maxRecDepth 100000
def RowsIn (S:Nat→Prop) (w:World) (A:Option Addr) (sz:Nat) (rows:List (List Value)):Prop:=
 ∀ (j:Nat) (cs:List Value),rows[j]? = some cs→∃ b off,A=some ⟨b,off,none⟩∧S b∧w.rangeAt b (off+j * sz) cs
theorem RowsIn.loc {S T:Nat→Prop} {w w':World} {A:Option Addr} {sz:Nat} {rows:List (List Value)} (hs:∀ b,S b→w'.heap[b]? = w.heap[b]?) (hT:∀ b,S b→T b) (h:RowsIn S w A sz rows):RowsIn T w' A sz rows:=fun j cs hj=>by
 obtain ⟨b,off,h1,h2,h3⟩:=h j cs hj
 exact ⟨b,off,h1,hT b h2,range_same (hs b h2) h3⟩
theorem RowsIn.rows {S:Nat→Prop} {w:World} {A:Option Addr} {sz:Nat} {rows:List (List Value)} (h:RowsIn S w A sz rows):RowsAt w A sz rows:=fun j cs hj=>by
 obtain ⟨b,off,h1,_,h3⟩:=h j cs hj
 exact ⟨b,off,h1,h3⟩
def ProgS (S:Nat→Prop) (h:Nat) (cs:List Value) (p:Prg) (w:World):Prop:=
 ∃ (LA:Option Addr) (LC:Nat) (IA:Option Addr) (IC:Nat) (TA:Option Addr) (TC:Nat) (hrows ccs:_),cs=[.string p.name,.slice LA p.locs.length LC,.slice IA p.init.length IC,.slice TA p.threads.length TC,b8 p.ask]++ccs ∧
   RowsIn S w LA 1 (strC p.locs)∧RowsIn S w IA 1 (iniC p.init)∧RowsIn S w TA 1 hrows∧ThrIn S w hrows p.threads∧TreeIn S w h ccs p.cond∧p.locs.length≤LC∧p.init.length≤IC∧p.threads.length≤TC
theorem ProgS.loc {S:Nat→Prop} {h:Nat} {cs:List Value} {p:Prg} {w w':World} (hs:∀ b,S b→w'.heap[b]? = w.heap[b]?) (hp:ProgS S h cs p w):ProgS S h cs p w':=by
 obtain ⟨LA,LC,IA,IC,TA,TC,hrows,ccs,h1,h2,h3,h4,h5,h6,h7⟩:=hp
 exact ⟨LA,LC,IA,IC,TA,TC,hrows,ccs,h1,h2.loc hs (fun _ h=>h),h3.loc hs (fun _ h=>h),h4.loc hs (fun _ h=>h),h5.loc hs (fun _ h=>h),h6.loc hs (fun _ h=>h),h7⟩
def Res.prog (S:Nat→Prop) (h:Nat) (cs:List Value) (p:Prg):Res:=⟨S,ProgS S h cs p,fun _ _ hb hp=>hp.loc hb⟩
def Res.both (r s:Res):Res:=⟨fun b=>r.foot b∨s.foot b,fun w=>r.pred w∧s.pred w,fun w w' h hp=>⟨r.loc w w' (fun b hb=>h b (.inl hb)) hp.1,s.loc w w' (fun b hb=>h b (.inr hb)) hp.2⟩⟩
theorem Own.both {w0 w:World} {row:Option Nat} {r s:Res} {rs:List Res} (H:Own w0 row w (r :: s :: rs)):Own w0 row w (Res.both r s :: rs):=H.fuse (Res.both r s) ⟨H.pred 0 r rfl,H.pred 1 s rfl⟩ (fun _ h=>h)
theorem iniC_len {l:List UInt8}:∀ r ∈ iniC l,r.length=1:=by
 intro r hr
 obtain ⟨t,_,rfl⟩:=List.mem_map.1 hr
 rfl
theorem line_prog {W w:World} {rs:List Res} {c:PX} {A:Option Addr} {C bp:Nat} {S:Nat→Prop} {q:QL} {s:PS} (hf:c.fixed=false) (hL:LineAt W w rs c A C bp S true q s) :
   ∃ (S':Nat→Prop) (h:Nat) (x1 x2 x3 x4 x5 x6 x7 x8 x9 x10:Value) (B:Option Addr) (D:Nat),h≤2000000∧[x1,x2,x3,x4,x5,x6,x7,x8,x9,x10].all (fun x=>x.oneCell')=true ∧
     Own W none w (.blk bp (parC c A C s B D [x1,x2,x3,x4,x5,x6,x7,x8,x9,x10,.int .i64 (q.wh:Int),.int .i64 (q.query:Int)]) 66 :: .held S A 3 (rowsT c.ts) :: .prog S' h [x1,x2,x3,x4,x5,x6,x7,x8,x9,x10] ⟨q.name,s.names,q.init,q.threads,q.ask,q.cond⟩ :: rs):=by
 obtain ⟨B,D,IA,IC,TA,TC,hrows,LA,LC,last,ST,frows,front,T,h,b1,b2,b3,b4,b5,H,hfl,hr,hl,hth,hh⟩:=hL
 have hn:Res.nms W c.fixed B D s.names = .rws 9 1 (.slice B s.names.length D) (strC s.names):=by unfold Res.nms;rw [hf];rfl
 rw [hn] at H
 have cB:s.names.length≤D:=(H.rwsLen 2 rfl).2.1
 have cI:q.init.length≤IC:=(H.rwsLen 3 rfl).2.1
 have cT:hrows.length≤TC:=(H.rwsLen 4 rfl).2.1
 obtain ⟨S2,H2⟩:∃ S2,Own W none w (.thrs S2 hrows q.threads :: .blk bp (parC c A C s B D [.string q.name,locV true B s.names.length D,.slice IA q.init.length IC,.slice TA hrows.length TC,b8 q.ask,b1,b2,b3,b4,b5,.int .i64 (q.wh:Int),.int .i64 (q.query:Int)]) 66 :: .held S A 3 (rowsT c.ts) :: .rws 9 1 (.slice B s.names.length D) (strC s.names) ::
     .rws 5 1 (.slice IA q.init.length IC) (iniC q.init) :: .rws 52 1 (.slice TA hrows.length TC) hrows :: .tree T h [b1,b2,b3,b4,b5] q.cond :: rs):=by
   rcases hth with ⟨t1,rfl,rfl,rfl,rfl⟩ | ⟨t1,rfl⟩
   · rw [t1];exact ⟨ST,H.selT 8 [6,0,1,2,3,4,7] rfl rfl⟩
   · rw [t1];exact ⟨_,(H.selT 8 [5,6,0,1,2,3,4,7] rfl rfl).push hfl⟩
 have H3:=(H2.selT 7 [3,4,5,0,1,2,6] rfl rfl).toHeld strC_len (by decide)
 have H4:=(H3.selT 7 [1,0,2,3,4,5,6] rfl rfl).toHeld iniC_len (by decide)
 have H5:=(H4.selT 7 [2,1,0,3,4,5,6] rfl rfl).toHeld hr (by decide)
 have H6:=(((H5.selT 7 [1,2,0,3,6,4,5] rfl rfl).both).both).both.both
 obtain ⟨⟨⟨⟨p1,p2⟩,p3⟩,p4⟩,p5⟩:=H6.pred 0 _ rfl
 refine ⟨_,h,.string q.name,.slice B s.names.length D,.slice IA q.init.length IC,.slice TA hrows.length TC,b8 q.ask,b1,b2,b3,b4,b5,B,D,hh,(by obtain ⟨_,_,_,_,_,_,_,hcs⟩:=condShape (p5:TreeIn T w h [b1,b2,b3,b4,b5] q.cond).at;cases hcs;rfl),((H6.seen (.prog _ h [.string q.name,.slice B s.names.length D,.slice IA q.init.length IC,.slice TA hrows.length TC,b8 q.ask,b1,b2,b3,b4,b5] ⟨q.name,s.names,q.init,q.threads,q.ask,q.cond⟩) ⟨B,D,IA,IC,TA,TC,hrows,[b1,b2,b3,b4,b5],by rw [hl];rfl,?_,?_,?_,?_,?_,cB,cI,by rw [← hl];exact cT⟩ (fun b hb=>hb)).selT 3 [1,2,0] rfl rfl)⟩
 · exact RowsIn.loc (fun _ _=>rfl) (fun b hb=>.inl (.inl (.inl (.inl hb)))) p1
 · exact RowsIn.loc (fun _ _=>rfl) (fun b hb=>.inl (.inl (.inl (.inr hb)))) p2
 · exact RowsIn.loc (fun _ _=>rfl) (fun b hb=>.inl (.inl (.inr hb))) p3
 · exact ThrIn.loc (fun _ _=>rfl) (fun b hb=>.inl (.inr hb)) p4
 · exact TreeIn.loc (fun _ _=>rfl) (fun b hb=>.inr hb) p5
def zPrg:Prg:=⟨⟨#[]⟩,[],[],[],0,.mk 0 0 0 0 []⟩
def zPC:List Value:=[.string ⟨#[]⟩,.slice none 0 0,.slice none 0 0,.slice none 0 0,b8 0,b8 0,b8 0,b8 0,b8 0,.slice none 0 0]
theorem own_zprog {w0 w:World} {row:Option Nat} {rs:List Res} (H:Own w0 row w rs):Own w0 row w (.prog (fun _=>False) 1 zPC zPrg :: rs):=
 H.void _ (show ProgS (fun _=>False) 1 zPC zPrg w from ⟨none,0,none,0,none,0,[],[b8 0,b8 0,b8 0,b8 0,.slice none 0 0],rfl,(fun j cs h=>by simp [strC,zPrg] at h),(fun j cs h=>by simp [iniC,zPrg] at h),(fun j cs h=>by simp at h),(fun j l h=>by simp [zPrg] at h),⟨none,0,rfl,Nat.zero_le _,fun j kid h=>by simp at h⟩,Nat.le_refl _,Nat.le_refl _,Nat.le_refl _⟩) (fun _ hb=>hb)
theorem ten_all {x1 x2 x3 x4 x5 x6 x7 x8 x9 x10:Value} (h:[x1,x2,x3,x4,x5,x6,x7,x8,x9,x10].all (fun x=>x.oneCell')=true):x1.oneCell'=true∧x2.oneCell'=true∧x3.oneCell'=true∧x4.oneCell'=true∧x5.oneCell'=true∧x6.oneCell'=true∧x7.oneCell'=true∧x8.oneCell'=true∧x9.oneCell'=true∧x10.oneCell'=true:=by
 simpa only [List.all_cons,List.all_nil,Bool.and_true,Bool.and_eq_true] using h
theorem pparse1_any {W w0:World} {rs:List Res} {c:PX} (hc:c.Ok) (hm:c.ts.length≤900000) (hf:c.fixed=false) {A:Option Addr} {C bp b6 b7 bw:Nat} {S:Nat→Prop} (H:Own W none w0 (.blk bp (parC c A C ⟨0,[]⟩ none 0 zX) 66 :: .held S A 3 (rowsT c.ts) :: .blk b6 [.int .i64 (0:Int)] 3 :: .blk b7 [.int .i64 (0:Int)] 33 :: .blk bw zPC 29 :: rs)) :
   Calls Tryz.prog 26 #[.pointer (some ⟨bp,0,none⟩),.pointer (some ⟨bw,0,none⟩)] w0 fun e w'=>Ans W (.blk b6 [.int .i64 (0:Int)] 3 :: .blk b7 [.int .i64 (0:Int)] 33 :: .blk bw zPC 29 :: rs) (progP c) (fun v _ e w'=>e = .returned (.tuple #[]) ∧
     ∃ (S':Nat→Prop) (h:Nat) (x1 x2 x3 x4 x5 x6 x7 x8 x9 x10:Value),h≤2000000∧[x1,x2,x3,x4,x5,x6,x7,x8,x9,x10].all (fun x=>x.oneCell')=true∧Own W none w' (.blk b6 [.int .i64 (0:Int)] 3 :: .blk b7 [.int .i64 (0:Int)] 33 :: .blk bw [x1,x2,x3,x4,x5,x6,x7,x8,x9,x10] 29 :: .prog S' h [x1,x2,x3,x4,x5,x6,x7,x8,x9,x10] v :: rs)) e w':=by
 refine enterF func26 rfl ntmps26 rfl (fun a F=>?_);refine cSR fun K1 hK1=>sMv F rfl rfl rfl ?_;clear F a;intro a F;refine sCallP call27 F rfl rfl rfl (pprogram_any hc hm (line_start hf H)) ?_;rintro e w hq9
 rcases hq9.cases with ⟨p9,e9,hn4,rfl,H⟩ | ⟨v4,t4,hr4,rfl,q4,rfl,hL⟩
 ·
  refine .inl ⟨_,rfl,?_⟩
  exact And.intro F.nod (Ans.no (hn4) H)
 obtain ⟨S9,h9,x1,x2,x3,x4,x5,x6,x7,x8,x9,x10,B9,D9,hh9,hx,H⟩:=line_prog hf hL;obtain ⟨o1,o2,o3,o4,o5,o6,o7,o8,o9,o10⟩:=ten_all hx
 refine .inr ⟨_,rfl,?_⟩
 clear F a;intro a F;refine nK hK1 (cReg (sMv F rfl rfl rfl (qNc rfl rfl rfl (qFa (f:=3) (k:=5) underlying66 rfl sizeOf29 rfl rfl rfl rfl rfl ?_))));clear hK1;clear F a;intro a F
 refine sLr underlying29 rfl ?si F rfl rfl rfl (show World.rangeAt _ bp (0+5) [x1,x2,x3,x4,x5,x6,x7,x8,x9,x10] from H.range 0 rfl _ 10) ?_
 case si=>exact info_size sizeOf29
 clear F a;intro a F
 refine sSr H 5 ?si F rfl rfl rfl ?s1 rfl rfl ?_
 case si=>exact info_size sizeOf29
 case s1=>first | rfl | (repeat (first | exact one_nil | (apply one_cons;· first | rfl | assumption | exact one_bif rfl rfl)))
 clear H;intro w H;refine sNil ?_
 first | refine bEnd results26 F ?_ | (simp only [Exit.then,Exit.inBlock,if_true];(repeat (first | rw [if_pos rfl] | rw [if_neg (by decide)]));refine bEnd results26 F ?_)
 exact Ans.ok hr4 ⟨rfl,S9,h9,_,_,_,_,_,_,_,_,_,_,hh9,hx,H.selT 6 [3,4,5,2] rfl rfl⟩
end Go.Proofs.YtkchaoajegkadaaGreatDoor
namespace Go.Proofs.YtkchaoajegkadaaGreatDoor
open Go.Proofs.Tryz
open Go.RowKit
set_option maxRecDepth 100000
def parseT (s:ByteArray):(Nat × Int) ⊕ Prg:=RunR s (progP (pxOf s false))
def ParsedAs {α:Type} (z:α) (r:(Nat × Int) ⊕ α) (p:α) (pl:Nat) (er:Int):Prop:=r = .inl (pl,er)∧er ≠ 0∧p=z∨r = .inr p∧pl=0∧er=0
theorem runPost_of {α:Type} {W w':World} {rs:List Res} {G:α→List Res→Prop} {e:Ending} {r:(Nat × Int) ⊕ α} (h:RunPost W rs G e w' r) (hne:∀ pf,r = .inl pf→pf.2 ≠ 0) :
   ∃ (pl:Nat) (er:Int),e = .returned (.tuple #[.int .i64 (pl:Int),.int .i64 er])∧(er ≠ 0∧r = .inl (pl,er)∧Own W none w' rs∨er=0∧pl=0∧∃ v qs,r = .inr v∧G v qs∧Own W none w' qs):=by
 cases r with
 | inl pf=>exact ⟨pf.1,pf.2,h.1,.inl ⟨hne pf rfl,rfl,h.2⟩⟩
 | inr v=>obtain ⟨h1,qs,h2,h3⟩:=h;exact ⟨0,0,h1,.inr ⟨rfl,rfl,v,qs,rfl,h2,h3⟩⟩
theorem runR_ne {α:Type} {s:ByteArray} {R:Rs α} (h:∀ p e,R = .no p e→e ≠ 0):∀ pf,RunR s R = .inl pf→pf.2 ≠ 0:=fun pf hp=>by
 unfold RunR at hp
 split at hp
 next q hq=>cases hp;exact lexBad_neP (p:=pf.1) (f:=pf.2) hq
 next=>
   split at hp
   · cases hp
   next p e=>
     cases hp
     have:=h _ _ rfl
     show (e:Int) ≠ 0
     omega
def ProgG (bw br:Nat) (rs:List Res) (p:Prg) (qs:List Res):Prop:=∃ (S':Nat→Prop) (h:Nat) (x1 x2 x3 x4 x5 x6 x7 x8 x9 x10:Value),h≤2000000∧[x1,x2,x3,x4,x5,x6,x7,x8,x9,x10].all (fun x=>x.oneCell')=true ∧
 qs = .blk bw [x1,x2,x3,x4,x5,x6,x7,x8,x9,x10] 29 :: .blk br zPC 29 :: .prog S' h [x1,x2,x3,x4,x5,x6,x7,x8,x9,x10] p :: rs
theorem parse_read {W:World} {rs:List Res} (s:ByteArray) (bw br:Nat) (hl:lexBad s=none):ReadOk W (.blk bw zPC 29 :: .blk br zPC 29 :: rs) (pxOf s false) [] none 0 (.func (.func 26) #[] #[.pointer (some ⟨bw,0,none⟩)]) (progP (pxOf s false)) (ProgG bw br rs):=by
 intro A C bp S w b6 b7 H
 refine ⟨_,[],[.pointer (some ⟨bw,0,none⟩)],rfl,call26,(pparse1_any (px_ok false hl) (px_few false hl) rfl H).mono fun e w' h=>h.imp id fun v t _ hk=>?_⟩
 obtain ⟨rfl,S',h,x1,x2,x3,x4,x5,x6,x7,x8,x9,x10,hh,hx,H⟩:=hk
 exact ⟨rfl,_,⟨S',h,x1,x2,x3,x4,x5,x6,x7,x8,x9,x10,hh,hx,rfl⟩,H.selT 5 [0,1,2,4,3] rfl rfl⟩
theorem pparse_any {W w0:World} {rs:List Res} (s:ByteArray) (hs:s.size≤maxLen) (H:Own W none w0 rs) :
   Calls Tryz.prog 11 #[.string s] w0 fun e w'=>∃ (p:Prg) (pl:Nat) (er:Int) (x1 x2 x3 x4 x5 x6 x7 x8 x9 x10:Value) (S:Nat→Prop) (h:Nat),e = .returned (.tuple #[.agg #[x1,x2,x3,x4,x5,x6,x7,x8,x9,x10],.int .i64 (pl:Int),.int .i64 er])∧h≤2000000∧[x1,x2,x3,x4,x5,x6,x7,x8,x9,x10].all (fun x=>x.oneCell')=true ∧
     Own W none w' (.prog S h [x1,x2,x3,x4,x5,x6,x7,x8,x9,x10] p :: rs)∧ParsedAs zPrg (parseT s) p pl er:=by
 refine enterF func11 rfl ntmps11 rfl (fun a F=>?_);refine cSR fun K1 hK1=>?_;refine sAl H zeroValue29 F rfl rfl ?_;clear F a H;intro b2 a w F H;refine sAs F rfl rfl rfl (qAs rfl rfl rfl (qNK hK1 (qSR fun K2 hK2=>?_)));clear hK1;clear F a;intro a F;refine sAl H zeroValue29 F rfl rfl ?_;clear F a H;intro b5 a w F H;refine nK hK2 (cSR fun K3 hK3=>sMv F rfl rfl rfl (qBd (places:=[(0,3),(3,1),(4,1),(5,10),(15,1),(16,1)]) zeroValue66 underlying66 (by kernel_rfl) rfl rfl rfl rfl (qFn rfl rfl rfl rfl ?_)));clear hK2;clear F a;intro a F;refine sCall call25 F rfl rfl rfl (prun_any s hs false [] none 0 _ (progP (pxOf s false)) (ProgG b5 b2 rs) (parse_read s b5 b2) H) ?_;rintro e w hq
 obtain ⟨pl,er,rfl,hx⟩:=runPost_of hq (runR_ne fun _ _=>prog_ne)
 refine ⟨_,rfl,?_⟩;clear F a;intro a F;refine sMv F rfl rfl rfl (qExt rfl rfl rfl rfl (qExt rfl rfl rfl rfl (qAs rfl rfl rfl (qAs rfl rfl rfl (qNK hK3 ?_)))));clear hK3;clear F a;intro a F;refine cSeq (fun K4 hK4=>?_);refine cSR fun K5 hK5=>sMv F rfl rfl rfl (qBin rfl rfl rfl rfl bNeq (qNK hK5 ?_));clear hK5;clear F a;intro a F
 refine cIf F rfl (fun h14=>?_) (fun h14=>?_)
 ·
  replace h14:=bneT h14
  obtain ⟨_,hr,H⟩:er ≠ 0∧RunR s (progP (pxOf s false)) = .inl (pl,er)∧Own W none w (.blk b5 zPC 29 :: .blk b2 zPC 29 :: rs):=by
    rcases hx with hx | ⟨h,_⟩
    · exact hx
    · exact absurd h h14
  refine cSR fun K6 hK6=>sBd (places:=[(0,1),(1,1),(2,1),(3,1),(4,1),(5,5)]) zeroValue29 underlying29 (by kernel_rfl) F rfl rfl rfl rfl (qMv rfl rfl rfl (qMv rfl rfl rfl ?_));clear F a;intro a F
  refine sSr H 1 ?si F rfl rfl rfl ?s1 rfl rfl ?_
  case si=>exact info_size sizeOf29
  case s1=>first | rfl | (repeat (first | exact one_nil | (apply one_cons;· first | rfl | assumption | exact one_bif rfl rfl)))
  clear H;intro w H;refine sAs F rfl rfl rfl (qAs rfl rfl rfl (qNK hK6 ?_));clear hK6;clear F a;intro a F;refine wp_ret ?_;simp only [Exit.then];refine bRetC2 results11 F rfl rfl rfl underlying29 rfl H 1 rfl sizeOf29 rfl ?_
  first
  | exact ⟨zPrg,pl,er,_,_,_,_,_,_,_,_,_,_,_,1,rfl,by decide,rfl,own_zprog H.tail.tail,.inl ⟨hr,h14,rfl⟩⟩
  | exact ⟨v,0,0,_,_,_,_,_,_,_,_,_,_,S9,h9,rfl,hh9,hx9,H.tail.tail,.inr ⟨hr,rfl,rfl⟩⟩
 replace h14:=bneF h14
 obtain ⟨rfl,rfl,v,qs,hr,⟨S9,h9,x1,x2,x3,x4,x5,x6,x7,x8,x9,x10,hh9,hx9,rfl⟩,H⟩:er=0∧pl=0∧∃ v qs,RunR s (progP (pxOf s false)) = .inr v∧ProgG b5 b2 rs v qs∧Own W none w qs:=by
   rcases hx with ⟨h,_⟩ | hx
   · exact absurd h14 h
   · exact hx
 obtain ⟨o1,o2,o3,o4,o5,o6,o7,o8,o9,o10⟩:=ten_all hx9
 refine wp_skip (hK4 _ _ (cSR fun K7 hK7=>?_));clear hK4
 refine sLr underlying29 rfl ?si F rfl rfl rfl (H.whole 0 rfl) ?_
 case si=>exact info_size sizeOf29
 clear F a;intro a F
 refine sSr H 1 ?si F rfl rfl rfl ?s1 rfl rfl ?_
 case si=>exact info_size sizeOf29
 case s1=>first | rfl | (repeat (first | exact one_nil | (apply one_cons;· first | rfl | assumption | exact one_bif rfl rfl)))
 clear H;intro w H;refine sAs F rfl rfl rfl (qAs rfl rfl rfl (qNK hK7 ?_));clear hK7;clear F a;intro a F;refine wp_ret ?_;refine bRetC2 results11 F rfl rfl rfl underlying29 rfl H 1 rfl sizeOf29 rfl ?_
 first
 | exact ⟨zPrg,pl,er,_,_,_,_,_,_,_,_,_,_,_,1,rfl,by decide,rfl,own_zprog H.tail.tail,.inl ⟨hr,h14,rfl⟩⟩
 | exact ⟨v,0,0,_,_,_,_,_,_,_,_,_,_,S9,h9,rfl,hh9,hx9,H.tail.tail,.inr ⟨hr,rfl,rfl⟩⟩
end Go.Proofs.YtkchaoajegkadaaGreatDoor
namespace Go.Proofs.YtkchaoajegkadaaGreatDoor
open Go.Proofs.Tryz
open Go.RowKit
set_option maxRecDepth 100000
def Res.room (b n:Nat) (t:TypeId):Res:=⟨(· = b),fun w=>∃ cs,cs.length=n∧Blk w b cs t,fun w w' h hp=>by
 obtain ⟨cs,h1,h2⟩:=hp
 exact ⟨cs,h1,(h b rfl).trans h2⟩⟩
section
variable {c:PX} {s:PS} {v:Cnd} {t:PS}
end
end Go.Proofs.YtkchaoajegkadaaGreatDoor
namespace Go.Proofs.YtkchaoajegkadaaGreatDoor
open Go.Proofs.Tryz
open Go.RowKit
set_option maxRecDepth 100000
def Cnd.ki:Cnd→UInt8 | .mk k _ _ _ _=>k
def Cnd.th:Cnd→UInt8 | .mk _ t _ _ _=>t
def Cnd.nn:Cnd→UInt8 | .mk _ _ n _ _=>n
def Cnd.va:Cnd→UInt8 | .mk _ _ _ v _=>v
def Cnd.ks:Cnd→List Cnd | .mk _ _ _ _ l=>l
def ccells (c:Cnd) (A:Option Addr) (C:Nat):List Value:=[b8 c.ki,b8 c.th,b8 c.nn,b8 c.va,.slice A c.ks.length C]
structure PgM where
 LA:Option Addr
 LC:Nat
 IA:Option Addr
 IC:Nat
 TA:Option Addr
 TC:Nat
 CA:Option Addr
 CC:Nat
 hr:List (List Value)
 S:Nat→Prop
 h:Nat
def pcells (p:Prg) (m:PgM):List Value:=
 [.string p.name,.slice m.LA p.locs.length m.LC,.slice m.IA p.init.length m.IC,.slice m.TA p.threads.length m.TC,b8 p.ask,b8 p.cond.ki,b8 p.cond.th,b8 p.cond.nn,b8 p.cond.va,.slice m.CA p.cond.ks.length m.CC]
theorem treeCells {S:Nat→Prop} {w:World} {h:Nat} {cs:List Value} {c:Cnd} (hc:TreeIn S w h cs c):∃ A C,cs=ccells c A C:=by
 cases h with
 | zero=>exact hc.elim
 | succ h=>
   obtain ⟨k,t,n,v,kids⟩:=c
   obtain ⟨A,C,rfl,_⟩:=hc
   exact ⟨A,C,rfl⟩
structure ProgW (p:Prg) (m:PgM) (w:World):Prop where
 locs:RowsIn m.S w m.LA 1 (strC p.locs)
 init:RowsIn m.S w m.IA 1 (iniC p.init)
 hdr:RowsIn m.S w m.TA 1 m.hr
 thr:ThrIn m.S w m.hr p.threads
 cond:TreeIn m.S w m.h (ccells p.cond m.CA m.CC) p.cond
 capL:p.locs.length≤m.LC
 capI:p.init.length≤m.IC
 capT:p.threads.length≤m.TC
theorem ProgW.loc {p:Prg} {m:PgM} {w w':World} (hs:∀ b,m.S b→w'.heap[b]? = w.heap[b]?) (h:ProgW p m w):ProgW p m w':=
 ⟨h.locs.loc hs (fun _ h=>h),h.init.loc hs (fun _ h=>h),h.hdr.loc hs (fun _ h=>h),h.thr.loc hs (fun _ h=>h),h.cond.loc hs (fun _ h=>h),h.capL,h.capI,h.capT⟩
def Res.prw (p:Prg) (m:PgM):Res:=⟨m.S,ProgW p m,fun _ _ hb hp=>hp.loc hb⟩
theorem Own.prw {W w:World} {rs:List Res} (H:Own W Option.none w rs) (i:Nat) {p:Prg} {m:PgM} (hi:rs[i]? = some (.prw p m)):ProgW p m w:=H.pred i _ hi
section
variable {p:Prg} {m:PgM} {w:World}
theorem RowsIn.row {S:Nat→Prop} {b o j sz:Nat} {cs:List Value} {rows:List (List Value)} (h:RowsIn S w (some ⟨b,o,none⟩) sz rows) (hj:rows[j]? = some cs):w.rangeAt b (o+j * sz) cs:=by
 obtain ⟨b',o',h1,_,h3⟩:=h j _ hj
 cases h1
 exact h3
theorem ThrIn.hd {S:Nat→Prop} {hr:List (List Value)} {ths:List (List Ins)} (h:ThrIn S w hr ths) {j:Nat} {l:List Ins} (hj:ths[j]? = some l):∃ A C,hr[j]? = some [.slice A l.length C]:=by
 obtain ⟨A,C,h1,_⟩:=h j l hj
 exact ⟨A,C,h1⟩
theorem ThrIn.rows {S:Nat→Prop} {hr:List (List Value)} {ths:List (List Ins)} (h:ThrIn S w hr ths) {j:Nat} {l:List Ins} (hj:ths[j]? = some l) {A:Option Addr} {n C:Nat} (hA:hr[j]? = some [.slice A n C]):RowsIn S w A 10 (insC l):=by
 obtain ⟨A',C',h1,h2⟩:=h j l hj
 rw [hA] at h1
 cases h1
 exact h2
end
theorem pparse2_any {W w0:World} {rs:List Res} (s:ByteArray) (hs:s.size≤maxLen) (H:Own W none w0 rs) :
   Calls Tryz.prog 11 #[.string s] w0 fun e w'=>∃ (p:Prg) (pl:Nat) (er:Int) (m:PgM),e = .returned (.tuple #[.agg (pcells p m).toArray,.int .i64 (pl:Int),.int .i64 er])∧m.h≤2000000∧Own W none w' (.prw p m :: rs)∧ParsedAs zPrg (parseT s) p pl er:=by
 refine (pparse_any s hs H).mono fun e w' hq=>?_
 obtain ⟨p,pl,er,x1,x2,x3,x4,x5,x6,x7,x8,x9,x10,S,h,rfl,hh,_,H,hp⟩:=hq
 obtain ⟨LA,LC,IA,IC,TA,TC,hrows,ccs,h1,h2,h3,h4,h5,h6,h7,h8,h9⟩:ProgS S h [x1,x2,x3,x4,x5,x6,x7,x8,x9,x10] p w':=H.pred 0 _ rfl
 obtain ⟨CA,CC,rfl⟩:=treeCells h6
 let m:PgM:=⟨LA,LC,IA,IC,TA,TC,CA,CC,hrows,S,h⟩
 have e:[x1,x2,x3,x4,x5,x6,x7,x8,x9,x10]=pcells p m:=h1
 exact ⟨p,pl,er,m,by rw [← e],hh,H.seen (.prw p m) ⟨h2,h3,h4,h5,h6,h7,h8,h9⟩ (fun _ hb=>hb),hp⟩
theorem pparse_in {s:ByteArray} {p q:Prg} {pl:Nat} {er:Int} (h:ParsedAs zPrg (parseT s) p pl er) (hq:parseT s = .inr q):p=q∧pl=0∧er=0:=by
 rcases h with ⟨h1,_⟩ | ⟨h1,h2,h3⟩
 · rw [hq] at h1;cases h1
 · rw [hq] at h1;cases h1;exact ⟨rfl,h2,h3⟩
-- PzP
open Go.RowKit
set_option maxRecDepth 100000
theorem runR_inr {α:Type} {s:ByteArray} {R:Rs α} {v:α} (h:RunR s R = .inr v):lexBad s=none∧∃ t,R = .ok v t:=by
 unfold RunR at h
 split at h
 · cases h
 next hl=>
   split at h
   next v' t=>cases h;exact ⟨hl,t,rfl⟩
   · cases h
theorem name_size {x:ByteArray} (h:nameOk x=true):x.size≤16:=by
 unfold nameOk at h
 split at h
 next h1=>exact h1.2
 · cases h
/-! ### A program's name -/
section
variable {c:PX}
theorem Rs.All.any {α:Type} {r:Rs α}:r.All fun _ _=>True:=fun _ _ _=>trivial
theorem init_name:∀ (f:Nat) (q:QL) (s:PS),(initL c f q s).All fun v _=>v.name=q.name
 | 0,q,s=>.no
 | f+1,q,s=>by
   unfold initL
   cases idxOf (c.word s.pos) s.names 0 with
   | some _=>exact .no
   | none=>
     refine Rs.All.any.bind fun _ s1 _ _=>Rs.All.any.bind fun _ s2 _ _=>Rs.All.any.bind fun v s3 _ _=>?_
     exact .ite (fun _=>.ok rfl) (fun _=>(init_name f _ s3).imp fun q' t h=>h)
theorem line_name (q:QL) (s:PS):(lineL c q s).All fun v _=>v.name=q.name∨∃ i,v.name=c.word i:=by
 have hask:∀ k,(askL c k q s).All fun v _=>v.name=q.name∨∃ i,v.name=c.word i:=fun k=>by
   unfold askL failP
   exact .ite (fun _=>Rs.All.any.bind fun _ _ _ _=>.ok (.inl rfl)) (fun _=>.no)
 unfold lineL
 refine .ite (fun _=>?_) (fun _=>.ite (fun _=>.ite (fun _=>(init_name _ q _).imp fun _ _ h=>.inl h) (fun _=>.no)) (fun _=>.ite (fun _=>?_) (fun _=>.ite (fun _=>hask 1) (fun _=>.ite (fun _=>hask 2) (fun _=>.ite (fun _=>hask 3) (fun _=>?_))))))
 · unfold testL failP
   exact .ite (fun _=>.ite (fun _=>.no) (fun _=>.ok (.inr ⟨_,rfl⟩))) (fun _=>.no)
 · unfold threadL failP
   exact .ite (fun _=>.ite (fun _=>.no) (fun _=>.ok (.inl rfl))) (fun _=>.no)
 · unfold addL failP
   exact .ite (fun _=>.ite (fun _=>.ite (fun _=>.no) (fun _=>Rs.All.any.bind fun _ _ _ _=>.ok (.inl rfl))) (fun _=>.no)) (fun _=>.no)
theorem lines_name:∀ (f:Nat) (q:QL) (s:PS),(linesL c f q s).All fun v _=>v.name=q.name∨∃ i,v.name=c.word i
 | 0,q,s=>.no
 | f+1,q,s=>by
   unfold linesL
   refine .ite (fun _=>.ok (.inl rfl)) (fun _=>(line_name q s).bind fun q' t _ h1=>Rs.All.any.bind fun _ u _ _=>(lines_name f q' u).imp fun v _ h2=>?_)
   rcases h2 with h2 | h2
   · rw [h2];exact h1
   · exact .inr h2
theorem prog_name {p:Prg} {t:PS} (h:progP c = .ok p t):p.name=ByteArray.empty∨∃ i,p.name=c.word i:=by
 have:(progP c).All fun p _=>p.name=ByteArray.empty∨∃ i,p.name=c.word i:=by
   unfold progP failP
   exact (lines_name _ _ _).bind fun q s _ hq=>.ite (fun _=>.no) (fun _=>.ite (fun _=>.no) (fun _=>.ok hq))
 exact this p t h
end
structure PSz (p:Prg):Prop where
 name:p.name.size≤maxLen
 locs:p.locs.length≤1000
 locsS:∀ s ∈ p.locs,s.size≤maxLen
 init:p.init.length≤1000
 thr:p.threads.length≤1000
 ins:∀ t ∈ p.threads,t.length≤1000
theorem psz_of {s:ByteArray} {p:Prg} (h:parseT s = .inr p):PSz p:=by
 obtain ⟨hl,t,ht⟩:=runR_inr h
 have fit:=progP_fit ht
 refine ⟨?_,by have:=fit.nm.few;omega,fun x hx=>by have:=name_size (fit.nm.ok x hx);unfold maxLen;omega,by have:=fit.ini;have:=fit.nm.few;omega,by have:=fit.thr;omega,fun l hl=>by have:=(fit.ins l hl).1;omega⟩
 rcases prog_name ht with h | ⟨i,h⟩
 · rw [h];decide
 · rw [h]
   unfold PX.word
   split
   · unfold PX.text
     split
     next t hi=>have:=((px_ok false hl).text i t hi).1;unfold maxLen;omega
     · decide
   · decide
theorem progIn_of {p:Prg} {m:PgM} {w:World} (hw:ProgW p m w) (hz:PSz p):ProgIn w (pcells p m) p m.LA m.LC m.IA m.IC m.TA m.TC m.h (ccells p.cond m.CA m.CC) where
 cs:=rfl
 name:=hz.name
 locs:=hw.locs.rows
 locsN:=by have:=hz.locs;omega
 locsC:=hw.capL
 locsS:=hz.locsS
 init:=hw.init.rows
 initN:=by have:=hz.init;omega
 threads:=fun j t hj=>by
   obtain ⟨A,C,h1,h2⟩:=hw.thr j t hj
   obtain ⟨b,off,h3,_,h4⟩:=hw.hdr j _ h1
   exact ⟨b,off,A,C,h3,by have:=h4 0 _ rfl;rwa [Nat.add_zero] at this,RowsIn.rows h2,by have:=hz.ins t (List.mem_of_getElem? hj);omega⟩
 threadsN:=by have:=hz.thr;omega
 cond:=hw.cond.at
end Go.Proofs.YtkchaoajegkadaaGreatDoor
