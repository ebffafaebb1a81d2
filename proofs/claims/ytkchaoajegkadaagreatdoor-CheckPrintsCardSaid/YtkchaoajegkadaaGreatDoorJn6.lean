/-
  WALK2. Conditions and rows held in blocks of a function's own. Conditions: none.
-/
import Derived.Test.YtkchaoajegkadaaGreatDoorJn5
import Derived.Test.YtkchaoajegkadaaGreatDoorCkK
import Derived.Test.YtkchaoajegkadaaGreatDoorJn2
set_option linter.unusedSimpArgs false
set_option linter.unusedVariables false
namespace Go.Proofs.YtkchaoajegkadaaGreatDoor
-- TrQ
open Go.RowKit
set_option maxRecDepth 100000
def TreeIn (S:Nat→Prop) (w:World):Nat→List Value→Cnd→Prop
 | 0,_,_=>False
 | h+1,cs,.mk k t n v kids=>∃ A C,cs=[b8 k,b8 t,b8 n,b8 v,.slice A kids.length C]∧kids.length≤9223372036854775807 ∧
     ∀ j kid,kids[j]? = some kid→∃ b off cs',A=some ⟨b,off,none⟩∧S b∧w.rangeAt b (off+j * 5) cs'∧TreeIn S w h cs' kid
theorem TreeIn.at {S:Nat→Prop} {w:World}:∀ {h:Nat} {cs:List Value} {c:Cnd},TreeIn S w h cs c→CondAt w h cs c
 | 0,_,_,hc=>hc
 | h+1,cs,.mk k t n v kids,⟨A,C,h1,h2,h3⟩=>⟨A,C,h1,h2,fun j kid hj=>by
   obtain ⟨b,off,cs',h4,_,h6,h7⟩:=h3 j kid hj
   exact ⟨b,off,cs',h4,h6,h7.at⟩⟩
theorem range_same {w w':World} {b o:Nat} {cs:List Value} (h:w'.heap[b]? = w.heap[b]?) (hr:w.rangeAt b o cs):w'.rangeAt b o cs:=fun k v hk=>by
 have:=hr k v hk
 unfold World.cell? at this ⊢
 simp only [h]
 exact this
theorem TreeIn.loc {S T:Nat→Prop} {w w':World} (hs:∀ b,S b→w'.heap[b]? = w.heap[b]?) (hT:∀ b,S b→T b):∀ {h:Nat} {cs:List Value} {c:Cnd},TreeIn S w h cs c→TreeIn T w' h cs c
 | 0,_,_,hc=>hc
 | h+1,cs,.mk k t n v kids,⟨A,C,h1,h2,h3⟩=>⟨A,C,h1,h2,fun j kid hj=>by
   obtain ⟨b,off,cs',h4,h5,h6,h7⟩:=h3 j kid hj
   exact ⟨b,off,cs',h4,hT b h5,range_same (hs b h5) h6,h7.loc hs hT⟩⟩
def Res.tree (S:Nat→Prop) (h:Nat) (cs:List Value) (c:Cnd):Res:=⟨S,fun w=>TreeIn S w h cs c,fun _ _ hb hp=>hp.loc hb (fun _ h=>h)⟩
def Res.forest (S:Nat→Prop) (h:Nat) (rows:List (List Value)) (kids:List Cnd):Res:=
 ⟨S,fun w=>∀ (j:Nat) (r:List Value) (kid:Cnd),rows[j]? = some r→kids[j]? = some kid→TreeIn S w h r kid,fun _ _ hb hp j r kid h1 h2=>(hp j r kid h1 h2).loc hb (fun _ h=>h)⟩
theorem condShape {w:World}:∀ {h:Nat} {cs:List Value} {c:Cnd},CondAt w h cs c→∃ k t n v A m C,cs=[b8 k,b8 t,b8 n,b8 v,.slice A m C]
 | 0,_,_,h=>h.elim
 | _+1,cs,.mk _ _ _ _ _,h=>by obtain ⟨A,C,rfl,_⟩:=h;exact ⟨_,_,_,_,_,_,_,rfl⟩
theorem Own.plant {w0 w:World} {row:Option Nat} {S T:Nat→Prop} {h:Nat} {cs:List Value} {c:Cnd} {rows:List (List Value)} {kids:List Cnd} {rs:List Res} (H:Own w0 row w (.tree T h cs c :: .forest S h rows kids :: rs)) (hk:kids[rows.length]? = some c) :
   Own w0 row w (.forest (fun b=>T b∨S b) h (rows++[cs]) kids :: rs):=by
 have hT:TreeIn T w h cs c:=H.pred 0 _ rfl
 have hS:∀ (j:Nat) (r:List Value) (kid:Cnd),rows[j]? = some r→kids[j]? = some kid→TreeIn S w h r kid:=H.pred 1 _ rfl
 refine H.fuse (.forest (fun b=>T b∨S b) h (rows++[cs]) kids) (show ∀ (j:Nat) (r:List Value) (kid:Cnd),(rows++[cs])[j]? = some r→kids[j]? = some kid→TreeIn (fun b=>T b∨S b) w h r kid from fun j r kid h1 h2=>?_) (fun b hb=>hb)
 rcases Nat.lt_or_ge j rows.length with hj | hj
 · rw [List.getElem?_append_left hj] at h1
   exact (hS j r kid h1 h2).loc (fun _ _=>rfl) (fun _ h=>.inr h)
 · rw [List.getElem?_append_right hj] at h1
   obtain e:j - rows.length=0:=by
     rcases Nat.eq_zero_or_pos (j - rows.length) with e | e
     · exact e
     · rw [List.getElem?_eq_none (by simp;omega)] at h1;cases h1
   rw [e] at h1
   obtain rfl:j=rows.length:=by omega
   rw [hk] at h2
   cases h1;cases h2
   exact hT.loc (fun _ _=>rfl) (fun _ h=>.inl h)
theorem Own.grown1 {w0 w:World} {row:Option Nat} {S:Nat→Prop} {h c:Nat} {e:TypeId} {A:Option Addr} {rows:List (List Value)} {kids:List Cnd} {rs:List Res} (k t n v:UInt8) (H:Own w0 row w (.forest S h rows kids :: .rws e 5 (.slice A rows.length c) rows :: rs)) (hl:rows.length=kids.length)
   (hr:∀ r ∈ rows,r.length=5) (hm:kids.length≤9223372036854775807) :
   Own w0 row w (.tree (fun b=>S b∨(Value.slice A rows.length c).ownBlock=some b) (h+1) [b8 k,b8 t,b8 n,b8 v,.slice A rows.length c] (.mk k t n v kids) :: rs):=by
 have hS:∀ (j:Nat) (r:List Value) (kid:Cnd),rows[j]? = some r→kids[j]? = some kid→TreeIn S w h r kid:=H.pred 0 _ rfl
 refine H.fuse (.tree (fun b=>S b∨(Value.slice A rows.length c).ownBlock=some b) (h+1) [b8 k,b8 t,b8 n,b8 v,.slice A rows.length c] (.mk k t n v kids)) (show TreeIn (fun b=>S b∨(Value.slice A rows.length c).ownBlock=some b) w (h+1) [b8 k,b8 t,b8 n,b8 v,.slice A rows.length c] (.mk k t n v kids) from ⟨A,c,by rw [hl],hm,fun j kid hj=>?_⟩) (fun b hb=>hb)
 have hjl:j < rows.length:=by rw [hl];exact (List.getElem?_eq_some_iff.1 hj).1
 obtain ⟨r,hrj⟩:∃ r,rows[j]? = some r:=⟨_,List.getElem?_eq_getElem hjl⟩
 obtain ⟨b,off,rfl,h2⟩:=H.rowsAt 1 rfl hr (by omega) j r hrj
 exact ⟨b,off,r,rfl,.inr rfl,h2,(hS j r kid hrj hj).loc (fun _ _=>rfl) (fun _ h=>.inl h)⟩
theorem TreeIn.deeper {S:Nat→Prop} {w:World}:∀ {h:Nat} (m:Nat) {cs:List Value} {c:Cnd},TreeIn S w h cs c→TreeIn S w (h+m) cs c
 | 0,_,_,_,hc=>hc.elim
 | h+1,m,cs,.mk k t n v kids,⟨A,C,h1,h2,h3⟩=>by
   rw [show h+1+m=(h+m)+1 by omega]
   exact ⟨A,C,h1,h2,fun j kid hj=>by
     obtain ⟨b,off,cs',h4,h5,h6,h7⟩:=h3 j kid hj
     exact ⟨b,off,cs',h4,h5,h6,h7.deeper m⟩⟩
theorem Own.deeper {w0 w:World} {row:Option Nat} {S:Nat→Prop} {h:Nat} {cs:List Value} {c:Cnd} {rs:List Res} (m:Nat) (H:Own w0 row w (.tree S h cs c :: rs)):Own w0 row w (.tree S (h+m) cs c :: rs):=
 H.seen (.tree S (h+m) cs c) ((H.pred 0 _ rfl:TreeIn S w h cs c).deeper m) (fun _ hb=>hb)
def Res.held (S:Nat→Prop) (A:Option Addr) (sz:Nat) (rows:List (List Value)):Res:=
 ⟨S,fun w=>∀ (j:Nat) (cs:List Value),rows[j]? = some cs→∃ b off,A=some ⟨b,off,none⟩∧S b∧w.rangeAt b (off+j * sz) cs,fun _ _ hb hp j cs h=>by
   obtain ⟨b,off,h1,h2,h3⟩:=hp j cs h
   exact ⟨b,off,h1,h2,range_same (hb b h2) h3⟩⟩
theorem Own.held {w0 w:World} {row:Option Nat} {S:Nat→Prop} {A:Option Addr} {sz:Nat} {rows:List (List Value)} {rs:List Res} (H:Own w0 row w rs) (i:Nat) (hi:rs[i]? = some (.held S A sz rows)):RowsAt w A sz rows:=fun j cs h=>by
 obtain ⟨b,off,h1,_,h3⟩:=(H.pred i _ hi:∀ (j:Nat) (cs:List Value),rows[j]? = some cs→∃ b off,A=some ⟨b,off,.none⟩∧S b∧w.rangeAt b (off+j * sz) cs) j cs h
 exact ⟨b,off,h1,h3⟩
theorem Own.toHeld {w0 w:World} {row:Option Nat} {e:TypeId} {n c sz:Nat} {A:Option Addr} {rows:List (List Value)} {rs:List Res} (H:Own w0 row w (.rws e sz (.slice A n c) rows :: rs)) (hr:∀ r ∈ rows,r.length=sz) (hsz:0 < sz) :
   Own w0 row w (.held (fun b=>(Value.slice A n c).ownBlock=some b) A sz rows :: rs):=by
 have h:=H.rowsAt 0 rfl hr hsz
 refine H.seen (.held (fun b=>(Value.slice A n c).ownBlock=some b) A sz rows) (show ∀ (j:Nat) (cs:List Value),rows[j]? = some cs→∃ b off,A=some ⟨b,off,.none⟩∧(Value.slice A n c).ownBlock=some b∧w.rangeAt b (off+j * sz) cs from fun j cs hj=>?_) (fun b hb=>hb)
 obtain ⟨b,off,h1,h2⟩:=h j cs hj
 exact ⟨b,off,h1,by rw [h1];rfl,h2⟩
-- PrQ
open Go.RowKit
set_option maxRecDepth 100000
/-! ### The parser's memory -/
def rowsT (ts:List Tok):List (List Value):=ts.map Tok.cells
theorem rowsT_len {ts:List Tok}:∀ r ∈ rowsT ts,r.length=3:=by
 intro r hr
 obtain ⟨t,_,rfl⟩:=List.mem_map.1 hr
 rfl
def strC (l:List ByteArray):List (List Value):=l.map fun s=>[.string s]
theorem strC_len {l:List ByteArray}:∀ r ∈ strC l,r.length=1:=by
 intro r hr
 obtain ⟨t,_,rfl⟩:=List.mem_map.1 hr
 rfl
def PX.lim (c:PX):Nat:=bif c.fixed then 1000 else 6
theorem PX.lim_le (c:PX):c.lim≤1000:=by unfold PX.lim;cases c.fixed <;> decide
theorem PX.lim_six {c:PX} (h:¬ c.fixed=true):c.lim=6:=by unfold PX.lim;cases hf:c.fixed with | true=>exact absurd hf h | false=>rfl
def Res.nms (W:World) (fx:Bool) (A:Option Addr) (C:Nat) (l:List ByteArray):Res:=
 bif fx then ⟨fun _=>False,fun _=>RowsAt W A 1 (strC l),fun _ _ _ h=>h⟩ else .rws 9 1 (.slice A l.length C) (strC l)
theorem nmsAt {W w:World} {rs:List Res} {fx:Bool} {A:Option Addr} {C:Nat} {l:List ByteArray} (H:Own W none w rs) (i:Nat) (hi:rs[i]? = some (.nms W fx A C l)):StrsAt w A l:=by
 cases fx with
 | true=>exact RowsAt.own (show RowsAt W A 1 (strC l) from H.pred i _ hi) H
 | false=>exact H.rowsAt i hi strC_len Nat.zero_lt_one
def curC (c:PX) (A:Option Addr) (C:Nat) (s:PS) (Y:List Value):List Value:=.slice A c.ts.length C :: .int .i64 (s.pos:Int) :: .int .i64 (c.size:Int) :: Y
def parC (c:PX) (A:Option Addr) (C:Nat) (s:PS) (B:Option Addr) (D:Nat) (X:List Value):List Value:=curC c A C s (.slice B s.names.length D :: .bool c.fixed :: X)
def flt (p e:Nat):List PanicEntry:=[{ v:=.iface 101 (.agg #[.int .i64 (p:Int),.int .i64 (e:Int)]),recovered:=false }]
def Ans {α:Type} (W:World) (rs:List Res) (r:Rs α) (K:α→PS→Ending→World→Prop) (e:Ending) (w':World):Prop:=
 match r with
 | .ok v s=>K v s e w'
 | .no p er=>e = .panicked (flt p er)∧Own W none w' rs
theorem Ans.cases {α:Type} {W w':World} {rs:List Res} {r:Rs α} {K:α→PS→Ending→World→Prop} {e:Ending} (h:Ans W rs r K e w') :
   (∃ p er,r = .no p er∧e = .panicked (flt p er)∧Own W none w' rs)∨∃ v s,r = .ok v s∧K v s e w':=by
 cases r with
 | ok v s=>exact .inr ⟨v,s,rfl,h⟩
 | no p er=>exact .inl ⟨p,er,rfl,h.1,h.2⟩
theorem Ans.no {α:Type} {W w':World} {rs:List Res} {r:Rs α} {K:α→PS→Ending→World→Prop} {p er:Nat} (h:r = .no p er) (H:Own W none w' rs):Ans W rs r K (.panicked (flt p er)) w':=by subst h;exact ⟨rfl,H⟩
theorem Ans.ok {α:Type} {W w':World} {rs:List Res} {r:Rs α} {K:α→PS→Ending→World→Prop} {e:Ending} {v:α} {s:PS} (h:r = .ok v s) (hk:K v s e w'):Ans W rs r K e w':=by subst h;exact hk
theorem lit_toList (l:List UInt8):(⟨l.toArray⟩:ByteArray).toList=l:=by rw [toList_data]
theorem heldRow {W w:World} {rs:List Res} (H:Own W none w rs) (i:Nat) {S:Nat→Prop} {g o sz j:Nat} {rows:List (List Value)} {cs:List Value} (hi:rs[i]? = some (.held S (some ⟨g,o,none⟩) sz rows)) (hj:rows[j]? = some cs):w.rangeAt g (o+j * sz) cs:=by
 obtain ⟨g',o',h1,h2⟩:=H.held i hi j cs hj
 cases h1
 exact h2
theorem rowsT_get {ts:List Tok} {j:Nat} {t:Tok} (h:ts[j]? = some t):(rowsT ts)[j]? = some t.cells:=by unfold rowsT;rw [List.getElem?_map,h];rfl
def PX.atP (c:PX) (i:Nat):Nat:=match c.ts[i]? with | some t=>t.pos | none=>0
theorem px_some {c:PX} {i:Nat} {t:Tok} (h:c.ts[i]? = some t):c.kind i=t.kind∧c.text i=t.text∧c.atP i=t.pos∧c.place i=t.pos:=by
 refine ⟨?_,?_,?_,?_⟩
 · unfold PX.kind;rw [h]
 · unfold PX.text;rw [h]
 · unfold PX.atP;rw [h]
 · unfold PX.place;rw [h]
theorem px_none {c:PX} {i:Nat} (h:c.ts.length≤i):c.kind i=0∧c.text i=ByteArray.empty∧c.atP i=0∧c.place i=c.size:=by
 have h:=List.getElem?_eq_none h
 refine ⟨?_,?_,?_,?_⟩
 · unfold PX.kind;rw [h]
 · unfold PX.text;rw [h]
 · unfold PX.atP;rw [h]
 · unfold PX.place;rw [h]
structure PX.Ok (c:PX):Prop where
 few:c.ts.length≤1000000
 size:c.size≤1000000
 text:∀ (i:Nat) (t:Tok),c.ts[i]? = some t→t.text.size≤1000000∧t.pos≤1000000∧t.kind≤4
-- PrA
open Go.Proofs.Tryz
open Go.RowKit
set_option maxRecDepth 100000
theorem ptoken_any {W w0:World} {rs:List Res} {c:PX} (hc:c.Ok) {A:Option Addr} {C bp:Nat} {S:Nat→Prop} {s:PS} {Y:List Value} (hp:s.pos≤1000000) (H:Own W none w0 (.blk bp (curC c A C s Y) 66 :: .held S A 3 (rowsT c.ts) :: rs)) :
   Calls Tryz.prog 100 #[.pointer (some ⟨bp,0,none⟩)] w0 fun e w'=>e = .returned (.agg #[.int .u8 (c.kind s.pos:Int),.string (c.text s.pos),.int .i64 (c.atP s.pos:Int)])∧Own W none w' (.blk bp (curC c A C s Y) 66 :: .held S A 3 (rowsT c.ts) :: rs):=by
 have hfew:=hc.few
 refine enterF func100 rfl ntmps100 rfl (fun a F=>?_);refine cSR fun K1 hK1=>?_;refine sAl H zeroValue140 F rfl rfl ?_;clear F a H;intro b2 a w F H;refine nK hK1 ?_;clear hK1;refine cSeq (fun K2 hK2=>?_);refine cSeq (fun K3 hK3=>?_);refine cRegRO (by kernel_rfl) H ?_;replace H:=H.drew;refine eTF 0 rfl (by kernel_rfl) F rfl rfl rfl (fun w=>rMv F rfl) H qq0 (qT 1 rfl (by kernel_rfl) rfl rfl rfl rfl (fun a F w H=>rNc F rfl) H qq0 (qTF 2 rfl (by kernel_rfl) rfl rfl rfl (fun a F w=>rFa (f:=1) (k:=1) underlying64 rfl sizeOf3 rfl rfl F rfl) H qq0 (qT 3 rfl (by kernel_rfl) rfl rfl rfl rfl (fun a F w H=>rLd isAgg3 F rfl (H.cell 1 rfl rfl)) H qq0 (qTF 4 rfl (by kernel_rfl) rfl rfl rfl (fun a F w=>rMv F rfl) H qq0 (qT 5 rfl (by kernel_rfl) rfl rfl rfl rfl (fun a F w H=>rNc F rfl) H qq0 (qTF 6 rfl (by kernel_rfl) rfl rfl rfl (fun a F w=>rFa (f:=0) (k:=0) underlying64 rfl sizeOf62 rfl rfl F rfl) H qq0 (qT 7 rfl (by kernel_rfl) rfl rfl rfl rfl (fun a F w H=>rLd isAgg62 F rfl (H.cell 1 rfl rfl)) H qq0 (qT 8 rfl (by kernel_rfl) rfl rfl rfl rfl (fun a F w H=>rLen underlying62 F rfl) H qq0 (qTF 9 rfl (by kernel_rfl) rfl rfl rfl (fun a F w=>rBin F rfl rfl bGeq) H qq0 ?_)))))))));clear F a;intro a F;refine eNil (k:=10) (by kernel_rfl) ?_;refine hK3 _ _ ?_;clear hK3
 refine cIf F rfl (fun h12=>?_) (fun h12=>?_)
 ·
  replace h12:=of_decide_eq_true h12
  obtain ⟨e1,e2,e3,e4⟩:=px_none (c:=c) (i:=s.pos) (by omega)
  refine cSR fun K4 hK4=>sBd (places:=[(0,1),(1,1),(2,1)]) zeroValue140 underlying140 (by kernel_rfl) F rfl rfl rfl rfl ?_;clear F a;intro a F
  refine sSr H 0 ?si F rfl rfl rfl ?s1 rfl rfl ?_
  case si=>exact info_size sizeOf140
  case s1=>first | rfl | (repeat (first | exact one_nil | (apply one_cons;· first | rfl | assumption | exact one_bif rfl rfl)))
  clear H;intro w H;refine nK hK4 ?_;clear hK4;refine wp_ret ?_;simp only [Exit.then];refine bRetC results100 F rfl underlying140 rfl H 0 rfl sizeOf140 rfl ?_
  exact ⟨by rw [e1,e2,e3];rfl,H.tail⟩
 replace h12:=of_decide_eq_false h12
 have hlt:s.pos < c.ts.length:=by omega
 obtain ⟨t,ht⟩:∃ t,c.ts[s.pos]? = some t:=⟨_,List.getElem?_eq_getElem hlt⟩
 obtain ⟨e1,e2,e3,e4⟩:=px_some ht
 obtain ⟨g,o,rfl,_⟩:=H.held 2 rfl s.pos t.cells (rowsT_get ht)
 refine wp_skip (hK2 _ _ ?_);clear hK2;refine cSeq (fun K5 hK5=>?_);refine cRegRO (by kernel_rfl) H ?_;replace H:=H.drew;refine eTF 0 rfl (by kernel_rfl) F rfl rfl rfl (fun w=>rMv F rfl) H qq0 (qT 1 rfl (by kernel_rfl) rfl rfl rfl rfl (fun a F w H=>rNc F rfl) H qq0 (qTF 2 rfl (by kernel_rfl) rfl rfl rfl (fun a F w=>rFa (f:=0) (k:=0) underlying64 rfl sizeOf62 rfl rfl F rfl) H qq0 (qT 3 rfl (by kernel_rfl) rfl rfl rfl rfl (fun a F w H=>rLd isAgg62 F rfl (H.cell 1 rfl rfl)) H qq0 (qTF 4 rfl (by kernel_rfl) rfl rfl rfl (fun a F w=>rMv F rfl) H qq0 (qT 5 rfl (by kernel_rfl) rfl rfl rfl rfl (fun a F w H=>rNc F rfl) H qq0 (qTF 6 rfl (by kernel_rfl) rfl rfl rfl (fun a F w=>rFa (f:=1) (k:=1) underlying64 rfl sizeOf3 rfl rfl F rfl) H qq0 (qT 7 rfl (by kernel_rfl) rfl rfl rfl rfl (fun a F w H=>rLd isAgg3 F rfl (H.cell 1 rfl rfl)) H qq0 ?_)))))));clear F a;intro a F
 refine eTakeF (k:=8) (i:=8) rfl (by kernel_rfl) F rfl rfl rfl (fun w=>rIx underlying62 sizeOf140 F rfl rfl ?_) H (fun _ _ _ h=>h) ?_
 focus omega
 clear F a;intro a F
 refine eTake (k:=9) (i:=9) rfl (by kernel_rfl) F rfl rfl rfl rfl (fun w H=>rLr underlying140 rfl ?si F rfl (heldRow H 2 rfl (rowsT_get ht))) H (fun _ _ _ h=>h) ?_
 case si=>exact info_size sizeOf140
 clear F a;intro a F
 refine eOne (k:=10) (i:=10) rfl (by kernel_rfl) F rfl (oSr H 0 ?si F rfl rfl ?s1 rfl rfl ?_)
 case si=>exact info_size sizeOf140
 case s1=>first | rfl | (repeat (first | exact one_nil | (apply one_cons;· first | rfl | assumption | exact one_bif rfl rfl)))
 clear H;intro w H;refine ePartO (by kernel_rfl) H ?_;refine eNil (k:=11) (by kernel_rfl) ?_;refine hK5 _ _ ?_;clear hK5;refine wp_ret ?_;refine bRetC results100 F rfl underlying140 rfl H 0 rfl sizeOf140 rfl ?_
 exact ⟨by rw [e1,e2,e3];rfl,H.tail⟩
theorem pplace_any {W w0:World} {rs:List Res} {c:PX} (hc:c.Ok) {A:Option Addr} {C bp:Nat} {S:Nat→Prop} {s:PS} {Y:List Value} (hp:s.pos≤1000000) (H:Own W none w0 (.blk bp (curC c A C s Y) 66 :: .held S A 3 (rowsT c.ts) :: rs)) :
   Calls Tryz.prog 52 #[.pointer (some ⟨bp,0,none⟩)] w0 fun e w'=>e = .returned (.int .i64 (c.place s.pos:Int))∧Own W none w' (.blk bp (curC c A C s Y) 66 :: .held S A 3 (rowsT c.ts) :: rs):=by
 have hfew:=hc.few
 refine enterF func52 rfl ntmps52 rfl (fun a F=>?_);refine cSR fun K1 hK1=>sAs F rfl rfl rfl (qNK hK1 ?_);clear hK1;clear F a;intro a F;refine cSeq (fun K2 hK2=>?_);refine cSeq (fun K3 hK3=>?_);refine cRegRO (by kernel_rfl) H ?_;replace H:=H.drew;refine eTF 0 rfl (by kernel_rfl) F rfl rfl rfl (fun w=>rMv F rfl) H qq0 (qT 1 rfl (by kernel_rfl) rfl rfl rfl rfl (fun a F w H=>rNc F rfl) H qq0 (qTF 2 rfl (by kernel_rfl) rfl rfl rfl (fun a F w=>rFa (f:=1) (k:=1) underlying64 rfl sizeOf3 rfl rfl F rfl) H qq0 (qT 3 rfl (by kernel_rfl) rfl rfl rfl rfl (fun a F w H=>rLd isAgg3 F rfl (H.cell 0 rfl rfl)) H qq0 (qTF 4 rfl (by kernel_rfl) rfl rfl rfl (fun a F w=>rMv F rfl) H qq0 (qT 5 rfl (by kernel_rfl) rfl rfl rfl rfl (fun a F w H=>rNc F rfl) H qq0 (qTF 6 rfl (by kernel_rfl) rfl rfl rfl (fun a F w=>rFa (f:=0) (k:=0) underlying64 rfl sizeOf62 rfl rfl F rfl) H qq0 (qT 7 rfl (by kernel_rfl) rfl rfl rfl rfl (fun a F w H=>rLd isAgg62 F rfl (H.cell 0 rfl rfl)) H qq0 (qT 8 rfl (by kernel_rfl) rfl rfl rfl rfl (fun a F w H=>rLen underlying62 F rfl) H qq0 (qTF 9 rfl (by kernel_rfl) rfl rfl rfl (fun a F w=>rBin F rfl rfl bGeq) H qq0 ?_)))))))));clear F a;intro a F;refine eNil (k:=10) (by kernel_rfl) ?_;refine hK3 _ _ ?_;clear hK3
 refine cIf F rfl (fun h12=>?_) (fun h12=>?_)
 ·
  replace h12:=of_decide_eq_true h12
  obtain ⟨e1,e2,e3,e4⟩:=px_none (c:=c) (i:=s.pos) (by omega)
  refine cSR fun K4 hK4=>sMv F rfl rfl rfl (qNc rfl rfl rfl (qFa (f:=2) (k:=2) underlying64 rfl sizeOf3 rfl rfl rfl rfl rfl (qLd isAgg3 rfl rfl rfl (H.cell 0 rfl rfl) (qAs rfl rfl rfl (qNK hK4 ?_)))));clear hK4;clear F a;intro a F;refine wp_ret ?_;simp only [Exit.then];refine bRet results52 F rfl ?_
  exact ⟨by rw [e4],H⟩
 replace h12:=of_decide_eq_false h12
 have hlt:s.pos < c.ts.length:=by omega
 obtain ⟨t,ht⟩:∃ t,c.ts[s.pos]? = some t:=⟨_,List.getElem?_eq_getElem hlt⟩
 obtain ⟨e1,e2,e3,e4⟩:=px_some ht
 obtain ⟨g,o,rfl,_⟩:=H.held 1 rfl s.pos t.cells (rowsT_get ht)
 refine wp_skip (hK2 _ _ ?_);clear hK2;refine cSeq (fun K5 hK5=>?_);refine cRegRO (by kernel_rfl) H ?_;replace H:=H.drew;refine eTF 0 rfl (by kernel_rfl) F rfl rfl rfl (fun w=>rMv F rfl) H qq0 (qT 1 rfl (by kernel_rfl) rfl rfl rfl rfl (fun a F w H=>rNc F rfl) H qq0 (qTF 2 rfl (by kernel_rfl) rfl rfl rfl (fun a F w=>rFa (f:=0) (k:=0) underlying64 rfl sizeOf62 rfl rfl F rfl) H qq0 (qT 3 rfl (by kernel_rfl) rfl rfl rfl rfl (fun a F w H=>rLd isAgg62 F rfl (H.cell 0 rfl rfl)) H qq0 (qTF 4 rfl (by kernel_rfl) rfl rfl rfl (fun a F w=>rMv F rfl) H qq0 (qT 5 rfl (by kernel_rfl) rfl rfl rfl rfl (fun a F w H=>rNc F rfl) H qq0 (qTF 6 rfl (by kernel_rfl) rfl rfl rfl (fun a F w=>rFa (f:=1) (k:=1) underlying64 rfl sizeOf3 rfl rfl F rfl) H qq0 (qT 7 rfl (by kernel_rfl) rfl rfl rfl rfl (fun a F w H=>rLd isAgg3 F rfl (H.cell 0 rfl rfl)) H qq0 ?_)))))));clear F a;intro a F
 refine eTakeF (k:=8) (i:=8) rfl (by kernel_rfl) F rfl rfl rfl (fun w=>rIx underlying62 sizeOf140 F rfl rfl ?_) H (fun _ _ _ h=>h) ?_
 focus omega
 clear F a;intro a F;refine eTF 9 rfl (by kernel_rfl) F rfl rfl rfl (fun w=>rFa (f:=2) underlying140 rfl sizeOf3 rfl rfl F rfl) H qq0 (qT 10 rfl (by kernel_rfl) rfl rfl rfl rfl (fun a F w H=>rLd isAgg3 F rfl (heldRow H 1 rfl (rowsT_get ht) 2 _ rfl)) H qq0 (qTF 11 rfl (by kernel_rfl) rfl rfl rfl (fun a F w=>rAs F rfl) H qq0 ?_));clear F a;intro a F;refine eNil (k:=12) (by kernel_rfl) ?_;refine hK5 _ _ ?_;clear hK5;refine wp_ret ?_;refine bRet results52 F rfl ?_
 exact ⟨by rw [e4],H⟩
theorem pstep_any {W w0:World} {rs:List Res} {c:PX} (hc:c.Ok) {A:Option Addr} {C bp:Nat} {S:Nat→Prop} {s:PS} {Y:List Value} (hp:s.pos≤1000000) (H:Own W none w0 (.blk bp (curC c A C s Y) 66 :: .held S A 3 (rowsT c.ts) :: rs)) :
   Calls Tryz.prog 102 #[.pointer (some ⟨bp,0,none⟩)] w0 fun e w'=>e = .returned (.tuple #[])∧Own W none w' (.blk bp (curC c A C s.next Y) 66 :: .held S A 3 (rowsT c.ts) :: rs):=by
 refine enterF func102 rfl ntmps102 rfl (fun a F=>?_);refine cReg (sMv F rfl rfl rfl (qNc rfl rfl rfl (qFa (f:=1) (k:=1) underlying64 rfl sizeOf3 rfl rfl rfl rfl rfl (qLd isAgg3 rfl rfl rfl (H.cell 0 rfl rfl) ?_))));clear F a;intro a F
 refine sBin F rfl rfl rfl rfl (bAddN (j:=1) ?_) ?_
 focus omega
 clear F a;intro a F;refine sNc F rfl rfl rfl (qFa (f:=1) (k:=1) underlying64 rfl sizeOf3 rfl rfl rfl rfl rfl ?_);clear F a;intro a F;refine sSt H 0 sizeOf3 F rfl rfl rfl rfl rfl rfl ?_;clear H;intro w H;refine sNil ?_
 first | refine bEnd results102 F ?_ | (simp only [Exit.then,Exit.inBlock,if_true];(repeat (first | rw [if_pos rfl] | rw [if_neg (by decide)]));refine bEnd results102 F ?_)
 exact ⟨rfl,H⟩
theorem pword_any {W w0:World} {rs:List Res} {c:PX} (hc:c.Ok) {A:Option Addr} {C bp:Nat} {S:Nat→Prop} {s:PS} {Y:List Value} (hp:s.pos≤1000000) (H:Own W none w0 (.blk bp (curC c A C s Y) 66 :: .held S A 3 (rowsT c.ts) :: rs)) :
   Calls Tryz.prog 54 #[.pointer (some ⟨bp,0,none⟩)] w0 fun e w'=>e = .returned (.string (c.word s.pos))∧Own W none w' (.blk bp (curC c A C s Y) 66 :: .held S A 3 (rowsT c.ts) :: rs):=by
 refine enterF func54 rfl ntmps54 rfl (fun a F=>?_);refine cSR fun K1 hK1=>sAs F rfl rfl rfl (qNK hK1 ?_);clear hK1;clear F a;intro a F;refine cSeq (fun K2 hK2=>?_);refine cSR fun K3 hK3=>sMv F rfl rfl rfl ?_;clear F a;intro a F;refine sCall call100 F rfl rfl rfl (ptoken_any hc hp H) ?_;rintro e w ⟨rfl,H⟩;refine ⟨_,rfl,?_⟩;clear F a;intro a F;refine sAl H zeroValue140 F rfl rfl ?_;clear F a H;intro b3 a w F H
 refine sSr H 0 ?si F rfl rfl rfl ?s1 rfl rfl ?_
 case si=>exact info_size sizeOf140
 case s1=>first | rfl | (repeat (first | exact one_nil | (apply one_cons;· first | rfl | assumption | exact one_bif rfl rfl)))
 clear H;intro w H;refine nK hK3 (cSR fun K4 hK4=>sFa (f:=0) (k:=0) underlying140 rfl sizeOf138 rfl rfl F rfl rfl rfl (qLd isAgg138 rfl rfl rfl (H.cell 0 rfl rfl) (qBin rfl rfl rfl rfl bEql (qNK hK4 ?_))));clear hK3 hK4;clear F a;intro a F
 refine cIf F rfl (fun h8=>?_) (fun h8=>?_)
 ·
  replace h8:=beqT h8
  have hk:c.kind s.pos=1:=by omega
  refine cSR fun K5 hK5=>sFa (f:=1) (k:=1) underlying140 rfl sizeOf9 rfl rfl F rfl rfl rfl (qLd isAgg9 rfl rfl rfl (H.cell 0 rfl rfl) (qAs rfl rfl rfl (qNK hK5 ?_)));clear hK5;clear F a;intro a F;refine wp_ret ?_;simp only [Exit.then];refine bRet results54 F rfl ?_
  first | exact ⟨by unfold PX.word;rw [if_pos hk],H.tail⟩ | exact ⟨by unfold PX.word;rw [if_neg hk];rfl,H.tail⟩
 replace h8:=beqF h8
 have hk:¬ c.kind s.pos=1:=by omega
 refine wp_skip (hK2 _ _ (cSR fun K6 hK6=>sAs F rfl rfl rfl (qNK hK6 ?_)));clear hK2 hK6;clear F a;intro a F;refine wp_ret ?_;refine bRet results54 F rfl ?_
 first | exact ⟨by unfold PX.word;rw [if_pos hk],H.tail⟩ | exact ⟨by unfold PX.word;rw [if_neg hk];rfl,H.tail⟩
theorem pends_any {W w0:World} {rs:List Res} {c:PX} (hc:c.Ok) {A:Option Addr} {C bp:Nat} {S:Nat→Prop} {s:PS} {Y:List Value} (hp:s.pos≤1000000) (H:Own W none w0 (.blk bp (curC c A C s Y) 66 :: .held S A 3 (rowsT c.ts) :: rs)) :
   Calls Tryz.prog 101 #[.pointer (some ⟨bp,0,none⟩)] w0 fun e w'=>e = .returned (.bool (decide (c.kind s.pos=4)))∧Own W none w' (.blk bp (curC c A C s Y) 66 :: .held S A 3 (rowsT c.ts) :: rs):=by
 refine enterF func101 rfl ntmps101 rfl (fun a F=>?_);refine cSR fun K1 hK1=>sAs F rfl rfl rfl (qNK hK1 (qSR fun K2 hK2=>qMv rfl rfl rfl ?_));clear hK1;clear F a;intro a F;refine sCall call100 F rfl rfl rfl (ptoken_any hc hp H) ?_;rintro e w ⟨rfl,H⟩;refine ⟨_,rfl,?_⟩;clear F a;intro a F;refine sFd (f:=0) underlying140 rfl isAgg138 F rfl rfl rfl rfl (qBin rfl rfl rfl rfl bEql (qAs rfl rfl rfl (qNK hK2 ?_)));clear hK2;clear F a;intro a F;refine wp_ret ?_;refine bRet results101 F rfl ?_
 exact ⟨retB (by rw [Bool.eq_iff_iff,beq_iff_eq,decide_eq_true_eq];omega),H⟩
theorem pis_any (str:List UInt8) {W w0:World} {rs:List Res} {c:PX} (hc:c.Ok) {A:Option Addr} {C bp:Nat} {S:Nat→Prop} {s:PS} {Y:List Value} (hp:s.pos≤1000000) (H:Own W none w0 (.blk bp (curC c A C s Y) 66 :: .held S A 3 (rowsT c.ts) :: rs)) :
   Calls Tryz.prog 145 #[.pointer (some ⟨bp,0,none⟩),.string ⟨str.toArray⟩] w0 fun e w'=>e = .returned (.bool (c.is s.pos str))∧Own W none w' (.blk bp (curC c A C s Y) 66 :: .held S A 3 (rowsT c.ts) :: rs):=by
 refine enterF func145 rfl ntmps145 rfl (fun a F=>?_);refine cSR fun K1 hK1=>sAs F rfl rfl rfl (qNK hK1 (qSR fun K2 hK2=>qMv rfl rfl rfl ?_));clear hK1;clear F a;intro a F;refine sCall call100 F rfl rfl rfl (ptoken_any hc hp H) ?_;rintro e w ⟨rfl,H⟩;refine ⟨_,rfl,?_⟩;clear F a;intro a F;refine sAl H zeroValue140 F rfl rfl ?_;clear F a H;intro b5 a w F H
 refine sSr H 0 ?si F rfl rfl rfl ?s1 rfl rfl ?_
 case si=>exact info_size sizeOf140
 case s1=>first | rfl | (repeat (first | exact one_nil | (apply one_cons;· first | rfl | assumption | exact one_bif rfl rfl)))
 clear H;intro w H;refine nK hK2 (cSR fun K3 hK3=>sFa (f:=0) (k:=0) underlying140 rfl sizeOf138 rfl rfl F rfl rfl rfl (qLd isAgg138 rfl rfl rfl (H.cell 0 rfl rfl) (qBin rfl rfl rfl rfl bEql (qMv rfl rfl rfl ?_))));clear hK2;clear F a;intro a F
 refine F.split 11 rfl ?_ ?_ <;> (clear F;intro h11 F)
 ·
  replace h11:=beqT h11
  have hk:c.kind s.pos=3:=by omega
  refine sFa (f:=1) (k:=1) underlying140 rfl sizeOf9 rfl rfl F rfl rfl rfl (qLd isAgg9 rfl rfl rfl (H.cell 0 rfl rfl) (qMv rfl rfl rfl (qBin rfl rfl rfl rfl bStrEq (qPk rfl rfl rfl rfl (qAs rfl rfl rfl (qNK hK3 ?_))))));clear hK3;clear F a;intro a F;refine wp_ret ?_;refine bRet results145 F rfl ?_
  first | exact ⟨by rw [lit_toList str];unfold PX.is;rw [hk];rfl,H.tail⟩ | exact ⟨by unfold PX.is;rw [beq_eq_false_iff_ne.2 hk];rfl,H.tail⟩
 replace h11:=beqF h11
 have hk:¬ c.kind s.pos=3:=by omega
 refine sSk F rfl rfl (qSk rfl rfl (qSk rfl rfl (qSk rfl rfl (qPk rfl rfl rfl rfl (qAs rfl rfl rfl (qNK hK3 ?_))))));clear hK3;clear F a;intro a F;refine wp_ret ?_;refine bRet results145 F rfl ?_
 first | exact ⟨by rw [lit_toList str];unfold PX.is;rw [hk];rfl,H.tail⟩ | exact ⟨by unfold PX.is;rw [beq_eq_false_iff_ne.2 hk];rfl,H.tail⟩
theorem ptakes_any (str:List UInt8) {W w0:World} {rs:List Res} {c:PX} (hc:c.Ok) {A:Option Addr} {C bp:Nat} {S:Nat→Prop} {s:PS} {Y:List Value} (hp:s.pos≤1000000) (H:Own W none w0 (.blk bp (curC c A C s Y) 66 :: .held S A 3 (rowsT c.ts) :: rs)) :
   Calls Tryz.prog 139 #[.pointer (some ⟨bp,0,none⟩),.string ⟨str.toArray⟩] w0 fun e w'=>e = .returned (.bool (c.kw s.pos str))∧Own W none w' (.blk bp (curC c A C (if c.kw s.pos str=true then s.next else s) Y) 66 :: .held S A 3 (rowsT c.ts) :: rs):=by
 refine enterF func139 rfl ntmps139 rfl (fun a F=>?_);refine cSR fun K1 hK1=>sAs F rfl rfl rfl (qNK hK1 ?_);clear hK1;clear F a;intro a F;refine cSeq (fun K2 hK2=>?_);refine cSR fun K3 hK3=>sMv F rfl rfl rfl ?_;clear F a;intro a F;refine sCall call54 F rfl rfl rfl (pword_any hc hp H) ?_;rintro e w ⟨rfl,H⟩;refine ⟨_,rfl,?_⟩;clear F a;intro a F;refine sMv F rfl rfl rfl (qBin rfl rfl rfl rfl bStrNe (qNK hK3 ?_));clear hK3;clear F a;intro a F
 refine cIf F rfl (fun h8=>?_) (fun h8=>?_)
 ·
  replace h8:=nbeqT h8
  have hk:c.kw s.pos str=false:=by unfold PX.kw;rw [lit_toList str] at h8;exact beq_eq_false_iff_ne.2 h8
  refine cSR fun K4 hK4=>sAs F rfl rfl rfl (qNK hK4 ?_);clear hK4;clear F a;intro a F;refine wp_ret ?_;simp only [Exit.then];refine bRet results139 F rfl ?_
  first | exact ⟨by rw [hk],by rw [hk];exact H⟩
 replace h8:=nbeqF h8
 have hk:c.kw s.pos str=true:=by unfold PX.kw;rw [lit_toList str] at h8;rw [h8];exact beq_self_eq_true _
 refine wp_skip (hK2 _ _ (cSR fun K5 hK5=>sMv F rfl rfl rfl ?_));clear hK2;clear F a;intro a F;refine sCall call102 F rfl rfl rfl (pstep_any hc hp H) ?_;rintro e w ⟨rfl,H⟩;refine ⟨_,rfl,?_⟩;clear F a;intro a F;refine nK hK5 (cSR fun K6 hK6=>sAs F rfl rfl rfl (qNK hK6 ?_));clear hK5 hK6;clear F a;intro a F;refine wp_ret ?_;refine bRet results139 F rfl ?_
 first | exact ⟨by rw [hk],by rw [hk];exact H⟩
theorem fail_any (p e:Nat) {W w0:World} {rs:List Res} (H:Own W none w0 rs):Calls Tryz.prog 59 #[.int .i64 (p:Int),.int .i64 (e:Int)] w0 fun q w'=>q = .panicked (flt p e)∧Own W none w' rs:=by
 refine enterF func59 rfl ntmps59 rfl (fun a F=>?_);refine cReg (sMv F rfl rfl rfl (qMv rfl rfl rfl (qBd (places:=[(0,1),(1,1)]) zeroValue101 underlying101 (by kernel_rfl) rfl rfl rfl rfl (qMi underlying101 rfl rfl rfl ?_))));clear F a;intro a F;refine sPanic F rfl rfl ?_
 exact And.intro F.nod ⟨rfl,H⟩
end Go.Proofs.YtkchaoajegkadaaGreatDoor
