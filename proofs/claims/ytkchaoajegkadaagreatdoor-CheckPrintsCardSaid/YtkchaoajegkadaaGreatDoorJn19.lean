/-
  WALK2. Package print: numbers, registers, arguments, signs, locations, modes. Conditions: the laid table of powers of ten lies in its variable; the writer lies in memory.
-/
import Derived.Test.YtkchaoajegkadaaGreatDoorWrA
import Derived.Test.YtkchaoajegkadaaGreatDoorJn1
import Derived.Test.YtkchaoajegkadaaGreatDoorShelf
import Derived.WalkSmall
set_option linter.unusedSimpArgs false
set_option linter.unusedVariables false
namespace Go.Proofs.YtkchaoajegkadaaGreatDoor
-- WrB
open Go.RowKit
set_option maxRecDepth 100000
def TenAt (w : World) : Prop := Lib.TabIs Tryz.prog w "internal/strconv.uint64pow10" .u64 Lib.pow10Tab
theorem gTen : Tryz.prog.globalNamed "internal/strconv.uint64pow10" = some 1 := by kernel_rfl
theorem TenAt.here {w:World} (h:TenAt w):1 < w.heap.size:=by
 unfold TenAt Lib.TabIs World.var? at h
 rw [gTen] at h
 by_cases hb:1 < w.heap.size
 · exact hb
 · simp [Array.getElem?_eq_none (Nat.le_of_not_lt hb)] at h
theorem TenAt.below {w w':World} (h:TenAt w) (hb:Below w.heap.size w w'):TenAt w':=var?_below hb gTen h.here h
theorem below_grow {B:Nat} {a w:World} (h:Below B a w) (hB:B≤w.heap.size) (os:Array Obj):Below B a (Sort.grow w os):=h.trans
 ⟨rfl,rfl,rfl,by rw [Sort.size_grow];omega,fun b hb=>by
   show (w.heap++os)[b]? = w.heap[b]?
   rw [Array.getElem?_append_left (by omega)]⟩
theorem itoa_all:((List.range 256).all fun i=>Lib.itoa (UInt8.ofNat i).toNat == numT (UInt8.ofNat i))=true:=by decide +kernel
theorem itoa_u8 (n:UInt8):Lib.itoa (n.toNat:Int)=numT n:=by
 have:=List.all_eq_true.1 itoa_all n.toNat (by rw [List.mem_range];exact n.toNat_lt)
 simpa using this
theorem numT_len (n:UInt8):(numT n).length≤3:=by unfold numT;split <;> (try split) <;> simp
theorem bStrAdd {P:Go.Program} {t:TypeId} {x y:Operand} {a b:ByteArray} (h:a.size+b.size≤9223372036854775807):BinR P .add t x y (.string a) (.string b) (.string (a++b)):=fun w=>by
 have h0:(eqGuard .add t x y (.string a) (.string b)).run P w = .ok () w:=by simp [eqGuard,go_sem]
 simp only [Sem.run_bind,h0,Result.andThen_ok,binOp_string_add]
 exact run_string_add_sum w a b h
theorem itoa_any (n:UInt8) (w0:World) (hT:TenAt w0):Calls Tryz.prog 94 #[.int .i64 (n.toNat:Int)] w0 fun e w'=>e = .returned (.string (mk (numT n)))∧Below w0.heap.size w0 w':=by
 have hn:=n.toNat_lt
 refine (Tryz.strconv_Itoa (n.toNat:Int) (by omega) (by omega) w0 hT).mono fun e w' h=>?_
 obtain ⟨rfl,k,os,rfl⟩:=h
 exact ⟨by rw [itoa_u8];rfl,below_grow (below_drewN (Below.refl _ _) k) (Nat.le_refl _) os⟩
theorem wnum_any (n:UInt8) (w0:World) (hT:TenAt w0):Calls Tryz.prog 46 #[b8 n] w0 fun e w'=>e = .returned (.string (mk (numT n)))∧Below w0.heap.size w0 w':=by
 have H:=Own.start w0 none
 refine enterF Tryz.func46 rfl Tryz.ntmps46 rfl (fun a F=>?_);refine cSR fun K1 hK1=>sAs F rfl rfl rfl (qNK hK1 (qSR fun K2 hK2=>qMv rfl rfl rfl (qCv Tryz.underlying5 Tryz.underlying3 rfl rfl rfl (wrapB _) ?_)));clear hK1;clear F a;intro a F;refine sCall Tryz.call94 F rfl rfl rfl (itoa_any n _ (hT.below H.below)) ?_;rintro e w ⟨rfl,hb⟩;replace H:=H.grow hb;clear hb;refine ⟨_,rfl,?_⟩;clear F a;intro a F;refine sAs F rfl rfl rfl (qNK hK2 ?_);clear hK2;clear F a;intro a F;refine wp_ret ?_;refine bRet Tryz.results46 F rfl ?_
 exact ⟨rfl,H.below⟩
theorem wreg_any (n:UInt8) (w0:World) (hT:TenAt w0):Calls Tryz.prog 65 #[b8 n] w0 fun e w'=>e = .returned (.string (mk (regT n)))∧Below w0.heap.size w0 w':=by
 have H:=Own.start w0 none
 refine enterF Tryz.func65 rfl Tryz.ntmps65 rfl (fun a F=>?_);refine cSR fun K1 hK1=>sAs F rfl rfl rfl (qNK hK1 (qSR fun K2 hK2=>qMv rfl rfl rfl ?_));clear hK1;clear F a;intro a F;refine sCall Tryz.call46 F rfl rfl rfl (wnum_any n _ (hT.below H.below)) ?_;rintro e w ⟨rfl,hb⟩;replace H:=H.grow hb;clear hb;refine ⟨_,rfl,?_⟩;clear F a;intro a F;refine sBin F rfl rfl rfl rfl (bStrAdd (by have:=numT_len n;have e1:(⟨#[114]⟩:ByteArray).size=1:=rfl;have e2:(mk (numT n)).size=(numT n).length:=rfl;omega)) (qAs rfl rfl rfl (qNK hK2 ?_));clear hK2;clear F a;intro a F;refine wp_ret ?_;refine bRet Tryz.results65 F rfl ?_
 exact ⟨by congr 1,H.below⟩
theorem warg_any (r:Bool) (n:UInt8) (w0:World) (hT:TenAt w0):Calls Tryz.prog 107 #[.agg #[.bool r,b8 n]] w0 fun e w'=>e = .returned (.string (mk (argT r n)))∧Below w0.heap.size w0 w':=by
 have H:=Own.start w0 none
 refine enterF Tryz.func107 rfl Tryz.ntmps107 rfl (fun a F=>?_);refine cSR fun K1 hK1=>?_;refine sBx H F rfl rfl rfl ?_;clear F a H;intro b1 a w F H;refine sAs F rfl rfl rfl (qNK hK1 ?_);clear hK1;clear F a;intro a F;refine cSeq (fun K2 hK2=>?_);refine cSR fun K3 hK3=>sFa (f:=0) (k:=0) Tryz.underlying42 rfl Tryz.sizeOf4 rfl rfl F rfl rfl rfl (qLd Tryz.isAgg4 rfl rfl rfl (H.cell 0 rfl rfl) (qNK hK3 ?_));clear hK3;clear F a;intro a F
 refine cIf F rfl (fun h4=>?_) (fun h4=>?_)
 ·
  refine cSR fun K4 hK4=>sFa (f:=1) (k:=1) Tryz.underlying42 rfl Tryz.sizeOf5 rfl rfl F rfl rfl rfl (qLd Tryz.isAgg5 rfl rfl rfl (H.cell 0 rfl rfl) ?_);clear F a;intro a F;refine sCall Tryz.call65 F rfl rfl rfl (wreg_any n _ (hT.below H.below)) ?_;rintro e w ⟨rfl,hb⟩;replace H:=H.grow hb;clear hb;refine ⟨_,rfl,?_⟩;clear F a;intro a F;refine sAs F rfl rfl rfl (qNK hK4 ?_);clear hK4;clear F a;intro a F;refine wp_ret ?_;simp only [Exit.then];refine bRet Tryz.results107 F rfl ?_
  exact ⟨by simp_all [argT],H.below⟩
 refine wp_skip (hK2 _ _ (cSR fun K5 hK5=>sFa (f:=1) (k:=1) Tryz.underlying42 rfl Tryz.sizeOf5 rfl rfl F rfl rfl rfl (qLd Tryz.isAgg5 rfl rfl rfl (H.cell 0 rfl rfl) ?_)));clear hK2;clear F a;intro a F;refine sCall Tryz.call46 F rfl rfl rfl (wnum_any n _ (hT.below H.below)) ?_;rintro e w ⟨rfl,hb⟩;replace H:=H.grow hb;clear hb;refine ⟨_,rfl,?_⟩;clear F a;intro a F;refine sAs F rfl rfl rfl (qNK hK5 ?_);clear hK5;clear F a;intro a F;refine wp_ret ?_;refine bRet Tryz.results107 F rfl ?_
 exact ⟨by simp_all [argT],H.below⟩
theorem fnT_eq (fn first last:UInt8):fnT fn first last=if fn < first∨last < fn then [63] else if fn=1 then [43] else if fn=2 then [45] else if fn=3 then [94] else if fn=4 then [61,61] else if fn=5 then [33,61] else [60]:=by
 unfold fnT;simp only [UInt8.lt_iff_toNat_lt]
theorem wsign_any (fn first last:UInt8) (w0:World):Calls Tryz.prog 109 #[b8 fn,b8 first,b8 last] w0 fun e w'=>e = .returned (.string (mk (fnT fn first last)))∧Below w0.heap.size w0 w':=by
 have H:=Own.start w0 none
 refine enterF Tryz.func109 rfl Tryz.ntmps109 rfl (fun a F=>?_);refine cSR fun K1 hK1=>sAs F rfl rfl rfl (qNK hK1 ?_);clear hK1;clear F a;intro a F;refine cSeq (fun K2 hK2=>?_);refine cSR fun K3 hK3=>sMv F rfl rfl rfl (qMv rfl rfl rfl (qBin rfl rfl rfl rfl bLssB (qMv rfl rfl rfl ?_)));clear F a;intro a F
 refine F.split 10 rfl ?_ ?_ <;> (clear F;intro h10 F)
 ·
  replace h10:=of_decide_eq_true h10;refine sSk F rfl rfl (qSk rfl rfl (qSk rfl rfl (qPk rfl rfl rfl rfl (qNK hK3 ?_))));clear hK3;clear F a;intro a F;refine cIfT F rfl ?_;refine cSR fun K4 hK4=>sAs F rfl rfl rfl (qNK hK4 ?_);clear hK4;clear F a;intro a F;refine wp_ret ?_;simp only [Exit.then];refine bRet Tryz.results109 F rfl ?_
  exact ⟨by rw [fnT_eq];simp_all [-UInt8.not_lt,mk],H.below⟩
 replace h10:=of_decide_eq_false h10;refine sMv F rfl rfl rfl (qMv rfl rfl rfl (qBin rfl rfl rfl rfl bGtrB (qPk rfl rfl rfl rfl (qNK hK3 ?_))));clear hK3;clear F a;intro a F
 refine cIf F rfl (fun h14=>?_) (fun h14=>?_)
 ·
  replace h14:=of_decide_eq_true h14;refine cSR fun K5 hK5=>sAs F rfl rfl rfl (qNK hK5 ?_);clear hK5;clear F a;intro a F;refine wp_ret ?_;simp only [Exit.then];refine bRet Tryz.results109 F rfl ?_
  exact ⟨by rw [fnT_eq];simp_all [-UInt8.not_lt,mk],H.below⟩
 replace h14:=of_decide_eq_false h14;refine wp_skip (hK2 _ _ ?_);clear hK2;refine cSeq (fun K6 hK6=>?_);refine cSR fun K7 hK7=>sMv F rfl rfl rfl (qNK hK7 ?_);clear hK7;clear F a;intro a F;refine wp_block ?_;refine cSR fun K8 hK8=>sBin F rfl rfl rfl rfl (bEqlB (y:=1)) (qAs rfl rfl rfl (qNK hK8 ?_));clear hK8;clear F a;intro a F
 refine cIf F rfl (fun h16=>?_) (fun h16=>?_)
 ·
  replace h16:=beqT h16;refine cSR fun K9 hK9=>sAs F rfl rfl rfl (qNK hK9 ?_);clear hK9;clear F a;intro a F;refine wp_ret ?_;simp only [Exit.inBlock,Exit.then];refine bRet Tryz.results109 F rfl ?_
  exact ⟨by rw [fnT_eq];simp_all [-UInt8.not_lt,mk],H.below⟩
 replace h16:=beqF h16;refine cSR fun K10 hK10=>sBin F rfl rfl rfl rfl (bEqlB (y:=2)) (qAs rfl rfl rfl (qNK hK10 ?_));clear hK10;clear F a;intro a F
 refine cIf F rfl (fun h18=>?_) (fun h18=>?_)
 ·
  replace h18:=beqT h18;refine cSR fun K11 hK11=>sAs F rfl rfl rfl (qNK hK11 ?_);clear hK11;clear F a;intro a F;refine wp_ret ?_;simp only [Exit.inBlock,Exit.then];refine bRet Tryz.results109 F rfl ?_
  exact ⟨by rw [fnT_eq];simp_all [-UInt8.not_lt,mk],H.below⟩
 replace h18:=beqF h18;refine cSR fun K12 hK12=>sBin F rfl rfl rfl rfl (bEqlB (y:=3)) (qAs rfl rfl rfl (qNK hK12 ?_));clear hK12;clear F a;intro a F
 refine cIf F rfl (fun h20=>?_) (fun h20=>?_)
 ·
  replace h20:=beqT h20;refine cSR fun K13 hK13=>sAs F rfl rfl rfl (qNK hK13 ?_);clear hK13;clear F a;intro a F;refine wp_ret ?_;simp only [Exit.inBlock,Exit.then];refine bRet Tryz.results109 F rfl ?_
  exact ⟨by rw [fnT_eq];simp_all [-UInt8.not_lt,mk],H.below⟩
 replace h20:=beqF h20;refine cSR fun K14 hK14=>sBin F rfl rfl rfl rfl (bEqlB (y:=4)) (qAs rfl rfl rfl (qNK hK14 ?_));clear hK14;clear F a;intro a F
 refine cIf F rfl (fun h22=>?_) (fun h22=>?_)
 ·
  replace h22:=beqT h22;refine cSR fun K15 hK15=>sAs F rfl rfl rfl (qNK hK15 ?_);clear hK15;clear F a;intro a F;refine wp_ret ?_;simp only [Exit.inBlock,Exit.then];refine bRet Tryz.results109 F rfl ?_
  exact ⟨by rw [fnT_eq];simp_all [-UInt8.not_lt,mk],H.below⟩
 replace h22:=beqF h22;refine cSR fun K16 hK16=>sBin F rfl rfl rfl rfl (bEqlB (y:=5)) (qAs rfl rfl rfl (qNK hK16 ?_));clear hK16;clear F a;intro a F
 refine cIf F rfl (fun h24=>?_) (fun h24=>?_)
 ·
  replace h24:=beqT h24;refine cSR fun K17 hK17=>sAs F rfl rfl rfl (qNK hK17 ?_);clear hK17;clear F a;intro a F;refine wp_ret ?_;simp only [Exit.inBlock,Exit.then];refine bRet Tryz.results109 F rfl ?_
  exact ⟨by rw [fnT_eq];simp_all [-UInt8.not_lt,mk],H.below⟩
 replace h24:=beqF h24;refine wp_skip (hK6 _ _ (cSR fun K18 hK18=>sAs F rfl rfl rfl (qNK hK18 ?_)));clear hK6 hK18;clear F a;intro a F;refine wp_ret ?_;refine bRet Tryz.results109 F rfl ?_
 exact ⟨by rw [fnT_eq];simp_all [-UInt8.not_lt,mk],H.below⟩
-- WrC
open Go.RowKit
set_option maxRecDepth 100000
theorem wmode_any (m plain special:UInt8) (word:ByteArray) (hw:word.size≤140737488355328) {W w0:World} {rs:List Res} {bp:Nat} {lv:Value} {v:WS} (hW:WrAt W w0 rs bp lv v) :
   Calls Tryz.prog 105 #[.pointer (some ⟨bp,0,none⟩),b8 m,b8 plain,b8 special,.string word] w0 fun e w'=>e = .returned (.tuple #[])∧WrAt W w' rs bp lv (wordsW v (modeT m plain special word.data.toList)):=by
 obtain ⟨A,C,tx,wi,lg,H,ht,hv⟩:=hW
 refine enterF Tryz.func105 rfl Tryz.ntmps105 rfl (fun a F=>?_);refine cSR fun K1 hK1=>sMv F rfl rfl rfl (qNK hK1 ?_);clear hK1;clear F a;intro a F;refine wp_block ?_;refine cSR fun K2 hK2=>sMv F rfl rfl rfl (qBin rfl rfl rfl rfl bEqlB (qAs rfl rfl rfl (qNK hK2 ?_)));clear hK2;clear F a;intro a F
 refine cIf F rfl (fun h14=>?_) (fun h14=>?_)
 ·
  replace h14:=beqT h14
  have hm:m=plain:=h14
  refine wp_skip ?_
  first | refine bEnd Tryz.results105 F ?_ | (simp only [Exit.then,Exit.inBlock,if_true];(repeat (first | rw [if_pos rfl] | rw [if_neg (by decide)]));refine bEnd Tryz.results105 F ?_)
  first
  | (have e:modeT m plain special word.data.toList=wd [word]:=by unfold modeT;rw [if_neg hm,if_pos hs];rfl
     rw [e]
     exact ⟨rfl,A1,C1,tx1,wi1,lg1,H,ht1,hv1⟩)
  | (have e:modeT m plain special word.data.toList=wd [⟨#[63]⟩]:=by unfold modeT;rw [if_neg hm,if_neg hs];rfl
     rw [e]
     exact ⟨rfl,A1,C1,tx1,wi1,lg1,H,ht1,hv1⟩)
  | (have e:modeT m plain special word.data.toList=[]:=by unfold modeT;rw [if_pos hm]
     rw [e]
     exact ⟨rfl,A,C,tx,wi,lg,H,ht,hv⟩)
 replace h14:=beqF h14
 have hm:¬ m=plain:=h14
 refine cSR fun K3 hK3=>sMv F rfl rfl rfl (qBin rfl rfl rfl rfl bEqlB (qAs rfl rfl rfl (qNK hK3 ?_)));clear hK3;clear F a;intro a F
 refine cIf F rfl (fun h17=>?_) (fun h17=>?_)
 ·
  replace h17:=beqT h17
  have hs:m=special:=h17
  refine cReg (sMv F rfl rfl rfl (qMv rfl rfl rfl ?_));clear F a;intro a F;refine sBs1 H Tryz.underlying22 Tryz.sizeOf9 Tryz.zeroValue9 rfl F rfl rfl rfl rfl ?_;clear F a H;intro b22 a w F H;refine sCall Tryz.call44 F rfl rfl rfl (wwords1 (v:=v) [word] (by simp) (by simpa using hw) H ht hv) ?_;rintro e w ⟨rfl,hW⟩
  obtain ⟨A1,C1,tx1,wi1,lg1,H,ht1,hv1⟩:=hW
  refine ⟨_,rfl,?_⟩;clear F a;intro a F;refine sNil ?_
  first | refine bEnd Tryz.results105 F ?_ | (simp only [Exit.then,Exit.inBlock,if_true];(repeat (first | rw [if_pos rfl] | rw [if_neg (by decide)]));refine bEnd Tryz.results105 F ?_)
  first
  | (have e:modeT m plain special word.data.toList=wd [word]:=by unfold modeT;rw [if_neg hm,if_pos hs];rfl
     rw [e]
     exact ⟨rfl,A1,C1,tx1,wi1,lg1,H,ht1,hv1⟩)
  | (have e:modeT m plain special word.data.toList=wd [⟨#[63]⟩]:=by unfold modeT;rw [if_neg hm,if_neg hs];rfl
     rw [e]
     exact ⟨rfl,A1,C1,tx1,wi1,lg1,H,ht1,hv1⟩)
  | (have e:modeT m plain special word.data.toList=[]:=by unfold modeT;rw [if_pos hm]
     rw [e]
     exact ⟨rfl,A,C,tx,wi,lg,H,ht,hv⟩)
 replace h17:=beqF h17
 have hs:¬ m=special:=h17
 refine cReg (sMv F rfl rfl rfl ?_);clear F a;intro a F;refine sBs1 H Tryz.underlying22 Tryz.sizeOf9 Tryz.zeroValue9 rfl F rfl rfl rfl rfl ?_;clear F a H;intro b12 a w F H;refine sCall Tryz.call44 F rfl rfl rfl (wwords1 (v:=v) [⟨#[63]⟩] (by simp) (by decide) H ht hv) ?_;rintro e w ⟨rfl,hW⟩
 obtain ⟨A1,C1,tx1,wi1,lg1,H,ht1,hv1⟩:=hW
 refine ⟨_,rfl,?_⟩;clear F a;intro a F;refine sNil ?_
 first | refine bEnd Tryz.results105 F ?_ | (simp only [Exit.then,Exit.inBlock,if_true];(repeat (first | rw [if_pos rfl] | rw [if_neg (by decide)]));refine bEnd Tryz.results105 F ?_)
 first
 | (have e:modeT m plain special word.data.toList=wd [word]:=by unfold modeT;rw [if_neg hm,if_pos hs];rfl
    rw [e]
    exact ⟨rfl,A1,C1,tx1,wi1,lg1,H,ht1,hv1⟩)
 | (have e:modeT m plain special word.data.toList=wd [⟨#[63]⟩]:=by unfold modeT;rw [if_neg hm,if_neg hs];rfl
    rw [e]
    exact ⟨rfl,A1,C1,tx1,wi1,lg1,H,ht1,hv1⟩)
 | (have e:modeT m plain special word.data.toList=[]:=by unfold modeT;rw [if_pos hm]
    rw [e]
    exact ⟨rfl,A,C,tx,wi,lg,H,ht,hv⟩)
def Rd (W:World) (R:Res) (A:Option Addr) (sz:Nat) (rows:List (List Value)):Prop:=∀ (w:World) (rs:List Res) (i:Nat),Own W none w rs→rs[i]? = some R→RowsAt w A sz rows
theorem Rd.held (W:World) (S:Nat→Prop) (A:Option Addr) (sz:Nat) (rows:List (List Value)):Rd W (.held S A sz rows) A sz rows:=fun _ _ i H hi=>H.held i hi
theorem Rd.base {W:World} (R:Res) {A:Option Addr} {sz:Nat} {rows:List (List Value)} (h:RowsAt W A sz rows):Rd W R A sz rows:=fun _ _ _ H _ j cs hj=>by
 obtain ⟨b,off,h1,h2⟩:=h j cs hj
 exact ⟨b,off,h1,H.argR h2⟩
def Res.nix:Res:=⟨fun _=>False,fun _=>True,fun _ _ _ _=>trivial⟩
theorem Own.nix {W w:World} {rs:List Res} (H:Own W Option.none w rs):Own W Option.none w (.nix :: rs):=H.void .nix trivial (fun _ h=>h)
-- WrD
open Go.RowKit
set_option maxRecDepth 100000
theorem wlocB_any (locs:List ByteArray) (n:UInt8) {LA:Option Addr} {LC:Nat} {bp:Nat} {a b c:Value} (hl:locs.length≤9223372036854775807) {w0:World} (hB:w0.rangeAt bp 0 [a,b,c,.slice LA locs.length LC])
   (hL:∀ (j:Nat) (s:ByteArray),locs[j]? = some s→∃ g o,LA=some ⟨g,o,none⟩∧w0.rangeAt g (o+j * 1) [.string s]) :
   Calls Tryz.prog 66 #[.pointer (some ⟨bp,0,none⟩),b8 n] w0 fun e w'=>e = .returned (.string (mk (locT locs n)))∧Below w0.heap.size w0 w':=by
 have H:=Own.start w0 none
 refine enterF Tryz.func66 rfl Tryz.ntmps66 rfl (fun a F=>?_);refine cSR fun K1 hK1=>sAs F rfl rfl rfl (qNK hK1 ?_);clear hK1;clear F a;intro a F;refine cSeq (fun K2 hK2=>?_);refine cSR fun K3 hK3=>sMv F rfl rfl rfl (qCv Tryz.underlying5 Tryz.underlying3 rfl rfl rfl (wrapB _) (qMv rfl rfl rfl (qNc rfl rfl rfl (qFa (f:=1) (k:=3) Tryz.underlying58 rfl Tryz.sizeOf22 rfl rfl rfl rfl rfl (qLd Tryz.isAgg22 rfl rfl rfl (H.arg (hB 3 _ rfl)) (qLen Tryz.underlying22 rfl rfl rfl (qBin rfl rfl rfl rfl bLss (qNK hK3 ?_))))))));clear hK3;clear F a;intro a F
 refine cIf F rfl (fun h12=>?_) (fun h12=>?_)
 ·
  replace h12:=of_decide_eq_true h12
  have hn:n.toNat < locs.length:=by omega
  obtain ⟨x,hx⟩:∃ x,locs[n.toNat]? = some x:=⟨_,List.getElem?_eq_getElem hn⟩
  obtain ⟨sb,so,rfl,hr⟩:=hL n.toNat x hx
  refine cSR fun K4 hK4=>sMv F rfl rfl rfl (qNc rfl rfl rfl (qFa (f:=1) (k:=3) Tryz.underlying58 rfl Tryz.sizeOf22 rfl rfl rfl rfl rfl (qLd Tryz.isAgg22 rfl rfl rfl (H.arg (hB 3 _ rfl)) (qMv rfl rfl rfl ?_))));clear F a;intro a F
  refine sIx Tryz.underlying22 Tryz.sizeOf9 F rfl rfl rfl rfl ?_ ?_
  focus (first | omega | decide | (simp;omega))
  clear F a;intro a F;refine sLd Tryz.isAgg9 F rfl rfl rfl (H.arg (hr 0 _ rfl)) (qAs rfl rfl rfl (qNK hK4 ?_));clear hK4;clear F a;intro a F;refine wp_ret ?_;simp only [Exit.then];refine bRet Tryz.results66 F rfl ?_
  first
  | exact ⟨by unfold locT;rw [hx];show Ending.returned (.string x) = .returned (.string (mk x.toList));rw [toList_data,mk_data],H.below⟩
  | exact ⟨by unfold locT;rw [List.getElem?_eq_none (by omega)];rfl,H.below⟩
 replace h12:=of_decide_eq_false h12
 have hn:¬ n.toNat < locs.length:=by omega
 refine wp_skip (hK2 _ _ (cSR fun K5 hK5=>sAs F rfl rfl rfl (qNK hK5 ?_)));clear hK2 hK5;clear F a;intro a F;refine wp_ret ?_;refine bRet Tryz.results66 F rfl ?_
 first
 | exact ⟨by unfold locT;rw [hx];show Ending.returned (.string x) = .returned (.string (mk x.toList));rw [toList_data,mk_data],H.below⟩
 | exact ⟨by unfold locT;rw [List.getElem?_eq_none (by omega)];rfl,H.below⟩
theorem locsR {W w:World} {rs:List Res} {R:Res} {LA:Option Addr} {locs:List ByteArray} (hR:Rd W R LA 1 (strC locs)) (H:Own W none w rs) (i:Nat) (hi:rs[i]? = some R) (j:Nat) (s:ByteArray) (hj:locs[j]? = some s):∃ g o,LA=some ⟨g,o,none⟩∧w.rangeAt g (o+j * 1) [.string s]:=
 hR _ _ i H hi j [.string s] (by unfold strC;rw [List.getElem?_map,hj];rfl)
theorem regT_len (n:UInt8):(regT n).length≤4:=by have:=numT_len n;simp only [regT,List.length_cons];omega
theorem argT_len (r:Bool) (n:UInt8):(argT r n).length≤4:=by have:=numT_len n;have:=regT_len n;unfold argT;split <;> omega
theorem fnT_len (a b c : UInt8) : (fnT a b c).length ≤ 2 := by unfold fnT; repeat' split
                                                               all_goals decide
theorem locT_len {locs:List ByteArray} (hs:∀ s ∈ locs,s.size≤140737488351232) (n:UInt8):(locT locs n).length≤140737488351232:=by
 unfold locT
 split
 next s h=>have:=hs s (List.mem_of_getElem? h);rw [toList_data];exact (Array.length_toList (xs:=s.data)).symm ▸ this
 next=>decide
section
variable {W w0:World} {rs:List Res} {bp V:Nat} {LA:Option Addr} {LC:Nat} {R:Res} {locs:List ByteArray} {v:WS}
abbrev WrF (W w:World) (rs:List Res) (V bp:Nat) (R:Res) (LA:Option Addr) (LC:Nat) (locs:List ByteArray) (v:WS):Prop:=
 WrAt W w (.blk V [.pointer (some ⟨bp,0,none⟩)] 94 :: R :: rs) bp (.slice LA locs.length LC) v
theorem fmt1_any (x:Ins) (hW:WrF W w0 rs V bp R LA LC locs v) :
   Calls Tryz.prog 103 #[.agg x.cells.toArray,.pointer (some ⟨V,0,none⟩)] w0 fun e w'=>e = .returned (.tuple #[])∧WrF W w' rs V bp R LA LC locs (wordsW v [[63]]):=by
 obtain ⟨A,C,tx,wi,lg,H,ht,hv⟩:=hW
 refine enterF Tryz.func103 rfl Tryz.ntmps103 rfl (fun a F=>?_);refine cSR fun K1 hK1=>?_;refine sBx H F rfl rfl rfl ?_;clear F a H;intro b2 a w F H;refine nK hK1 (cReg (sLd Tryz.isAgg94 F rfl rfl rfl (H.cell 3 rfl rfl) ?_));clear hK1;clear F a;intro a F;refine sBs1 H Tryz.underlying22 Tryz.sizeOf9 Tryz.zeroValue9 rfl F rfl rfl rfl rfl ?_;clear F a H;intro b4 a w F H;refine sCall Tryz.call44 F rfl rfl rfl (wwords1 (v:=v) [⟨#[63]⟩] (by simp) (by decide) (H.selT 6 [0,2,3,4,5] rfl rfl) ht hv) ?_;rintro e w ⟨rfl,hW⟩
 obtain ⟨A1,C1,tx1,wi1,lg1,H,ht1,hv1⟩:=hW
 refine ⟨_,rfl,?_⟩;clear F a;intro a F;refine sNil ?_
 first | refine bEnd Tryz.results103 F ?_ | (simp only [Exit.then,Exit.inBlock,if_true];(repeat (first | rw [if_pos rfl] | rw [if_neg (by decide)]));refine bEnd Tryz.results103 F ?_)
 exact ⟨rfl,A1,C1,tx1,wi1,lg1,H,ht1,hv1⟩
theorem fmt2_any (x:Ins) (hl:locs.length≤9223372036854775807) (hs:∀ s ∈ locs,s.size≤140737488351232) (hR:Rd W R LA 1 (strC locs)) (hT:TenAt W) (hW:WrF W w0 rs V bp R LA LC locs v) :
   Calls Tryz.prog 104 #[.agg x.cells.toArray,.pointer (some ⟨V,0,none⟩)] w0 fun e w'=>e = .returned (.tuple #[])∧WrF W w' rs V bp R LA LC locs (wordsW v ([regT x.dst,[61],locT locs x.loc]++modeT x.mode 0 1 [97,99,113])):=by
 obtain ⟨A,C,tx,wi,lg,H,ht,hv⟩:=hW
 have hll:=locT_len hs x.loc
 have hrl:=regT_len x.dst
 refine enterF Tryz.func104 rfl Tryz.ntmps104 rfl (fun a F=>?_);refine cSR fun K1 hK1=>?_;refine sBx H F rfl rfl rfl ?_;clear F a H;intro b2 a w F H;refine nK hK1 ?_;clear hK1;refine cSeq (fun K2 hK2=>?_);refine cRegRO (by kernel_rfl) H ?_;replace H:=H.drew;refine eT 0 rfl (by kernel_rfl) F rfl rfl rfl rfl (fun w H=>rLd Tryz.isAgg94 F rfl (H.cell 3 rfl rfl)) H qq0 (qTF 1 rfl (by kernel_rfl) rfl rfl rfl (fun a F w=>rFa (f:=1) (k:=1) Tryz.underlying44 rfl Tryz.sizeOf5 rfl rfl F rfl) H qq0 (qT 2 rfl (by kernel_rfl) rfl rfl rfl rfl (fun a F w H=>rLd Tryz.isAgg5 F rfl (H.cell 0 rfl rfl)) H qq0 (qT 4 rfl (by kernel_rfl) rfl rfl rfl rfl (fun a F w H=>rLd Tryz.isAgg94 F rfl (H.cell 3 rfl rfl)) H qq0 (qTF 5 rfl (by kernel_rfl) rfl rfl rfl (fun a F w=>rFa (f:=2) (k:=2) Tryz.underlying44 rfl Tryz.sizeOf5 rfl rfl F rfl) H qq0 (qT 6 rfl (by kernel_rfl) rfl rfl rfl rfl (fun a F w H=>rLd Tryz.isAgg5 F rfl (H.cell 0 rfl rfl)) H qq0 ?_)))));clear F a;intro a F;refine eOne (k:=6) (i:=3) rfl (by kernel_rfl) F rfl (oCall Tryz.call65 F rfl rfl (wreg_any x.dst _ (hT.below H.below)) ?_);rintro e w ⟨rfl,hb⟩;replace H:=H.grow hb;clear hb;refine ⟨_,rfl,?_⟩;clear F a;intro a F;refine eKeep H ?_;refine eOne (k:=7) (i:=7) rfl (by kernel_rfl) F rfl (oCall Tryz.call66 F rfl rfl (wlocB_any locs x.loc hl (H.whole 1 rfl) (locsR hR H 4 rfl)) ?_);rintro e w ⟨rfl,hb⟩;replace H:=H.grow hb;clear hb;refine ⟨_,rfl,?_⟩;clear F a;intro a F;refine eKeep H ?_;refine eOne (k:=8) (i:=8) rfl (by kernel_rfl) F rfl (oBs H Tryz.underlying22 Tryz.sizeOf9 Tryz.zeroValue9 rfl F rfl rfl rfl rfl ?_)
 clear F a H;intro b11 a w F H;refine eKeep H.tail ?_;refine eOne (k:=9) (i:=9) rfl (by kernel_rfl) F rfl (oCall Tryz.call44 F rfl rfl (wwords1 (v:=v) [mk (regT x.dst),⟨#[61]⟩,mk (locT locs x.loc)] (by simp) (by simp only [List.mem_cons,List.not_mem_nil,or_false,forall_eq_or_imp,forall_eq,mk_size];exact ⟨by omega,by decide,by omega⟩) (H.selT 6 [0,2,3,4,5,1] rfl rfl) ht hv) ?_);rintro e w ⟨rfl,hW⟩
 obtain ⟨A1,C1,tx1,wi1,lg1,H,ht1,hv1⟩:=hW
 refine ⟨_,rfl,?_⟩;clear F a;intro a F;refine ePartO (by kernel_rfl) H ?_;refine eNil (k:=10) (by kernel_rfl) ?_;refine hK2 _ _ (cReg (sLd Tryz.isAgg94 F rfl rfl rfl (H.cell 2 rfl rfl) (qFa (f:=6) (k:=8) Tryz.underlying44 rfl Tryz.sizeOf5 rfl rfl rfl rfl rfl (qLd Tryz.isAgg5 rfl rfl rfl (H.cell 4 rfl rfl) ?_))));clear hK2;clear F a;intro a F;refine sCall Tryz.call105 F rfl rfl rfl (wmode_any x.mode 0 1 ⟨#[97,99,113]⟩ (by decide) ⟨A1,C1,tx1,wi1,lg1,H,ht1,hv1⟩) ?_;rintro e w ⟨rfl,hW⟩
 obtain ⟨A2,C2,tx2,wi2,lg2,H,ht2,hv2⟩:=hW
 refine ⟨_,rfl,?_⟩;clear F a;intro a F;refine sNil ?_
 first | refine bEnd Tryz.results104 F ?_ | (simp only [Exit.then,Exit.inBlock,if_true];(repeat (first | rw [if_pos rfl] | rw [if_neg (by decide)]));refine bEnd Tryz.results104 F ?_)
 exact ⟨rfl,A2,C2,tx2,wi2,lg2,H.selT 5 [0,1,2,3] rfl rfl,ht2,hv2⟩
end
end Go.Proofs.YtkchaoajegkadaaGreatDoor
