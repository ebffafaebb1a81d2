/-
  WALK2. slices.Sort at bytes: bits.Len, nextPowerOfTwo, xorshift.Next, breakPatterns. Conditions: sizes; the slice is the caller's own.
-/
import Derived.Test.YtagnefpgidbhnaaGreatDoorJn3
set_option linter.unusedSimpArgs false
set_option linter.unusedVariables false
namespace Go.Proofs.YtagnefpgidbhnaaGreatDoor
-- SoI
open Go.Proofs.Tryz
open Go.RowKit
set_option maxRecDepth 100000
theorem Own.swp2 {w0 w:World} {row:Option Nat} {rs:List Res} {r:Res} {g n c i j:Nat} {d:By} (H:Own w0 row w (r :: .byt g n c (put (put d i (d j)) j (d i)) :: rs)):Own w0 row w (r :: .byt g n c (swp d i j) :: rs):=by
 rw [Dj] at H;exact H
def TabP (j:Nat) (t:UInt8):Prop:=(0 < j→2 ^ t.toNat≤2 * j)∧t.toNat≤8
def XaU (s:ByteArray):Bool:=s.size == 256 && (List.range 256).all fun j=>(j == 0 || Nat.ble (2 ^ (s.data.toList.getD j 0).toNat) (2 * j)) && Nat.ble (s.data.toList.getD j 0).toNat 8
theorem Xbn {s:ByteArray} (h:XaU s=true) {j:Nat} (hj:j < 256):∃ h:j < s.size,TabP j (s[j]'h):=by
 unfold XaU at h
 rw [Bool.and_eq_true,beq_iff_eq] at h
 have h1:=List.all_eq_true.1 h.2 j (List.mem_range.2 hj)
 have hs:j < s.size:=by omega
 refine ⟨hs,?_⟩
 have e:s.data.toList.getD j 0=s[j]'hs:=by
   rw [List.getD_eq_getElem?_getD,List.getElem?_eq_getElem (by simpa using hs)]
   rfl
 rw [e,Bool.and_eq_true,Bool.or_eq_true,beq_iff_eq] at h1
 refine ⟨fun h0=>?_,Nat.le_of_ble_eq_true h1.2⟩
 rcases h1.1 with h2 | h2
 · omega
 · exact Nat.le_of_ble_eq_true h2
section
variable {P:Program} {l:List Oper} {Q:Exit→Act→World→Prop} {N:Nat} {a:Act} {env:List (Nat × Value)} {rest:List Oper} {d:Tmp} {ty:TypeId} {pos:String} {af:Array Edge} {g:Option (Nat × Bool)} {w:World}
theorem sIdT {t:TypeId} {x i:Operand} {s:ByteArray} {j:Nat} {k:IntKind} (ht:P.underlying t=some .string) (F:Has N a env) (hg:wants l env g=true) (hN:Nat.blt d N=true) (hx:ev env x=some (.string s)) (hi:ev env i=some (.int k (j:Int))) (hs:XaU s=true) (hj:j < 256)
   (K:∀ (t:UInt8),TabP j t→∀ a,Has N a ((d,b8 t) :: env)→wpList P l.toArray Q rest a w):wpList P l.toArray Q (⟨some d,.index t x i,ty,pos,af,g⟩ :: rest) a w:=by
 obtain ⟨h1,h2⟩:=Xbn hs hj
 refine YM F hg rfl hN (v:=b8 (s[j]'h1)) ?_ (K _ h2)
 have h3:=run_index_string (P:=P) w t s k (j:Int) ht
 rw [dif_pos (by omega)] at h3
 simp only [execOp,F.eval hx,F.eval hi,Sem.run_bind,h3,Result.andThen_ok,Sem.run_pure]
 rfl
end
theorem MD {n:Nat} (h:n < 256):IntKind.u8.wrap (n:Int)=(n:Int):=by
 have:IntKind.u8.wrap (n:Int)=(n:Int) % 256:=by simp [IntKind.wrap,IntKind.signed,IntKind.bits]
 rw [this];omega
theorem GC {a t x y:Nat} (ht:2 ^ t≤2 * y) (hy:y * 2 ^ a≤x):2 ^ (a+t)≤2 * x:=by
 rw [Nat.pow_add]
 have h1:2 ^ a * 2 ^ t≤2 ^ a * (2 * y):=Nat.mul_le_mul_left _ ht
 have h2:2 ^ a * (2 * y)=2 * (y * 2 ^ a):=by rw [Nat.mul_comm (2 ^ a),Nat.mul_assoc]
 omega
set_option maxHeartbeats 1000000 in
theorem DL (x:Nat) (w0:World) (hx:x < 4294967296) :
   Calls Tryz.prog 110 #[.int .u64 (x:Int)] w0 fun e w'=>∃ r:Nat,e = .returned (.int .i64 (r:Int))∧(0 < x→2 ^ r≤2 * x)∧r≤40∧Below w0.heap.size w0 w':=by
 have H:=Own.start w0 none
 refine XE func110 rfl ntmps110 rfl (fun a F=>?_);refine cSR fun K1 hK1=>Xa F rfl (qNK hK1 ?_);clear hK1;clear F a;intro a F;refine cSeq (fun K2 hK2=>?_);refine cSR fun K3 hK3=>Xl F rfl (Xj rfl rfl Jc (qNK hK3 ?_));clear hK3;clear F a;intro a F
 refine cIf F rfl (fun h4=>?_) (fun h4=>?_)
 ·
  replace h4:=of_decide_eq_true h4
  omega
 replace h4:=of_decide_eq_false h4;refine wp_skip (hK2 _ _ ?_);clear hK2;refine cSeq (fun K4 hK4=>?_);refine cSR fun K5 hK5=>Xl F rfl (Xj rfl rfl Jc (qNK hK5 ?_));clear hK5;clear F a;intro a F
 refine cIf F rfl (fun h8=>?_) (fun h8=>?_)
 ·
  replace h8:=of_decide_eq_true h8;refine cSR fun K6 hK6=>Xl F rfl ?_;clear F a;intro a F
  refine Xm F rfl rfl (Xae (c:=16) ?_) ?_
  focus decide
  clear F a;intro a F;refine Xa F rfl (qNK hK6 (WN (Xd rfl ?_)));clear hK6;clear F a;intro a F
  refine Xm F rfl rfl (Z9 ?_) ?_
  focus omega
  clear F a;intro a F;refine Xa F rfl (qNK hK4 ?_);clear hK4;clear F a;intro a F;refine cSeq (fun K7 hK7=>?_);refine cSR fun K8 hK8=>Xl F rfl (Xj rfl rfl Jc (qNK hK8 ?_));clear hK8;clear F a;intro a F
  refine cIf F rfl (fun h14=>?_) (fun h14=>?_)
  ·
   replace h14:=of_decide_eq_true h14;refine cSR fun K9 hK9=>Xl F rfl ?_;clear F a;intro a F
   refine Xm F rfl rfl (Xae (c:=8) ?_) ?_
   focus decide
   clear F a;intro a F;refine Xa F rfl (qNK hK9 (WN (Xd rfl ?_)));clear hK9;clear F a;intro a F
   refine Xm F rfl rfl (Z9 ?_) ?_
   focus omega
   clear F a;intro a F;refine Xa F rfl (qNK hK7 (qSR fun K10 hK10=>Xd rfl (Xd rfl (qCv underlying158 underlying5 rfl rfl rfl (MD (by omega)) ?_))));clear hK7;clear F a;intro a F;refine sIdT underlying9 F rfl rfl rfl rfl (by kernel_rfl) (by omega) ?_;clear F a;intro t22 ht22 a F
   have ht8:=ht22.2
   refine sCv underlying5 underlying3 F rfl rfl rfl (ZT _) ?_;clear F a;intro a F
   refine Xm F rfl rfl (Z9 ?_) ?_
   focus omega
   clear F a;intro a F;refine Xa F rfl (qNK hK10 ?_);clear hK10;clear F a;intro a F;refine wp_ret ?_;refine bRet results110 F rfl ?_
   exact ⟨24+t22.toNat,by congr 2 <;> omega,fun hx0=>GC (y:=x / 2 ^ 16 / 2 ^ 8) (ht22.1 (by omega)) (by omega),by omega,H.below⟩
  replace h14:=of_decide_eq_false h14;refine wp_skip (hK7 _ _ (cSR fun K11 hK11=>Xl F rfl (Xd rfl (qCv underlying158 underlying5 rfl rfl rfl (MD (by omega)) ?_))));clear hK7;clear F a;intro a F;refine sIdT underlying9 F rfl rfl rfl rfl (by kernel_rfl) (by omega) ?_;clear F a;intro t22 ht22 a F
  have ht8:=ht22.2
  refine sCv underlying5 underlying3 F rfl rfl rfl (ZT _) ?_;clear F a;intro a F
  refine Xm F rfl rfl (Z9 ?_) ?_
  focus omega
  clear F a;intro a F;refine Xa F rfl (qNK hK11 ?_);clear hK11;clear F a;intro a F;refine wp_ret ?_;refine bRet results110 F rfl ?_
  exact ⟨16+t22.toNat,by congr 2 <;> omega,fun hx0=>GC (y:=x / 2 ^ 16) (ht22.1 (by omega)) (by omega),by omega,H.below⟩
 replace h8:=of_decide_eq_false h8;refine wp_skip (hK4 _ _ ?_);clear hK4;refine cSeq (fun K12 hK12=>?_);refine cSR fun K13 hK13=>Xl F rfl (Xj rfl rfl Jc (qNK hK13 ?_));clear hK13;clear F a;intro a F
 refine cIf F rfl (fun h14=>?_) (fun h14=>?_)
 ·
  replace h14:=of_decide_eq_true h14;refine cSR fun K14 hK14=>Xl F rfl ?_;clear F a;intro a F
  refine Xm F rfl rfl (Xae (c:=8) ?_) ?_
  focus decide
  clear F a;intro a F;refine Xa F rfl (qNK hK14 (WN (Xd rfl ?_)));clear hK14;clear F a;intro a F
  refine Xm F rfl rfl (Z9 ?_) ?_
  focus omega
  clear F a;intro a F;refine Xa F rfl (qNK hK12 (qSR fun K15 hK15=>Xd rfl (Xd rfl (qCv underlying158 underlying5 rfl rfl rfl (MD (by omega)) ?_))));clear hK12;clear F a;intro a F;refine sIdT underlying9 F rfl rfl rfl rfl (by kernel_rfl) (by omega) ?_;clear F a;intro t22 ht22 a F
  have ht8:=ht22.2
  refine sCv underlying5 underlying3 F rfl rfl rfl (ZT _) ?_;clear F a;intro a F
  refine Xm F rfl rfl (Z9 ?_) ?_
  focus omega
  clear F a;intro a F;refine Xa F rfl (qNK hK15 ?_);clear hK15;clear F a;intro a F;refine wp_ret ?_;refine bRet results110 F rfl ?_
  exact ⟨8+t22.toNat,by congr 2 <;> omega,fun hx0=>GC (y:=x / 2 ^ 8) (ht22.1 (by omega)) (by omega),by omega,H.below⟩
 replace h14:=of_decide_eq_false h14;refine wp_skip (hK12 _ _ (cSR fun K16 hK16=>Xl F rfl (Xd rfl (qCv underlying158 underlying5 rfl rfl rfl (MD (by omega)) ?_))));clear hK12;clear F a;intro a F;refine sIdT underlying9 F rfl rfl rfl rfl (by kernel_rfl) (by omega) ?_;clear F a;intro t22 ht22 a F
 have ht8:=ht22.2
 refine sCv underlying5 underlying3 F rfl rfl rfl (ZT _) ?_;clear F a;intro a F
 refine Xm F rfl rfl (Z9 ?_) ?_
 focus omega
 clear F a;intro a F;refine Xa F rfl (qNK hK16 ?_);clear hK16;clear F a;intro a F;refine wp_ret ?_;refine bRet results110 F rfl ?_
 exact ⟨t22.toNat,by congr 2 <;> omega,fun hx0=>ht22.1 (by omega),by omega,H.below⟩
theorem J7 (x:Nat) (w0:World) (hx:x < 4294967296) :
   Calls Tryz.prog 64 #[.int .u64 (x:Int)] w0 fun e w'=>∃ r:Nat,e = .returned (.int .i64 (r:Int))∧(0 < x→2 ^ r≤2 * x)∧r≤40∧Below w0.heap.size w0 w':=by
 have H:=Own.start w0 none
 refine XE func64 rfl ntmps64 rfl (fun a F=>?_);refine cSR fun K1 hK1=>Xa F rfl (qNK hK1 ?_);clear hK1;clear F a;intro a F;refine cSeq (fun K2 hK2=>?_);refine cIfF F rfl ?_;refine wp_skip (hK2 _ _ (cSR fun K3 hK3=>Xl F rfl ?_));clear hK2;clear F a;intro a F;refine Xn call110 F rfl (DL x _ hx) ?_;rintro e w ⟨r,rfl,hr1,hr2,hb⟩;replace H:=H.grow hb;clear hb;refine ⟨_,rfl,?_⟩;clear F a;intro a F;refine Xa F rfl (qNK hK3 ?_);clear hK3;clear F a;intro a F;refine wp_ret ?_;refine bRet results64 F rfl ?_
 exact ⟨r,rfl,hr1,hr2,H.below⟩
theorem Xck {r:Nat} (h:r≤40):2 ^ r < 18446744073709551616:=by
 have:2 ^ r≤2 ^ 40:=Nat.pow_le_pow_right (by decide) h
 omega
theorem N5 (x:Nat) (w0:World) (hx0:0 < x) (hx:x≤1000000) :
   Calls Tryz.prog 116 #[.int .i64 (x:Int)] w0 fun e w'=>∃ r:Nat,e = .returned (.int .u64 (r:Int))∧1≤r∧r≤2 * x∧Below w0.heap.size w0 w':=by
 have H:=Own.start w0 none
 refine XE func116 rfl ntmps116 rfl (fun a F=>?_);refine cSR fun K1 hK1=>Xa F rfl (qNK hK1 (qSR fun K2 hK2=>Xd rfl (qCv underlying3 underlying132 rfl rfl rfl (ND (by omega)) ?_)));clear hK1;clear F a;intro a F;refine Xn call64 F rfl (J7 x _ (by omega)) ?_;rintro e w ⟨r,rfl,hr1,hr2,hb⟩;replace H:=H.grow hb;clear hb;refine ⟨_,rfl,?_⟩;clear F a;intro a F
 refine Xm F rfl rfl (XbP (n:=1) ?_) ?_
 focus omega
 clear F a;intro a F;refine Xa F rfl (qNK hK2 ?_);clear hK2;clear F a;intro a F;refine wp_ret ?_;refine bRet results116 F rfl ?_
 have h1:=Xck hr2
 have h2:0 < 2 ^ r:=Nat.pow_pos (by decide)
 refine ⟨2 ^ r,?_,h2,hr1 hx0,H.below⟩
 rw [Nat.one_mul,Nat.mod_eq_of_lt h1]
def nx1 (v:Nat):Nat:=v ^^^ (v * 2 ^ 13 % 18446744073709551616)
def nx2 (v:Nat):Nat:=nx1 v ^^^ (nx1 v / 2 ^ 7)
def nx3 (v:Nat):Nat:=nx2 v ^^^ (nx2 v * 2 ^ 17 % 18446744073709551616)
theorem Ds {v:Nat} (h:v < 18446744073709551616):nx1 v < 18446744073709551616:=Nat.xor_lt_two_pow (n:=64) h (Nat.mod_lt _ (by decide))
theorem Xar {v:Nat} (h:v < 18446744073709551616):nx2 v < 18446744073709551616:=Nat.xor_lt_two_pow (n:=64) (Ds h) (Nat.lt_of_le_of_lt (Nat.div_le_self _ _) (Ds h))
theorem Xct {v:Nat} (h:v < 18446744073709551616):nx3 v < 18446744073709551616:=Nat.xor_lt_two_pow (n:=64) (Xar h) (Nat.mod_lt _ (by decide))
theorem Eu (b v:Nat) (ty:TypeId) (W:World) (row:Option Nat) (rs:List Res) (w0:World) (H:Own W row w0 (.blk b [.int .u64 (v:Int)] ty :: rs)) (hv:v < 18446744073709551616) :
   Calls Tryz.prog 117 #[.pointer (some ⟨b,0,none⟩)] w0 fun e w'=>∃ v':Nat,e = .returned (.int .u64 (v':Int))∧v' < 18446744073709551616∧Own W row w' (.blk b [.int .u64 (v':Int)] ty :: rs):=by
 have h1:=Ds hv
 have h2:=Xar hv
 have h3:=Xct hv
 refine XE func117 rfl ntmps117 rfl (fun a F=>?_);refine cSR fun K1 hK1=>Xa F rfl (qNK hK1 ?_);clear hK1;clear F a;intro a F;refine cSeq (fun K2 hK2=>?_);refine cRegRO (by kernel_rfl) H ?_;replace H:=H.drew;refine Xt 0 rfl F rfl (fun w=>rMv F rfl) H qq0 (Xz 1 rfl rfl rfl (fun a F w H=>rNc F rfl) H qq0 (Xz 2 rfl rfl rfl (fun a F w H=>rLd isAgg169 F rfl (H.cell 0 rfl rfl)) H qq0 (Xu 3 rfl rfl (fun a F w=>rMv F rfl) H qq0 (Xz 4 rfl rfl rfl (fun a F w H=>rNc F rfl) H qq0 (Xz 5 rfl rfl rfl (fun a F w H=>rLd isAgg169 F rfl (H.cell 0 rfl rfl)) H qq0 ?_)))));clear F a;intro a F
 refine Xv (k:=6) (i:=6) rfl F rfl (fun w=>YA F rfl rfl (XbP (c:=13) ?_)) H (fun _ _ _ h=>h) ?_
 focus decide
 clear F a;intro a F
 refine Xv (k:=7) (i:=7) rfl F rfl (fun w=>YA F rfl rfl (XbO ?_ ?_)) H (fun _ _ _ h=>h) ?_
 focus exact hv
 focus exact Nat.mod_lt _ (by decide)
 clear F a;intro a F;refine Xw 8 rfl F rfl rfl (fun w H=>rNc F rfl) H qq0 ?_;clear F a;intro a F;refine Xx (k:=9) (i:=9) rfl (by kernel_rfl) F (oSt H 0 sizeOf169 F rfl rfl rfl rfl rfl ?_);clear H;intro w H;refine XF (by kernel_rfl) H ?_;refine eNil (k:=10) (by kernel_rfl) ?_;refine hK2 _ _ ?_;clear hK2;refine cSeq (fun K3 hK3=>?_);refine cRegRO (by kernel_rfl) H ?_;replace H:=H.drew;refine Xt 0 rfl F rfl (fun w=>rMv F rfl) H qq0 (Xz 1 rfl rfl rfl (fun a F w H=>rNc F rfl) H qq0 (Xz 2 rfl rfl rfl (fun a F w H=>rLd isAgg169 F rfl (H.cell 0 rfl rfl)) H qq0 (Xu 3 rfl rfl (fun a F w=>rMv F rfl) H qq0 (Xz 4 rfl rfl rfl (fun a F w H=>rNc F rfl) H qq0 (Xz 5 rfl rfl rfl (fun a F w H=>rLd isAgg169 F rfl (H.cell 0 rfl rfl)) H qq0 ?_)))));clear F a;intro a F
 refine Xv (k:=6) (i:=6) rfl F rfl (fun w=>YA F rfl rfl (Xae (c:=7) ?_)) H (fun _ _ _ h=>h) ?_
 focus decide
 clear F a;intro a F
 refine Xv (k:=7) (i:=7) rfl F rfl (fun w=>YA F rfl rfl (XbO ?_ ?_)) H (fun _ _ _ h=>h) ?_
 focus exact h1
 focus exact Nat.lt_of_le_of_lt (Nat.div_le_self _ _) h1
 clear F a;intro a F;refine Xw 8 rfl F rfl rfl (fun w H=>rNc F rfl) H qq0 ?_;clear F a;intro a F;refine Xx (k:=9) (i:=9) rfl (by kernel_rfl) F (oSt H 0 sizeOf169 F rfl rfl rfl rfl rfl ?_);clear H;intro w H;refine XF (by kernel_rfl) H ?_;refine eNil (k:=10) (by kernel_rfl) ?_;refine hK3 _ _ ?_;clear hK3;refine cSeq (fun K4 hK4=>?_);refine cRegRO (by kernel_rfl) H ?_;replace H:=H.drew;refine Xt 0 rfl F rfl (fun w=>rMv F rfl) H qq0 (Xz 1 rfl rfl rfl (fun a F w H=>rNc F rfl) H qq0 (Xz 2 rfl rfl rfl (fun a F w H=>rLd isAgg169 F rfl (H.cell 0 rfl rfl)) H qq0 (Xu 3 rfl rfl (fun a F w=>rMv F rfl) H qq0 (Xz 4 rfl rfl rfl (fun a F w H=>rNc F rfl) H qq0 (Xz 5 rfl rfl rfl (fun a F w H=>rLd isAgg169 F rfl (H.cell 0 rfl rfl)) H qq0 ?_)))));clear F a;intro a F
 refine Xv (k:=6) (i:=6) rfl F rfl (fun w=>YA F rfl rfl (XbP (c:=17) ?_)) H (fun _ _ _ h=>h) ?_
 focus decide
 clear F a;intro a F
 refine Xv (k:=7) (i:=7) rfl F rfl (fun w=>YA F rfl rfl (XbO ?_ ?_)) H (fun _ _ _ h=>h) ?_
 focus exact h2
 focus exact Nat.mod_lt _ (by decide)
 clear F a;intro a F;refine Xw 8 rfl F rfl rfl (fun w H=>rNc F rfl) H qq0 ?_;clear F a;intro a F;refine Xx (k:=9) (i:=9) rfl (by kernel_rfl) F (oSt H 0 sizeOf169 F rfl rfl rfl rfl rfl ?_);clear H;intro w H;refine XF (by kernel_rfl) H ?_;refine eNil (k:=10) (by kernel_rfl) ?_;refine hK4 _ _ (cSR fun K5 hK5=>Xl F rfl (Xk rfl (Xc isAgg169 rfl (H.cell 0 rfl rfl) (Xh rfl (qNK hK5 ?_)))));clear hK4 hK5;clear F a;intro a F;refine wp_ret ?_;refine bRet results117 F rfl ?_
 exact ⟨nx3 v,rfl,h3,H⟩
set_option maxHeartbeats 1000000 in
theorem Bu (g n c:Nat) (d:By) (lo up:Nat) (W:World) (row:Option Nat) (rs:List Res) (w0:World) (H:Own W row w0 (.byt g n c d :: rs)) (hb:up≤n) (hn:n≤1000000) (hlo:lo+12 < up) :
   Calls Tryz.prog 102 #[.slice (some ⟨g,0,none⟩) n c,.int .i64 (lo:Int),.int .i64 (up:Int)] w0 fun e w'=>e = .returned (.tuple #[])∧∃ d',Sm lo up d d'∧Own W row w' (.byt g n c d' :: rs):=by
 refine XE func102 rfl ntmps102 rfl (fun a F=>?_);refine cSR fun K1 hK1=>Xl F rfl (Xd rfl ?_);clear F a;intro a F
 refine Xm F rfl rfl (Yp ?_ ?_) ?_
 focus omega
 focus omega
 clear F a;intro a F;refine Xa F rfl (qNK hK1 (qSR fun K2 hK2=>Xd rfl (Xj rfl rfl Jc (qNK hK2 ?_))));clear hK1 hK2;clear F a;intro a F
 refine cIf F rfl (fun h15=>?_) (fun h15=>?_)
 ·
  replace h15:=of_decide_eq_true h15;refine cSR fun K3 hK3=>Xl F rfl (qCv underlying3 underlying169 rfl rfl rfl (ND (by omega)) ?_);clear F a;intro a F;refine sAl H zeroValue169 F rfl rfl ?_;clear F a H;intro b7 a w F H;refine sSt H 0 sizeOf169 F rfl rfl rfl rfl rfl rfl ?_;clear H;intro w H;refine nK hK3 (cSR fun K4 hK4=>Xl F rfl ?_);clear hK3;clear F a;intro a F;refine Xn call116 F rfl (N5 (up - lo) _ (by omega) (by omega)) ?_;rintro e w ⟨p,rfl,hp1,hp2,hb'⟩
  replace H:=H.grow hb';clear hb'
  refine ⟨_,rfl,?_⟩;clear F a;intro a F;refine Xa F rfl (qNK hK4 (qSR fun K5 hK5=>Xd rfl (Xd rfl ?_)));clear hK4;clear F a;intro a F
  refine Xm F rfl rfl (Nt (j:=4) ?_ ?_) ?_
  focus omega
  focus omega
  clear F a;intro a F
  refine Xm F rfl rfl (Eo (j:=2) ?_) ?_
  focus omega
  clear F a;intro a F
  refine Xm F rfl rfl (XJ ?_) ?_
  focus omega
  clear F a;intro a F
  refine Xm F rfl rfl (Yp (j:=1) ?_ ?_) ?_
  focus omega
  focus omega
  clear F a;intro a F;refine Xa F rfl (qNK hK5 ?_);clear hK5;clear F a;intro a F;refine wp_block ?_
  refine cLoopS [0,1,6,7,8] (fun m ups w=>∃ (i v:Nat) (e:By),m=lo+(up - lo) / 4 * 2+2 - i∧ups=[(9,.int .i64 ((i:Nat):Int))]∧lo≤i∧v < 18446744073709551616∧Sm lo up d e∧Own W row w (.blk b7 [.int .u64 (v:Int)] 169 :: .byt g n c e :: rs)) F (lo+(up - lo) / 4 * 2+2 - (lo+(up - lo) / 4 * 2 - 1)) [(9,.int .i64 ((lo+(up - lo) / 4 * 2 - 1:Nat):Int))] ?_ ?_
  · exact ⟨_,up - lo,d,rfl,rfl,by omega,by omega,Sm.refl _ _ _,H⟩
  clear F
  clear H
  intro m ups a w hI F
  obtain ⟨i,v,e,rfl,rfl,hli,hv,hsm,H⟩:=hI
  refine cSeq (fun K6 hK6=>?_);refine cSR fun K7 hK7=>Xl F rfl (Xd rfl (Xd rfl ?_));clear F a;intro a F
  refine Xm F rfl rfl (Nt (j:=4) ?_ ?_) ?_
  focus omega
  focus omega
  clear F a;intro a F
  refine Xm F rfl rfl (Eo (j:=2) ?_) ?_
  focus omega
  clear F a;intro a F
  refine Xm F rfl rfl (XJ ?_) ?_
  focus omega
  clear F a;intro a F
  refine Xm F rfl rfl (XJ (j:=1) ?_) ?_
  focus omega
  clear F a;intro a F;refine Xm F rfl rfl GZ (qNK hK7 ?_);clear hK7;clear F a;intro a F
  refine cIf F rfl (fun h33=>?_) (fun h33=>?_)
  ·
   replace h33:=of_decide_eq_true h33;refine wp_skip (hK6 _ _ ?_);clear hK6;refine cSeq (fun K8 hK8=>?_);refine wp_block ?_;refine cSR fun K9 hK9=>?_;refine Xn call117 F rfl (Eu b7 v 169 W row _ _ H hv) ?_;rintro e w ⟨v1,rfl,hv1,H2⟩
   replace H:=H2;clear H2;have hand:v1 &&& (p - 1)≤p - 1:=Nat.and_le_right
   refine ⟨_,rfl,?_⟩;clear F a;intro a F;refine Xl F rfl ?_;clear F a;intro a F
   refine Xm F rfl rfl (bSubU (m:=1) ?_ ?_) ?_
   focus omega
   focus omega
   clear F a;intro a F
   refine Xm F rfl rfl (bAndG ?_ ?_) ?_
   focus omega
   focus omega
   clear F a;intro a F;refine sCv underlying132 underlying3 F rfl rfl rfl (XaM (by omega)) (Xh rfl (qNK hK9 ?_));clear hK9;clear F a;intro a F;refine cSeq (fun K10 hK10=>?_);refine cSR fun K11 hK11=>Xl F rfl (Xd rfl (Xj rfl rfl Jc (qNK hK11 ?_)));clear hK11;clear F a;intro a F
   refine cIf F rfl (fun h43=>?_) (fun h43=>?_)
   ·
    replace h43:=of_decide_eq_true h43;refine cReg (Xl F rfl (Xd rfl ?_));clear F a;intro a F
    refine Xm F rfl rfl (Yp ?_ ?_) ?_
    focus omega
    focus omega
    clear F a;intro a F;refine Xa F rfl (qNK hK10 ?_);clear hK10;clear F a;intro a F;refine cRegRO (by kernel_rfl) H ?_;replace H:=H.drew;refine Xt 0 rfl F rfl (fun w=>rMv F rfl) H qq0 (Xu 1 rfl rfl (fun a F w=>rMv F rfl) H qq0 (Xu 2 rfl rfl (fun a F w=>rMv F rfl) H qq0 (Xu 3 rfl rfl (fun a F w=>rMv F rfl) H qq0 (Xu 4 rfl rfl (fun a F w=>rMv F rfl) H qq0 ?_))));clear F a;intro a F
    refine Xv (k:=5) (i:=5) rfl F rfl (fun w=>YA F rfl rfl (XJ ?_)) H (fun _ _ _ h=>h) ?_
    focus omega
    clear F a;intro a F;refine Xt 6 rfl F rfl (fun w=>rMv F rfl) H qq0 (Xu 7 rfl rfl (fun a F w=>rMv F rfl) H qq0 (Xu 8 rfl rfl (fun a F w=>rMv F rfl) H qq0 ?_));clear F a;intro a F
    refine Xv (k:=9) (i:=9) rfl F rfl (fun w=>YA F rfl rfl (XJ ?_)) H (fun _ _ _ h=>h) ?_
    focus omega
    clear F a;intro a F
    refine Xv (k:=10) (i:=10) rfl F rfl (fun w=>rIx underlying23 sizeOf5 F rfl rfl ?_) H (fun _ _ _ h=>h) ?_
    focus (omega)
    clear F a;intro a F;refine Xw 11 rfl F rfl rfl (fun w H=>rLd isAgg5 F rfl (H.by' 1 rfl)) H qq0 (Xu 12 rfl rfl (fun a F w=>rMv F rfl) H qq0 (Xu 13 rfl rfl (fun a F w=>rMv F rfl) H qq0 ?_));clear F a;intro a F
    refine Xv (k:=14) (i:=14) rfl F rfl (fun w=>rIx underlying23 sizeOf5 F rfl rfl ?_) H (fun _ _ _ h=>h) ?_
    focus (omega)
    clear F a;intro a F;refine Xw 15 rfl F rfl rfl (fun w H=>rLd isAgg5 F rfl (H.by' 1 rfl)) H qq0 ?_;clear F a;intro a F
    refine Xv (k:=16) (i:=16) rfl F rfl (fun w=>rIx underlying23 sizeOf5 F rfl rfl ?_) H (fun _ _ _ h=>h) ?_
    focus (omega)
    clear F a;intro a F;refine Xx (k:=17) (i:=17) rfl (by kernel_rfl) F (Wa H 1 sizeOf5 F rfl rfl rfl (by omega) ?_);clear H;intro w H;refine XF (by kernel_rfl) H ?_
    refine Xv (k:=18) (i:=18) rfl F rfl (fun w=>rIx underlying23 sizeOf5 F rfl rfl ?_) H (fun _ _ _ h=>h) ?_
    focus (omega)
    clear F a;intro a F;refine Xx (k:=19) (i:=19) rfl (by kernel_rfl) F (Wa H 1 sizeOf5 F rfl rfl rfl (by omega) ?_);clear H;intro w H;refine XF (by kernel_rfl) H ?_;refine eNil (k:=20) (by kernel_rfl) ?_;refine hK8 _ _ (cReg (Xl F rfl ?_));clear hK8;clear F a;intro a F
    refine Xm F rfl rfl (XJ (j:=1) ?_) ?_
    focus omega
    clear F a;intro a F;refine Xa F rfl ?_;clear F a;intro a F;refine sNil ?_
    exact ⟨_,by omega,_,⟨i+1,v1,_,rfl,rfl,by omega,hv1,hsm.trans (Sm.swap e (by omega) (by omega) (by omega) (by omega)),H.swp2⟩,F.tt⟩
   replace h43:=of_decide_eq_false h43;refine wp_skip (hK10 _ _ ?_);clear hK10;refine cRegRO (by kernel_rfl) H ?_;replace H:=H.drew;refine Xt 0 rfl F rfl (fun w=>rMv F rfl) H qq0 (Xu 1 rfl rfl (fun a F w=>rMv F rfl) H qq0 (Xu 2 rfl rfl (fun a F w=>rMv F rfl) H qq0 (Xu 3 rfl rfl (fun a F w=>rMv F rfl) H qq0 (Xu 4 rfl rfl (fun a F w=>rMv F rfl) H qq0 ?_))));clear F a;intro a F
   refine Xv (k:=5) (i:=5) rfl F rfl (fun w=>YA F rfl rfl (XJ ?_)) H (fun _ _ _ h=>h) ?_
   focus omega
   clear F a;intro a F;refine Xt 6 rfl F rfl (fun w=>rMv F rfl) H qq0 (Xu 7 rfl rfl (fun a F w=>rMv F rfl) H qq0 (Xu 8 rfl rfl (fun a F w=>rMv F rfl) H qq0 ?_));clear F a;intro a F
   refine Xv (k:=9) (i:=9) rfl F rfl (fun w=>YA F rfl rfl (XJ ?_)) H (fun _ _ _ h=>h) ?_
   focus omega
   clear F a;intro a F
   refine Xv (k:=10) (i:=10) rfl F rfl (fun w=>rIx underlying23 sizeOf5 F rfl rfl ?_) H (fun _ _ _ h=>h) ?_
   focus (omega)
   clear F a;intro a F;refine Xw 11 rfl F rfl rfl (fun w H=>rLd isAgg5 F rfl (H.by' 1 rfl)) H qq0 (Xu 12 rfl rfl (fun a F w=>rMv F rfl) H qq0 (Xu 13 rfl rfl (fun a F w=>rMv F rfl) H qq0 ?_));clear F a;intro a F
   refine Xv (k:=14) (i:=14) rfl F rfl (fun w=>rIx underlying23 sizeOf5 F rfl rfl ?_) H (fun _ _ _ h=>h) ?_
   focus (omega)
   clear F a;intro a F;refine Xw 15 rfl F rfl rfl (fun w H=>rLd isAgg5 F rfl (H.by' 1 rfl)) H qq0 ?_;clear F a;intro a F
   refine Xv (k:=16) (i:=16) rfl F rfl (fun w=>rIx underlying23 sizeOf5 F rfl rfl ?_) H (fun _ _ _ h=>h) ?_
   focus (omega)
   clear F a;intro a F;refine Xx (k:=17) (i:=17) rfl (by kernel_rfl) F (Wa H 1 sizeOf5 F rfl rfl rfl (by omega) ?_);clear H;intro w H;refine XF (by kernel_rfl) H ?_
   refine Xv (k:=18) (i:=18) rfl F rfl (fun w=>rIx underlying23 sizeOf5 F rfl rfl ?_) H (fun _ _ _ h=>h) ?_
   focus (omega)
   clear F a;intro a F;refine Xx (k:=19) (i:=19) rfl (by kernel_rfl) F (Wa H 1 sizeOf5 F rfl rfl rfl (by omega) ?_);clear H;intro w H;refine XF (by kernel_rfl) H ?_;refine eNil (k:=20) (by kernel_rfl) ?_;refine hK8 _ _ (cReg (Xl F rfl ?_));clear hK8;clear F a;intro a F
   refine Xm F rfl rfl (XJ (j:=1) ?_) ?_
   focus omega
   clear F a;intro a F;refine Xa F rfl ?_;clear F a;intro a F;refine sNil ?_
   exact ⟨_,by omega,_,⟨i+1,v1,_,rfl,rfl,by omega,hv1,hsm.trans (Sm.swap e (by omega) (by omega) (by omega) (by omega)),H.swp2⟩,F.tt⟩
  replace h33:=of_decide_eq_false h33;refine wp_exit ?_
  (simp only [Exit.then,Exit.inBlock,if_true];(repeat (first | rw [if_pos rfl] | rw [if_neg (by decide)]));refine bEnd results102 F ?_)
  exact ⟨rfl,e,hsm,H.tail⟩
 replace h15:=of_decide_eq_false h15
 omega
-- SoJ
open Go.RowKit
set_option maxRecDepth 100000
theorem Pq.eqs {a0 b0 a b p m:Nat} {e f:By} (h:Pq a0 b0 a b e) (ha:0 < a) (hp:a≤p) (hpb:p < b) (hle:¬ (e (a - 1)).toNat < (e p).toNat) (hs:Sm a b e f) (hf:f a=e p) (hsm:∀ k,a < k→k < m→(f k).toNat≤(f a).toNat) :
   ∀ i k,a≤i→i < m→a≤k→k < b→(f i).toNat≤(f k).toNat:=fun i k h1 h2 h3 h4=>by
 have hpre:∀ k,a≤k→k < b→(e (a - 1)).toNat≤(e k).toNat:=by
   rcases h.pre with h5 | h5
   · omega
   · exact h5
 have h6:(f a).toNat≤(f k).toNat:=by
   rw [hf]
   exact hs.all (p:=fun x=>(e p).toNat≤x.toNat) (fun k h7 h8=>by have:=hpre k h7 h8;omega) k h3 h4
 by_cases e1:i=a
 · rw [e1];exact h6
 · exact Nat.le_trans (hsm i (by omega) h2) h6
theorem Pq.preL {a0 b0 a b m:Nat} {e:By} (h:Pq a0 b0 a b e) (hm:m≤b):a=0∨∀ k,a≤k→k < m→(e (a - 1)).toNat≤(e k).toNat:=by
 rcases h.pre with h1 | h1
 · exact .inl h1
 · exact .inr fun k h2 h3=>h1 k h2 (by omega)
theorem Sm.up {a0 b0 a b:Nat} {d e f:By} (h:Sm a0 b0 d e) (g:Sm a b e f) (q:Pq a0 b0 a b e):Sm a0 b0 d f:=h.trans (g.mono q.a0a q.bb0)
set_option maxHeartbeats 8000000 in
theorem Xbc (g n c:Nat) (hn:n≤1000000) (W:World) (row:Option Nat) (rs:List Res):∀ (K lo up lim:Nat) (d:By) (w0:World),up - lo≤K→Own W row w0 (.byt g n c d :: rs)→up≤n→lo≤up→lim≤1000→(lo=0∨∀ k,lo≤k→k < up→(d (lo - 1)).toNat≤(d k).toNat) →
   Calls Tryz.prog 63 #[.slice (some ⟨g,0,none⟩) n c,.int .i64 (lo:Int),.int .i64 (up:Int),.int .i64 (lim:Int)] w0 fun e w'=>e = .returned (.tuple #[])∧∃ d',Sm lo up d d'∧Srt lo up d'∧Own W row w' (.byt g n c d' :: rs):=by
 intro K
 induction K using Nat.strongRecOn with
 | ind K ih=>
   intro lo up lim d w0 hK H hb hlo hlim hpre
   refine XE Tryz.func63 rfl Tryz.ntmps63 rfl (fun a F=>?_);refine cSR fun K1 hK1=>Xa F rfl (qNK hK1 (qSR fun K2 hK2=>Xh rfl (qNK hK2 ?_)));clear hK1 hK2;clear F a;intro a F;refine wp_block ?_
   refine cLoopS [0] (fun m ups w=>∃ (a b lim:Nat) (wb wp:Bool) (e:By),m=b - a∧ups=[(1,.int .i64 ((a:Nat):Int)),(2,.int .i64 ((b:Nat):Int)),(3,.int .i64 ((lim:Nat):Int)),(8,.bool wb),(9,.bool wp)]∧lim≤1000∧Pq lo up a b e∧Sm lo up d e∧Own W row w (.byt g n c e :: rs)) F (up - lo) [(1,.int .i64 ((lo:Nat):Int)),(2,.int .i64 ((up:Nat):Int)),(3,.int .i64 ((lim:Nat):Int)),(8,.bool true),(9,.bool true)] ?_ ?_
   · exact ⟨lo,up,lim,true,true,d,rfl,rfl,hlim,Pq.start hlo hpre,Sm.refl _ _ _,H⟩
   clear F
   clear H
   intro m ups a w hI F
   obtain ⟨a1,b1,lim1,wb,wp,e,rfl,rfl,hlim1,hq,hsm,H⟩:=hI;have q1:=hq.a0a;have q2:=hq.ab;have q3:=hq.bb0
   refine wp_block ?_;refine cSR fun K3 hK3=>Xl F rfl (Xd rfl ?_);clear F a;intro a F
   refine Xm F rfl rfl (Yp ?_ ?_) ?_
   focus omega
   focus omega
   clear F a;intro a F;refine Xa F rfl (qNK hK3 ?_);clear hK3;clear F a;intro a F;refine cSeq (fun K4 hK4=>?_);refine cSR fun K5 hK5=>Xl F rfl (Xj rfl rfl GZ (qNK hK5 ?_));clear hK5;clear F a;intro a F
   refine cIf F rfl (fun h23=>?_) (fun h23=>?_)
   ·
    replace h23:=of_decide_eq_true h23;refine cSR fun K6 hK6=>Xl F rfl (Xd rfl (Xd rfl ?_));clear F a;intro a F;refine Xn Tryz.call100 F rfl (Mb g n c e a1 b1 W row rs _ H (by omega) hn q2) ?_;rintro e w ⟨rfl,e9,hs9,hr9,H2⟩
    replace H:=H2;clear H2
    refine ⟨_,rfl,?_⟩;clear F a;intro a F;refine nK hK6 ?_;clear hK6;refine wp_ret ?_;refine xI ?_;refine Nv Tryz.results63 F ?_
    exact ⟨rfl,e9,hsm.up hs9 hq,(hq.same hs9).done hr9,H⟩
   replace h23:=of_decide_eq_false h23
   have hlen:a1+12 < b1:=by omega
   refine wp_skip (hK4 _ _ ?_);clear hK4;refine cSeq (fun K7 hK7=>?_);refine cSR fun K8 hK8=>Xl F rfl (Xj rfl rfl ZQ (qNK hK8 ?_));clear hK8;clear F a;intro a F
   refine cIf F rfl (fun h29=>?_) (fun h29=>?_)
   ·
    replace h29:=Yh h29;refine cSR fun K9 hK9=>Xl F rfl (Xd rfl (Xd rfl ?_));clear F a;intro a F;refine Xn Tryz.call101 F rfl (CJ g n c e a1 b1 W row rs _ H (by omega) hn (by omega)) ?_;rintro e w ⟨rfl,e9,hs9,hr9,H2⟩
    replace H:=H2;clear H2
    refine ⟨_,rfl,?_⟩;clear F a;intro a F;refine nK hK9 ?_;clear hK9;refine wp_ret ?_;refine xI ?_;refine Nv Tryz.results63 F ?_
    exact ⟨rfl,e9,hsm.up hs9 hq,(hq.same hs9).done hr9,H⟩
   replace h29:=Yi h29
   have hl1:1≤lim1:=by omega
   refine wp_skip (hK7 _ _ ?_);clear hK7
   refine cSeqS [0,1,2,8,9,10] (fun ups w=>∃ (lim2:Nat) (e2:By),ups=[(3,.int .i64 ((lim2:Nat):Int))]∧lim2≤1000∧Pq lo up a1 b1 e2∧Sm lo up d e2∧Own W row w (.byt g n c e2 :: rs)) F ?_ ?_
   ·
    refine cSR fun K10 hK10=>Xl F rfl (Es rfl rfl rfl (qNK hK10 ?_));clear hK10;clear F a;intro a F
    refine cIf F rfl (fun h35=>?_) (fun h35=>?_)
    ·
     replace h35:=ZA h35;refine cSR fun K11 hK11=>Xl F rfl (Xd rfl (Xd rfl ?_));clear F a;intro a F;refine Xn Tryz.call102 F rfl (Bu g n c e a1 b1 W row rs _ H (by omega) hn hlen) ?_;rintro e w ⟨rfl,e2,hs2,H2⟩
     replace H:=H2;clear H2
     refine ⟨_,rfl,?_⟩;clear F a;intro a F;refine nK hK11 (cReg (Xl F rfl ?_));clear hK11;clear F a;intro a F
     refine Xm F rfl rfl (Yp (j:=1) ?_ ?_) ?_
     focus omega
     focus omega
     clear F a;intro a F;refine Xa F rfl ?_;clear F a;intro a F;refine sNil ?_
     exact ⟨_,⟨lim1 - 1,e2,rfl,by omega,hq.same hs2,hsm.up hs2 hq,H⟩,F.tt⟩
    replace h35:=ZB h35;refine wp_skip ?_
    exact ⟨_,⟨lim1,e,rfl,hlim1,hq,hsm,H⟩,F.tt⟩
   clear F H
   intro ups a w hI F
   clear hq hsm;obtain ⟨lim2,e2,rfl,hlim2,hq,hsm,H⟩:=hI
   refine cSR fun K12 hK12=>Xl F rfl (Xd rfl (Xd rfl ?_));clear F a;intro a F;refine Xn Tryz.call103 F rfl (Ej g n c e2 a1 b1 W row rs _ H (by omega) hn hlen) ?_;rintro e w ⟨p2,h2,rfl,hp2,hp2',H2⟩
   replace H:=H2;clear H2
   refine ⟨_,rfl,?_⟩;clear F a;intro a F;refine Xl F rfl (XB rfl rfl (XB rfl rfl (Xh rfl (Xh rfl (qNK hK12 ?_)))));clear hK12;clear F a;intro a F
   refine cSeqS [0,1,2,3,8,9,10] (fun ups w=>∃ (p:Nat) (h:Int) (e3:By),ups=[(11,.int .i64 ((p:Nat):Int)),(12,.int .i64 h)]∧a1≤p∧p < b1∧Pq lo up a1 b1 e3∧Sm lo up d e3∧Own W row w (.byt g n c e3 :: rs)) F ?_ ?_
   ·
    refine cSR fun K13 hK13=>Xl F rfl (Xj rfl rfl ZQ (qNK hK13 ?_));clear hK13;clear F a;intro a F
    refine cIf F rfl (fun h50=>?_) (fun h50=>?_)
    ·
     replace h50:=Yh h50;refine cSR fun K14 hK14=>Xl F rfl (Xd rfl (Xd rfl ?_));clear F a;intro a F;refine Xn Tryz.call104 F rfl (Ce g n c e2 a1 b1 W row rs _ H (by omega) hn (by omega)) ?_;rintro e w ⟨rfl,e3,hs3,H2⟩
     replace H:=H2;clear H2
     refine ⟨_,rfl,?_⟩;clear F a;intro a F;refine nK hK14 (cSR fun K15 hK15=>Xl F rfl ?_);clear hK14;clear F a;intro a F
     refine Xm F rfl rfl (Yp (j:=1) ?_ ?_) ?_
     focus omega
     focus omega
     clear F a;intro a F;refine Xl F rfl (Xd rfl ?_);clear F a;intro a F
     refine Xm F rfl rfl (Yp ?_ ?_) ?_
     focus omega
     focus omega
     clear F a;intro a F
     refine Xm F rfl rfl (Yp ?_ ?_) ?_
     focus omega
     focus omega
     clear F a;intro a F;refine Xa F rfl (qNK hK15 (WN (Xh rfl ?_)));clear hK15;clear F a;intro a F;refine sNil ?_
     exact ⟨_,⟨b1 - 1 - (p2 - a1),1,e3,rfl,by omega,by omega,hq.same hs3,hsm.up hs3 hq,H⟩,F.tt⟩
    replace h50:=Yi h50;refine wp_skip ?_
    exact ⟨_,⟨p2,h2,e2,rfl,hp2,hp2',hq,hsm,H⟩,F.tt⟩
   clear F H
   intro ups a w hI F
   clear hq hsm;obtain ⟨p,h12,e3,rfl,hp,hp',hq,hsm,H⟩:=hI
   refine cSeqS [0,1,2,3,8,9,10,11] (fun ups w=>∃ (e4:By),ups=[]∧Pq lo up a1 b1 e4∧Sm lo up d e4∧Own W row w (.byt g n c e4 :: rs)) F ?_ ?_
   ·
    refine cSR fun K16 hK16=>Xl F rfl (Xd rfl ?_);clear F a;intro a F
    refine F.split 62 rfl ?_ ?_ <;> (clear F;intro h62 F)
    ·
     refine Xl F rfl (Xg rfl rfl (Xd rfl ?_));clear F a;intro a F
     refine F.split 65 rfl ?_ ?_ <;> (clear F;intro h65 F)
     ·
      refine Xl F rfl (Xj rfl rfl ZQ (Xg rfl rfl (qNK hK16 ?_)));clear hK16;clear F a;intro a F
      refine cIf F rfl (fun h68=>?_) (fun h68=>?_)
      ·
       replace h68:=Yh h68;refine cSR fun K17 hK17=>Xl F rfl (Xd rfl (Xd rfl ?_));clear F a;intro a F;refine Xn Tryz.call105 F rfl (N1 g n c e3 a1 b1 W row rs _ H (by omega) hn (by omega) hq.pre) ?_;rintro e w ⟨r72,e9,rfl,hs9,hr9,H2⟩
       replace H:=H2;clear H2
       refine ⟨_,rfl,?_⟩;clear F a;intro a F;refine nK hK17 ?_;clear hK17
       refine cIf F rfl (fun h72=>?_) (fun h72=>?_)
       ·
        refine wp_ret ?_;refine xI ?_;refine Nv Tryz.results63 F ?_
        exact ⟨rfl,e9,hsm.up hs9 hq,(hq.same hs9).done (hr9 h72),H⟩
       refine wp_skip ?_
       exact ⟨_,⟨e9,rfl,hq.same hs9,hsm.up hs9 hq,H⟩,F.tt⟩
      replace h68:=Yi h68;refine wp_skip ?_
      exact ⟨_,⟨e3,rfl,hq,hsm,H⟩,F.tt⟩
     refine Xe F (Xf (Xg rfl rfl (qNK hK16 ?_)));clear hK16;clear F a;intro a F;refine cIfF F rfl ?_;refine wp_skip ?_
     exact ⟨_,⟨e3,rfl,hq,hsm,H⟩,F.tt⟩
    refine Xe F (Xg rfl rfl (Xd rfl (Xf (Xf (Xg rfl rfl (qNK hK16 ?_))))));clear hK16;clear F a;intro a F;refine cIfF F rfl ?_;refine wp_skip ?_
    exact ⟨_,⟨e3,rfl,hq,hsm,H⟩,F.tt⟩
   clear F H
   intro ups a w hI F
   clear hq hsm;obtain ⟨e4,rfl,hq,hsm,H⟩:=hI
   refine cSeq (fun K18 hK18=>?_);refine cSeq (fun K19 hK19=>?_);refine cRegRO (by kernel_rfl) H ?_;replace H:=H.drew;refine Xt 0 rfl F rfl (fun w=>rMv F rfl) H qq0 (Xu 1 rfl rfl (fun a F w=>YA F rfl rfl UO) H qq0 (Xu 2 rfl rfl (fun a F w=>rMv F rfl) H qq0 ?_));clear F a;intro a F
   refine F.split 75 rfl ?_ ?_ <;> (clear F;intro h75 F)
   ·
    replace h75:=of_decide_eq_true h75
    have ha0:0 < a1:=by omega
    refine Xt 3 rfl F rfl (fun w=>rMv F rfl) H qq0 (Xu 4 rfl rfl (fun a F w=>rMv F rfl) H qq0 ?_);clear F a;intro a F
    refine Xv (k:=5) (i:=5) rfl F rfl (fun w=>YA F rfl rfl (Yp (j:=1) ?_ ?_)) H (fun _ _ _ h=>h) ?_
    focus omega
    focus omega
    clear F a;intro a F
    refine Xv (k:=6) (i:=6) rfl F rfl (fun w=>rIx Tryz.underlying23 Tryz.sizeOf5 F rfl rfl ?_) H (fun _ _ _ h=>h) ?_
    focus (omega)
    clear F a;intro a F;refine Xw 7 rfl F rfl rfl (fun w H=>rLd Tryz.isAgg5 F rfl (H.by' 0 rfl)) H qq0 (Xu 8 rfl rfl (fun a F w=>rMv F rfl) H qq0 (Xu 9 rfl rfl (fun a F w=>rMv F rfl) H qq0 ?_));clear F a;intro a F
    refine Xv (k:=10) (i:=10) rfl F rfl (fun w=>rIx Tryz.underlying23 Tryz.sizeOf5 F rfl rfl ?_) H (fun _ _ _ h=>h) ?_
    focus (omega)
    clear F a;intro a F;refine Xw 11 rfl F rfl rfl (fun w H=>rLd Tryz.isAgg5 F rfl (H.by' 0 rfl)) H qq0 ?_;clear F a;intro a F;refine Xx (k:=12) (i:=12) rfl (by kernel_rfl) F (XS Tryz.call106 F rfl rfl (YE (e4 (a1 - 1)) (e4 p) _) ?_);rintro e w ⟨rfl,hb⟩;replace H:=H.grow hb;clear hb;refine ⟨_,rfl,?_⟩;clear F a;intro a F;refine XF (by kernel_rfl) H ?_;refine Xt 13 rfl F rfl (fun w=>NA F rfl) H qq0 (Xu 14 rfl rfl (fun a F w=>rPk F rfl rfl) H qq0 ?_);clear F a;intro a F;refine eNil (k:=15) (by kernel_rfl) ?_;refine hK19 _ _ ?_;clear hK19
    refine cIf F rfl (fun h87=>?_) (fun h87=>?_)
    ·
     replace h87:=ZA h87;refine cSR fun K20 hK20=>Xl F rfl (Xd rfl (Xd rfl (Xd rfl ?_)));clear F a;intro a F;refine Xn Tryz.call107 F rfl (LS g n c e4 a1 b1 p W row rs _ H (by omega) hn hp hp') ?_;rintro e w ⟨m5,e5,rfl,hs5,hm5,hm5',hf5,hg5,hg5',H2⟩
     replace H:=H2;clear H2
     refine ⟨_,rfl,?_⟩;clear F a;intro a F;refine Xa F rfl (qNK hK20 (qSR fun K21 hK21=>Xd rfl (Xh rfl (qNK hK21 ?_))));clear hK20 hK21;clear F a;intro a F;refine wp_exit ?_
     (have h87':¬ (e4 (a1 - 1)).toNat < (e4 p).toNat:=by simpa using h87
      have hle:=hq.eqs ha0 hp hp' h87' hs5 hf5 hg5
      exact ⟨_,by omega,_,⟨m5,b1,lim2,wb,wp,e5,rfl,rfl,hlim2,hq.goEq hs5 hm5 hm5' hle,hsm.up hs5 hq,H⟩,F.tt⟩)
    replace h87:=ZB h87;refine wp_skip (hK18 _ _ (cSR fun K22 hK22=>Xl F rfl (Xd rfl (Xd rfl (Xd rfl ?_)))));clear hK18;clear F a;intro a F;refine Xn Tryz.call108 F rfl (MX g n c e4 a1 b1 p W row rs _ H (by omega) hn hp hp') ?_;rintro e w ⟨m5,r5,e5,rfl,hs5,hpt5,H2⟩
    replace H:=H2;clear H2
    have hq5:=hq.same hs5
    have hsm5:=hsm.up hs5 hq
    have hm1:=hpt5.am
    have hm2:=hpt5.mb
    refine ⟨_,rfl,?_⟩;clear F a;intro a F;refine Xl F rfl (XB rfl rfl (XB rfl rfl (Xh rfl (Xh rfl (qNK hK22 (qSR fun K23 hK23=>Xd rfl (Xh rfl (qNK hK23 (qSR fun K24 hK24=>Xd rfl (Xd rfl ?_))))))))));clear hK22 hK23;clear F a;intro a F
    refine Xm F rfl rfl (Yp ?_ ?_) ?_
    focus omega
    focus omega
    clear F a;intro a F;refine Xl F rfl (Xd rfl ?_);clear F a;intro a F
    refine Xm F rfl rfl (Yp ?_ ?_) ?_
    focus omega
    focus omega
    clear F a;intro a F;refine Xa F rfl (Xh rfl (qNK hK24 (qSR fun K25 hK25=>Xd rfl ?_)));clear hK24;clear F a;intro a F
    refine Xm F rfl rfl (Nt (j:=8) ?_ ?_) ?_
    focus omega
    focus omega
    clear F a;intro a F;refine Xa F rfl (qNK hK25 (qSR fun K26 hK26=>Xd rfl (Xd rfl (Xj rfl rfl YW (qNK hK26 ?_)))));clear hK25 hK26;clear F a;intro a F
    refine cIf F rfl (fun h113=>?_) (fun h113=>?_)
    ·
     replace h113:=of_decide_eq_true h113;refine cSR fun K27 hK27=>Xl F rfl (Xd rfl (Xj rfl rfl Jc (Xh rfl (qNK hK27 (qSR fun K28 hK28=>Xd rfl (Xd rfl (Xd rfl (Xd rfl ?_))))))));clear hK27;clear F a;intro a F;refine Xn Tryz.call63 F rfl (ih (m5 - a1) (by omega) a1 m5 lim2 e5 _ (Nat.le_refl _) H (by omega) hm1 hlim2 (hq5.preL (by omega))) ?_;rintro e w ⟨rfl,e6,hs6,hr6,H2⟩
     replace H:=H2;clear H2
     refine ⟨_,rfl,?_⟩;clear F a;intro a F;refine nK hK28 (cReg (Xl F rfl ?_));clear hK28;clear F a;intro a F
     refine Xm F rfl rfl (XJ (j:=1) ?_) ?_
     focus omega
     clear F a;intro a F;refine Xa F rfl ?_;clear F a;intro a F;refine sNil ?_
     exact ⟨_,by omega,_,⟨m5+1,b1,lim2,_,_,e6,rfl,rfl,hlim2,hq5.goRight hpt5 hs6 hr6,hsm5.trans (hs6.mono (by omega) (by omega)),H⟩,F.tt⟩
    replace h113:=of_decide_eq_false h113;refine cSR fun K29 hK29=>Xl F rfl (Xd rfl (Xj rfl rfl Jc (Xh rfl (qNK hK29 (qSR fun K30 hK30=>Xd rfl (Xd rfl ?_))))));clear hK29;clear F a;intro a F
    refine Xm F rfl rfl (XJ (j:=1) ?_) ?_
    focus omega
    clear F a;intro a F;refine Xl F rfl (Xd rfl ?_);clear F a;intro a F;refine Xn Tryz.call63 F rfl (ih (b1 - (m5+1)) (by omega) (m5+1) b1 lim2 e5 _ (Nat.le_refl _) H (by omega) (by omega) hlim2 (.inr fun k h1 h2=>by rw [Nat.add_sub_cancel];exact hpt5.big k (by omega) h2)) ?_;rintro e w ⟨rfl,e6,hs6,hr6,H2⟩
    replace H:=H2;clear H2
    refine ⟨_,rfl,?_⟩;clear F a;intro a F;refine nK hK30 (cReg (Xl F rfl (Xh rfl ?_)));clear hK30;clear F a;intro a F;refine sNil ?_
    exact ⟨_,by omega,_,⟨a1,m5,lim2,_,_,e6,rfl,rfl,hlim2,hq5.goLeft hpt5 hs6 hr6,hsm5.trans (hs6.mono (by omega) (by omega)),H⟩,F.tt⟩
   replace h75:=of_decide_eq_false h75;refine eSF 3 rfl (by kernel_rfl) F rfl rfl rfl H qq0 (Xy 4 rfl rfl H qq0 (Xy 5 rfl rfl H qq0 (Xy 6 rfl rfl H qq0 (Xy 7 rfl rfl H qq0 (Xy 8 rfl rfl H qq0 (Xy 9 rfl rfl H qq0 (Xy 10 rfl rfl H qq0 (Xy 11 rfl rfl H qq0 (Xy 12 rfl rfl H qq0 (Xy 13 rfl rfl H qq0 (Xu 14 rfl rfl (fun a F w=>rPk F rfl rfl) H qq0 ?_)))))))))));clear F a;intro a F;refine eNil (k:=15) (by kernel_rfl) ?_;refine hK19 _ _ ?_;clear hK19;refine cIfF F rfl ?_;refine wp_skip (hK18 _ _ (cSR fun K31 hK31=>Xl F rfl (Xd rfl (Xd rfl (Xd rfl ?_)))));clear hK18;clear F a;intro a F;refine Xn Tryz.call108 F rfl (MX g n c e4 a1 b1 p W row rs _ H (by omega) hn hp hp') ?_;rintro e w ⟨m5,r5,e5,rfl,hs5,hpt5,H2⟩
   replace H:=H2;clear H2
   have hq5:=hq.same hs5
   have hsm5:=hsm.up hs5 hq
   have hm1:=hpt5.am
   have hm2:=hpt5.mb
   refine ⟨_,rfl,?_⟩;clear F a;intro a F;refine Xl F rfl (XB rfl rfl (XB rfl rfl (Xh rfl (Xh rfl (qNK hK31 (qSR fun K32 hK32=>Xd rfl (Xh rfl (qNK hK32 (qSR fun K33 hK33=>Xd rfl (Xd rfl ?_))))))))));clear hK31 hK32;clear F a;intro a F
   refine Xm F rfl rfl (Yp ?_ ?_) ?_
   focus omega
   focus omega
   clear F a;intro a F;refine Xl F rfl (Xd rfl ?_);clear F a;intro a F
   refine Xm F rfl rfl (Yp ?_ ?_) ?_
   focus omega
   focus omega
   clear F a;intro a F;refine Xa F rfl (Xh rfl (qNK hK33 (qSR fun K34 hK34=>Xd rfl ?_)));clear hK33;clear F a;intro a F
   refine Xm F rfl rfl (Nt (j:=8) ?_ ?_) ?_
   focus omega
   focus omega
   clear F a;intro a F;refine Xa F rfl (qNK hK34 (qSR fun K35 hK35=>Xd rfl (Xd rfl (Xj rfl rfl YW (qNK hK35 ?_)))));clear hK34 hK35;clear F a;intro a F
   refine cIf F rfl (fun h113=>?_) (fun h113=>?_)
   ·
    replace h113:=of_decide_eq_true h113;refine cSR fun K36 hK36=>Xl F rfl (Xd rfl (Xj rfl rfl Jc (Xh rfl (qNK hK36 (qSR fun K37 hK37=>Xd rfl (Xd rfl (Xd rfl (Xd rfl ?_))))))));clear hK36;clear F a;intro a F;refine Xn Tryz.call63 F rfl (ih (m5 - a1) (by omega) a1 m5 lim2 e5 _ (Nat.le_refl _) H (by omega) hm1 hlim2 (hq5.preL (by omega))) ?_;rintro e w ⟨rfl,e6,hs6,hr6,H2⟩
    replace H:=H2;clear H2
    refine ⟨_,rfl,?_⟩;clear F a;intro a F;refine nK hK37 (cReg (Xl F rfl ?_));clear hK37;clear F a;intro a F
    refine Xm F rfl rfl (XJ (j:=1) ?_) ?_
    focus omega
    clear F a;intro a F;refine Xa F rfl ?_;clear F a;intro a F;refine sNil ?_
    exact ⟨_,by omega,_,⟨m5+1,b1,lim2,_,_,e6,rfl,rfl,hlim2,hq5.goRight hpt5 hs6 hr6,hsm5.trans (hs6.mono (by omega) (by omega)),H⟩,F.tt⟩
   replace h113:=of_decide_eq_false h113;refine cSR fun K38 hK38=>Xl F rfl (Xd rfl (Xj rfl rfl Jc (Xh rfl (qNK hK38 (qSR fun K39 hK39=>Xd rfl (Xd rfl ?_))))));clear hK38;clear F a;intro a F
   refine Xm F rfl rfl (XJ (j:=1) ?_) ?_
   focus omega
   clear F a;intro a F;refine Xl F rfl (Xd rfl ?_);clear F a;intro a F;refine Xn Tryz.call63 F rfl (ih (b1 - (m5+1)) (by omega) (m5+1) b1 lim2 e5 _ (Nat.le_refl _) H (by omega) (by omega) hlim2 (.inr fun k h1 h2=>by rw [Nat.add_sub_cancel];exact hpt5.big k (by omega) h2)) ?_;rintro e w ⟨rfl,e6,hs6,hr6,H2⟩
   replace H:=H2;clear H2
   refine ⟨_,rfl,?_⟩;clear F a;intro a F;refine nK hK39 (cReg (Xl F rfl (Xh rfl ?_)));clear hK39;clear F a;intro a F;refine sNil ?_
   exact ⟨_,by omega,_,⟨a1,m5,lim2,_,_,e6,rfl,rfl,hlim2,hq5.goLeft hpt5 hs6 hr6,hsm5.trans (hs6.mono (by omega) (by omega)),H⟩,F.tt⟩
-- SoK
open Go.RowKit
set_option maxRecDepth 100000
theorem Q0 (A:Option Addr) (c:Nat) (w0:World):Calls Tryz.prog 100 #[.slice A 0 c,.int .i64 0,.int .i64 0] w0 fun e w'=>e = .returned (.tuple #[])∧Below w0.heap.size w0 w':=by
 have H:=Own.start w0 none
 refine XE Tryz.func100 rfl Tryz.ntmps100 rfl (fun a F=>?_);refine cSR fun K1 hK1=>Xl F rfl ?_;clear F a;intro a F
 refine Xm F rfl rfl (Z9 ?_) ?_
 focus omega
 clear F a;intro a F;refine Xa F rfl (qNK hK1 ?_);clear hK1;clear F a;intro a F;refine wp_block ?_
 refine cLoopS [0,1,2] (fun m ups w=>m=0∧ups=[(6,.int .i64 1)]∧Own w0 none w []) F (0) [(6,.int .i64 1)] ?_ ?_
 · exact ⟨rfl,rfl,H⟩
 clear F
 clear H
 intro m ups a w hI F
 obtain ⟨rfl,rfl,H⟩:=hI
 refine cSeq (fun K2 hK2=>?_);refine cSR fun K3 hK3=>Xl F rfl (Xd rfl (Xj rfl rfl YW (qNK hK3 ?_)));clear hK3;clear F a;intro a F
 refine cIf F rfl (fun h12=>?_) (fun h12=>?_)
 ·
  replace h12:=of_decide_eq_true h12
  omega
 replace h12:=of_decide_eq_false h12;refine wp_exit ?_
 (simp only [Exit.then,Exit.inBlock,if_true];(repeat (first | rw [if_pos rfl] | rw [if_neg (by decide)]));refine bEnd Tryz.results100 F ?_)
 exact ⟨rfl,H.below⟩
theorem Cp (A:Option Addr) (c:Nat) (v:Int) (w0:World):Calls Tryz.prog 63 #[.slice A 0 c,.int .i64 0,.int .i64 0,.int .i64 v] w0 fun e w'=>e = .returned (.tuple #[])∧Below w0.heap.size w0 w':=by
 have H:=Own.start w0 none
 refine XE Tryz.func63 rfl Tryz.ntmps63 rfl (fun a F=>?_);refine cSR fun K1 hK1=>Xa F rfl (qNK hK1 (qSR fun K2 hK2=>Xh rfl (qNK hK2 ?_)));clear hK1 hK2;clear F a;intro a F;refine wp_block ?_
 refine cLoopS [0] (fun m ups w=>m=0∧ups=[(1,.int .i64 0),(2,.int .i64 0),(3,.int .i64 v),(8,.bool true),(9,.bool true)]∧Own w0 none w []) F (0) [(1,.int .i64 0),(2,.int .i64 0),(3,.int .i64 v),(8,.bool true),(9,.bool true)] ?_ ?_
 · exact ⟨rfl,rfl,H⟩
 clear F
 clear H
 intro m ups a w hI F
 obtain ⟨rfl,rfl,H⟩:=hI
 refine wp_block ?_;refine cSR fun K3 hK3=>Xl F rfl (Xd rfl ?_);clear F a;intro a F
 refine Xm F rfl rfl (Ns ?_) ?_
 focus omega
 clear F a;intro a F;refine Xa F rfl (qNK hK3 ?_);clear hK3;clear F a;intro a F;refine cSeq (fun K4 hK4=>?_);refine cSR fun K5 hK5=>Xl F rfl (Xj rfl rfl GZ (qNK hK5 ?_));clear hK5;clear F a;intro a F
 refine cIf F rfl (fun h23=>?_) (fun h23=>?_)
 ·
  replace h23:=of_decide_eq_true h23;refine cSR fun K6 hK6=>Xl F rfl (Xd rfl (Xd rfl ?_));clear F a;intro a F;refine Xn Tryz.call100 F rfl (Q0 A c _) (gG H ?_);clear F a H;intro a w F H;refine nK hK6 ?_;clear hK6;refine wp_ret ?_;refine xI ?_;refine Nv Tryz.results63 F ?_
  exact ⟨rfl,H.below⟩
 replace h23:=of_decide_eq_false h23
 omega
theorem EQ (A:Option Addr) (c:Nat) (w0:World):Calls Tryz.prog 38 #[.slice A 0 c] w0 fun e w'=>e = .returned (.tuple #[])∧Below w0.heap.size w0 w':=by
 have H:=Own.start w0 none
 refine XE Tryz.func38 rfl Tryz.ntmps38 rfl (fun a F=>?_);refine cSR fun K1 hK1=>Xl F rfl (Xs Tryz.underlying23 rfl (Xh rfl (qNK hK1 (WN (Xd rfl (Xd rfl (Xd rfl (qCv Tryz.underlying3 Tryz.underlying132 rfl rfl rfl (ND (by omega)) ?_))))))));clear hK1;clear F a;intro a F;refine Xn Tryz.call64 F rfl (J7 0 _ (by omega)) ?_;rintro e w ⟨r,rfl,_,_,hb⟩;replace H:=H.grow hb;clear hb;refine ⟨_,rfl,?_⟩;clear F a;intro a F;refine Xn Tryz.call63 F rfl (Cp A c _ _) (gG H ?_);clear F a H;intro a w F H;refine sNil ?_;refine bEnd Tryz.results38 F ?_
 exact ⟨rfl,H.below⟩
theorem EP (g n c:Nat) (d:By) (W:World) (row:Option Nat) (rs:List Res) (w0:World) (H:Own W row w0 (.byt g n c d :: rs)) (hn:n≤1000000) :
   Calls Tryz.prog 38 #[.slice (some ⟨g,0,none⟩) n c] w0 fun e w'=>e = .returned (.tuple #[])∧∃ d',Sm 0 n d d'∧Srt 0 n d'∧Own W row w' (.byt g n c d' :: rs):=by
 refine XE Tryz.func38 rfl Tryz.ntmps38 rfl (fun a F=>?_);refine cSR fun K1 hK1=>Xl F rfl (Xs Tryz.underlying23 rfl (Xh rfl (qNK hK1 (WN (Xd rfl (Xd rfl (Xd rfl (qCv Tryz.underlying3 Tryz.underlying132 rfl rfl rfl (ND (by omega)) ?_))))))));clear hK1;clear F a;intro a F;refine Xn Tryz.call64 F rfl (J7 n _ (by omega)) ?_;rintro e w ⟨r,rfl,_,hr,hb⟩;replace H:=H.grow hb;clear hb;refine ⟨_,rfl,?_⟩;clear F a;intro a F;refine Xn Tryz.call63 F rfl (Xbc g n c hn W row rs n 0 n r d _ (by omega) H (Nat.le_refl _) (Nat.zero_le _) (by omega) (.inl rfl)) ?_;rintro e w ⟨rfl,e9,hs9,hr9,H2⟩
 replace H:=H2;clear H2
 refine ⟨_,rfl,?_⟩;clear F a;intro a F;refine sNil ?_;refine bEnd Tryz.results38 F ?_
 exact ⟨rfl,e9,hs9,hr9,H⟩
-- SoL
open Go.Proofs.Tryz
open Go.RowKit
set_option maxRecDepth 100000
theorem G5 (z:Array Value) (n:Nat):(Builtin.zeroCells z n).size=n * z.size:=by simp [Builtin.zeroCells]
theorem Xcf {w0 w:World} {row:Option Nat} {rs:List Res} {e:TypeId} {sz n c g:Nat} {rows:List (List Value)} (H:Own w0 row w rs) (i:Nat) (hi:rs[i]? = some (.rws e sz (.slice (some ⟨g,0,none⟩) n c) rows)) :
   ∃ cur:List Value,n=rows.length∧n≤c∧c≤maxLen∧cur.length=c * sz∧cur.take (n * sz)=rows.flatten∧rows.flatten.length=n * sz∧Own w0 row w (rs.set i (.blk g cur e)):=by
 have h:w.ownsRow 0 e sz (.slice (some ⟨g,0,none⟩) n c) rows.length rows.flatten:=H.pred i _ hi
 have hf:=H.foot i _ hi g rfl
 obtain ⟨h0,⟨h1,_⟩ | ⟨g',cap,cur,h1,_,h2,h3,h4,h5,h6⟩⟩:=h
 · cases h1
 · obtain ⟨⟨rfl⟩,hn,rfl⟩:(g=g')∧n=rows.length∧c=cap:=by
     simp only [Value.slice.injEq,Option.some.injEq,Addr.mk.injEq] at h1
     exact ⟨h1.1.1,h1.2.1,h1.2.2⟩
   subst hn
   refine ⟨cur.toList,rfl,h3,h4,by simpa using h5,h6,h0,H.turn i hi _ H.grown (Nat.le_refl _) (fun _ _ _=>rfl) (by show Blk w g cur.toList e;unfold Blk;simpa using h2) (fun b hb=>?_)⟩
   have hb:b=g:=hb
   subst hb
   exact ⟨.inl rfl,hf.2⟩
theorem XcT {w0 w:World} {row:Option Nat} {rs:List Res} {e:TypeId} {sz n c g:Nat} {cur:List Value} {rows:List (List Value)} (H:Own w0 row w rs) (i:Nat) (hi:rs[i]? = some (.blk g cur e)) (hn:n=rows.length) (hc:n≤c) (hm:c≤maxLen) (hl:cur.length=c * sz) (ht:cur.take (n * sz)=rows.flatten) (hf:rows.flatten.length=n * sz) :
   Own w0 row w (rs.set i (.rws e sz (.slice (some ⟨g,0,none⟩) n c) rows)):=by
 have hB:=H.blk i hi
 subst hn;refine H.turn i hi _ H.grown (Nat.le_refl _) (fun _ _ _=>rfl) ⟨hf,.inr ⟨g,c,cur.toArray,rfl,Nat.zero_le _,hB,hc,hm,by simpa using hl,by simpa using ht⟩⟩ (fun b hb=>?_)
 have hb:Value.ownBlock (.slice (some ⟨g,0,none⟩) rows.length c)=some b:=hb
 simp only [Value.ownBlock,Option.some.injEq] at hb
 subst hb
 exact ⟨.inl rfl,(H.foot i _ hi g rfl).2⟩
theorem Js:∀ (vs cs:List Value) (o:Nat),(Ya cs o vs).length=cs.length
 | [],_,_=>rfl
 | v :: r,cs,o=>by rw [Ya,Js r,List.length_set]
theorem Jr:∀ (vs cs:List Value) (o m:Nat),m≤o→(Ya cs o vs).take m=cs.take m
 | [],_,_,_,_=>rfl
 | v :: r,cs,o,m,h=>by
   rw [Ya,Jr r _ _ _ (by omega),List.take_set]
   exact List.set_eq_of_length_le (by rw [List.length_take];omega)
theorem QE {sz:Nat}:∀ (rows:List (List Value)),(∀ r ∈ rows,r.length=sz)→∀ k,k≤rows.length→(rows.take k).flatten=rows.flatten.take (k * sz)
 | [],_,k,hk=>by
   have:k=0:=by simpa using hk
   subst this;simp
 | r0 :: rest,hr,0,_=>by simp
 | r0 :: rest,hr,k+1,hk=>by
   have h0:r0.length=sz:=hr r0 (by simp)
   rw [List.take_succ_cons,List.flatten_cons,List.flatten_cons,QE rest (fun r hm=>hr r (by simp [hm])) k (by simpa using hk),List.take_append,List.take_of_length_le (l:=r0) (by rw [h0,Nat.add_mul];omega),h0]
   congr 2
   rw [Nat.add_mul];omega
section
variable {P:Program} {l:List Oper} {Q:Exit→Act→World→Prop} {N:Nat} {a:Act} {env:List (Nat × Value)} {rest:List Oper} {d:Tmp} {ty:TypeId} {pos:String} {af:Array Edge} {g:Option (Nat × Bool)} {w0 w:World} {row:Option Nat} {rs:List Res}
theorem stepN {o:Oper} {v:Value} {w':World} (F:Has N a env) (hg:wants l env o.guard=true) (hd:o.dst=none)
   (hr:(execOp a.eval o).run P w = .ok (.value v) w') (K:wpList P l.toArray Q rest a w'):wpList P l.toArray Q (o :: rest) a w:=by
 unfold wpList
 rw [if_pos (YJ F hg)];refine .inl ?_
 unfold Oper.wp
 rw [hr,Oper.upon_value,hd]
 exact K
theorem sClrG {t e:TypeId} {x:Operand} {z:Array Value} {sz n c gb o k m c':Nat} {rows:List (List Value)} (H:Own w0 row w rs) (i:Nat) (ht:P.underlying t=some (.slice e)) (hz:∀ w,(zeroValue e).run P w = .ok (.int .u8 0) w) (hzc:z = #[.int .u8 0]) (hzs:z.size=sz) (hz1:z.toList.all (·.oneCell')=true) (F:Has N a env) (hg:wants l env g=true)
   (hx:ev env x=some (.slice (some ⟨gb,o,none⟩) m c')) (hi:rs[i]? = some (.rws e sz (.slice (some ⟨gb,0,none⟩) n c) rows)) (ho:o=k * sz) (hm:k+m=n) (hr:∀ r ∈ rows,r.length=sz)
   (K:∀ w,Own w0 row w (rs.set i (.rws e sz (.slice (some ⟨gb,0,none⟩) k c) (rows.take k)))→wpList P l.toArray Q rest a w):wpList P l.toArray Q (⟨none,.call ⟨.builtin .clear,#[x],#[t]⟩,ty,pos,af,g⟩ :: rest) a w:=by
 subst ho
 obtain ⟨cur,hn,hnc,hmx,hl,htk,hf,H2⟩:=Xcf H i hi
 have hi2:(rs.set i (.blk gb cur e))[i]? = some (.blk gb cur e):=by
   rw [List.getElem?_set,if_pos rfl,if_pos (List.getElem?_eq_some_iff.1 hi).1]
 have hzl:(Builtin.zeroCells z m).toList.length=m * sz:=by rw [Array.length_toList,G5,hzs]
 have hb:k * sz+m * sz=n * sz:=by rw [← Nat.add_mul,hm]
 have hb2:n * sz≤c * sz:=Nat.mul_le_mul_right _ hnc
 have hones:∀ v ∈ (Builtin.zeroCells z m).toList,v.oneCell'=true:=fun v hv=>by
   unfold Builtin.zeroCells at hv
   rw [Array.toList_map] at hv
   obtain ⟨q,hq,rfl⟩:=List.mem_map.1 hv
   have hq:q < m * z.size:=by simpa using hq
   have hp:0 < z.size:=by
     rcases Nat.eq_zero_or_pos z.size with h | h
     · rw [h] at hq;simp at hq
     · exact h
   have hlt:q % z.size < z.size:=Nat.mod_lt _ hp
   rw [getElem!_pos z _ hlt]
   exact List.all_eq_true.1 hz1 _ (Array.getElem_mem_toList hlt)
 have H3:=Own.setCells i (Builtin.zeroCells z m).toList (k * sz) w _ cur H2 hi2
 rw [List.set_set] at H3
 have hi3:(rs.set i (.blk gb (Ya cur (k * sz) (Builtin.zeroCells z m).toList) e))[i]? = some (.blk gb (Ya cur (k * sz) (Builtin.zeroCells z m).toList) e):=by
   rw [List.getElem?_set,if_pos rfl,if_pos (List.getElem?_eq_some_iff.1 hi).1]
 have hkt:(rows.take k).flatten=rows.flatten.take (k * sz):=QE rows hr k (by omega)
 have H4:=XcT (sz:=sz) (n:=k) (c:=c) (rows:=rows.take k) H3 i hi3 (by rw [List.length_take];omega) (by omega) hmx (by rw [Js];exact hl) (by rw [Jr _ _ _ _ (Nat.le_refl _),hkt,← htk,List.take_take,Nat.min_eq_left (by omega)]) (by rw [hkt,List.length_take,hf];omega)
 rw [List.set_set] at H4
 refine stepN (v:=.tuple #[]) F hg rfl (w':=w.setCells gb (k * sz) (Builtin.zeroCells z m).toList) ?_ (K _ H4)
 have hth:=H2.there i hi2 (k * sz) (m * sz) (Nat.ble_eq_true_of_le (by omega))
 have hst:=run_storeCells_cells (P:=P) gb (k * sz) (Builtin.zeroCells z m).toList 0 w (fun q hq=>by rw [Nat.add_zero];exact (hth q (by omega)).1) (fun q hq=>by rw [Nat.add_zero];exact (hth q (by omega)).2) hones
 rw [Nat.add_zero] at hst
 simp only [execOp,resolve,List.map_toArray,List.map_cons,List.map_nil,F.eval hx]
 cases m with
 | zero=>
   have e0:w.setCells gb (k * sz) (Builtin.zeroCells z 0).toList=w:=by
     have:(Builtin.zeroCells z 0).toList=[]:=List.eq_nil_of_length_eq_zero (by rw [hzl];omega)
     rw [this];rfl
   rw [e0]
   simp [invoke,builtin,Builtin.clear_,run_underlying ht,go_sem]
 | succ m=>
   subst hzc
   simp [invoke,builtin,Builtin.clear_,run_underlying ht,hz,hst,go_sem]
theorem LG {m k:Nat} (d:By) (h:k≤m):(VX m d).take k=VX k d:=by
 refine List.ext_getElem? fun i=>?_
 rw [List.getElem?_take]
 rcases Nat.lt_or_ge i k with h1 | h1
 · rw [if_pos h1,Z1 _ h1,Z1 _ (by omega)]
 · rw [if_neg (by omega),List.getElem?_eq_none (by rw [WQ];exact h1)]
theorem sClr8 {t:TypeId} {x:Operand} {n c gb k m c':Nat} {s:By} (H:Own w0 row w rs) (i:Nat) (ht:P.underlying t=some (.slice 5)) (hz:∀ w,(zeroValue 5).run P w = .ok (.int .u8 0) w) (F:Has N a env) (hg:wants l env g=true)
   (hx:ev env x=some (.slice (some ⟨gb,0+k * 1,none⟩) m c')) (hi:rs[i]? = some (.byt gb n c s)) (hm:k+m=n)
   (K:∀ w,Own w0 row w (rs.set i (.byt gb k c s))→wpList P l.toArray Q rest a w):wpList P l.toArray Q (⟨none,.call ⟨.builtin .clear,#[x],#[t]⟩,ty,pos,af,g⟩ :: rest) a w:=by
 refine sClrG (z:=#[.int .u8 0]) (sz:=1) (k:=k) H i ht hz rfl rfl rfl F hg hx hi (by omega) hm (VW n s) fun w h=>K w ?_
 rw [LG s (by omega)] at h
 exact h
end
def Inc (k:Nat) (d:By):Prop:=∀ i,i+1 < k→(d i).toNat < (d (i+1)).toNat
def Alk (k:Nat) (d:By) (n:Nat) (e:By):Prop:=(∀ i,i < k→∃ j,j < n∧d i=e j)∧∀ j,j < n→∃ i,i < k∧d i=e j
structure CmpI (n k q kk:Nat) (d arr:By):Prop where
 q1:1≤q
 le:k+q≤n
 k1:1≤kk
 kq:kk+1≤k+q
 inc:Inc kk arr
 alk:Alk kk arr (k+q) d
 last:arr (kk - 1)=d (k+q - 1)
 out:∀ i,k+q - 1≤i→arr i=d i
theorem CmpI.start {n k:Nat} {d:By} (h1:1≤k) (hk:k < n) (hi:Inc k d) (he:d k=d (k - 1)):CmpI n k 1 k d d:=by
 refine ⟨Nat.le_refl _,hk,h1,Nat.le_refl _,hi,⟨fun i h=>⟨i,by omega,rfl⟩,fun j h=>?_⟩,by rw [Nat.add_sub_cancel];exact he.symm,fun _ _=>rfl⟩
 by_cases e:j=k
 · exact ⟨k - 1,by omega,by rw [e];exact he.symm⟩
 · exact ⟨j,by omega,rfl⟩
theorem CmpI.eq {n k q kk:Nat} {d arr:By} (h:CmpI n k q kk d arr) (hl:k+q < n) (he:d (k+q)=d (k+q - 1)):CmpI n k (q+1) kk d arr:=by
 have h1:=h.q1
 refine ⟨by omega,by omega,h.k1,by have:=h.kq;omega,h.inc,⟨fun i hi=>?_,fun j hj=>?_⟩,?_,fun i hi=>h.out i (by omega)⟩
 · obtain ⟨j,h2,h3⟩:=h.alk.1 i hi
   exact ⟨j,by omega,h3⟩
 · by_cases e:j=k+q
   · obtain ⟨i,h2,h3⟩:=h.alk.2 (k+q - 1) (by omega)
     exact ⟨i,h2,by rw [e,he];exact h3⟩
   · exact h.alk.2 j (by omega)
 · rw [h.last,show k+(q+1) - 1=k+q by omega,he]
theorem CmpI.ne {n k q kk:Nat} {d arr:By} (h:CmpI n k q kk d arr) (hl:k+q < n) (hs:Srt 0 n d) (he:d (k+q) ≠ d (k+q - 1)):CmpI n k (q+1) (kk+1) d (put arr kk (d (k+q))):=by
 have h1:=h.q1
 have h2:=h.k1
 have h3:=h.kq
 have hlt:(d (k+q - 1)).toNat < (d (k+q)).toNat:=by
   have:=hs (k+q - 1) (Nat.zero_le _) (by omega)
   rw [show k+q - 1+1=k+q by omega] at this
   rcases Nat.lt_or_ge (d (k+q - 1)).toNat (d (k+q)).toNat with h4 | h4
   · exact h4
   · exact absurd (UInt8.toNat_inj.1 (by omega)) he
 have pl:∀ i,i < kk→put arr kk (d (k+q)) i=arr i:=fun i hi=>by unfold put;rw [if_neg (by omega)]
 have pk:put arr kk (d (k+q)) kk=d (k+q):=by unfold put;rw [if_pos rfl]
 refine ⟨by omega,by omega,by omega,by omega,fun i hi=>?_,⟨fun i hi=>?_,fun j hj=>?_⟩,?_,fun i hi=>?_⟩
 · by_cases e:i+1=kk
   · rw [pl i (by omega),e,pk,show i=kk - 1 by omega,h.last];exact hlt
   · rw [pl i (by omega),pl (i+1) (by omega)];exact h.inc i (by omega)
 · by_cases e:i=kk
   · exact ⟨k+q,by omega,by rw [e,pk]⟩
   · obtain ⟨j,h4,h5⟩:=h.alk.1 i (by omega)
     exact ⟨j,by omega,by rw [pl i (by omega)];exact h5⟩
 · by_cases e:j=k+q
   · exact ⟨kk,by omega,by rw [pk,e]⟩
   · obtain ⟨i,h4,h5⟩:=h.alk.2 j (by omega)
     exact ⟨i,by omega,by rw [pl i h4];exact h5⟩
 · rw [Nat.add_sub_cancel,pk,show k+(q+1) - 1=k+q by omega]
 · unfold put
   rw [if_neg (by omega)]
   exact h.out i (by omega)
set_option maxHeartbeats 2000000 in
theorem Na (g n c:Nat) (d:By) (W:World) (row:Option Nat) (rs:List Res) (w0:World) (H:Own W row w0 (.byt g n c d :: rs)) (hn:n≤1000000) (h0:0 < n) (hs:Srt 0 n d) :
   Calls Tryz.prog 39 #[.slice (some ⟨g,0,none⟩) n c] w0 fun e w'=>∃ (k:Nat) (d':By),e = .returned (.slice (some ⟨g,0,none⟩) k c)∧0 < k∧k≤n∧Inc k d'∧Alk k d' n d∧Own W row w' (.byt g k c d' :: rs):=by
 have hnc:=(H.rwsLen 0 rfl).2.1
 have hcm:=(H.rwsLen 0 rfl).2.2
 unfold maxLen at hcm
 refine XE func39 rfl ntmps39 rfl (fun a F=>?_);refine cSR fun K1 hK1=>Xa F rfl (qNK hK1 ?_);clear hK1;clear F a;intro a F;refine cSeq (fun K2 hK2=>?_);refine cSR fun K3 hK3=>Xl F rfl (Xs underlying23 rfl (Xj rfl rfl YW (qNK hK3 ?_)));clear hK3;clear F a;intro a F
 refine cIf F rfl (fun h8=>?_) (fun h8=>?_)
 ·
  replace h8:=of_decide_eq_true h8;refine cSR fun K4 hK4=>Xl F rfl (Xh rfl (qNK hK4 ?_));clear hK4;clear F a;intro a F;refine wp_ret ?_;simp only [Exit.then];refine bRet results39 F rfl ?_
  exact ⟨n,d,rfl,h0,Nat.le_refl _,fun i h=>(by omega),⟨fun i h=>⟨i,h,rfl⟩,fun j h=>⟨j,h,rfl⟩⟩,H⟩
 replace h8:=of_decide_eq_false h8;refine wp_skip (hK2 _ _ ?_);clear hK2;refine cSeq (fun K5 hK5=>?_);refine cSR fun K6 hK6=>Xa F rfl (qNK hK6 ?_);clear hK6;clear F a;intro a F;refine wp_block ?_
 refine cLoopS [0] (fun m ups w=>∃ (k:Nat),m=n - k∧ups=[(3,.int .i64 ((k:Nat):Int))]∧1≤k∧k≤n∧Inc k d∧Own W row w (.byt g n c d :: rs)) F (n - 1) [(3,.int .i64 ((1:Nat):Int))] ?_ ?_
 · exact ⟨1,rfl,rfl,Nat.le_refl _,by omega,fun i h=>(by omega),H⟩
 clear F
 clear H
 intro m ups a w hI F
 obtain ⟨k,rfl,rfl,hk1,hkn,hinc,H⟩:=hI
 refine cSeq (fun K7 hK7=>?_);refine cSR fun K8 hK8=>Xl F rfl (Xd rfl (Xs underlying23 rfl (Xj rfl rfl YW (qNK hK8 ?_))));clear hK8;clear F a;intro a F
 refine cIf F rfl (fun h13=>?_) (fun h13=>?_)
 ·
  replace h13:=of_decide_eq_true h13;refine wp_skip (hK7 _ _ ?_);clear hK7;refine cSeq (fun K9 hK9=>?_);refine wp_block ?_;refine cSeq (fun K10 hK10=>?_);refine cRegRO (by kernel_rfl) H ?_;replace H:=H.drew;refine Xt 0 rfl F rfl (fun w=>rMv F rfl) H qq0 (Xu 1 rfl rfl (fun a F w=>rMv F rfl) H qq0 ?_);clear F a;intro a F
  refine Xv (k:=2) (i:=2) rfl F rfl (fun w=>rIx underlying23 sizeOf5 F rfl rfl ?_) H (fun _ _ _ h=>h) ?_
  focus (omega)
  clear F a;intro a F;refine Xw 3 rfl F rfl rfl (fun w H=>rLd isAgg5 F rfl (H.by' 0 rfl)) H qq0 (Xu 4 rfl rfl (fun a F w=>rMv F rfl) H qq0 (Xu 5 rfl rfl (fun a F w=>rMv F rfl) H qq0 ?_));clear F a;intro a F
  refine Xv (k:=6) (i:=6) rfl F rfl (fun w=>YA F rfl rfl (Yp (j:=1) ?_ ?_)) H (fun _ _ _ h=>h) ?_
  focus omega
  focus omega
  clear F a;intro a F
  refine Xv (k:=7) (i:=7) rfl F rfl (fun w=>rIx underlying23 sizeOf5 F rfl rfl ?_) H (fun _ _ _ h=>h) ?_
  focus (omega)
  clear F a;intro a F;refine Xw 8 rfl F rfl rfl (fun w H=>rLd isAgg5 F rfl (H.by' 0 rfl)) H qq0 (Xu 9 rfl rfl (fun a F w=>YA F rfl rfl XZ) H qq0 ?_);clear F a;intro a F;refine eNil (k:=10) (by kernel_rfl) ?_;refine hK10 _ _ ?_;clear hK10
  refine cIf F rfl (fun h25=>?_) (fun h25=>?_)
  ·
   replace h25:=Yh h25;refine cSR fun K11 hK11=>Xl F rfl (Xd rfl ?_);clear F a;intro a F
   refine sSlL underlying23 sizeOf5 F rfl rfl rfl rfl ?_ ?_ ?_
   focus (omega)
   focus (omega)
   clear F a;intro a F;refine Xa F rfl (qNK hK11 ?_);clear hK11;clear F a;intro a F;refine cSeq (fun K12 hK12=>?_);refine cSR fun K13 hK13=>Xa F rfl (qNK hK13 ?_);clear hK13;clear F a;intro a F;refine wp_block ?_
   refine cLoopS [0,4] (fun m ups w=>∃ (q kk:Nat) (arr:By),m=n - (k+q)∧ups=[(3,.int .i64 ((kk:Nat):Int)),(5,.int .i64 ((q:Nat):Int))]∧CmpI n k q kk d arr∧Own W row w (.byt g n c arr :: rs)) F (n - (k+1)) [(3,.int .i64 ((k:Nat):Int)),(5,.int .i64 ((1:Nat):Int))] ?_ ?_
   · exact ⟨1,k,d,rfl,rfl,CmpI.start hk1 (by omega) hinc h25,H⟩
   clear F
   clear H
   intro m ups a w hI F
   obtain ⟨q,kk,arr,rfl,rfl,hc,H⟩:=hI;have c1:=hc.q1;have c2:=hc.le;have c3:=hc.k1;have c4:=hc.kq
   refine cSeq (fun K14 hK14=>?_);refine cSR fun K15 hK15=>Xl F rfl (Xd rfl (Xs underlying23 rfl (Xj rfl rfl YW (qNK hK15 ?_))));clear hK15;clear F a;intro a F
   refine cIf F rfl (fun h32=>?_) (fun h32=>?_)
   ·
    replace h32:=of_decide_eq_true h32;refine wp_skip (hK14 _ _ ?_);clear hK14;refine cSeq (fun K16 hK16=>?_);refine wp_block ?_;refine cSeq (fun K17 hK17=>?_);refine cRegRO (by kernel_rfl) H ?_;replace H:=H.drew;refine Xt 0 rfl F rfl (fun w=>rMv F rfl) H qq0 (Xu 1 rfl rfl (fun a F w=>rMv F rfl) H qq0 ?_);clear F a;intro a F
    refine Xv (k:=2) (i:=2) rfl F rfl (fun w=>rIx underlying23 sizeOf5 F rfl rfl ?_) H (fun _ _ _ h=>h) ?_
    focus omega
    clear F a;intro a F;refine Xw 3 rfl F rfl rfl (fun w H=>rLd isAgg5 F rfl (by rw [show 0+k * 1+q * 1=0+(k+q) * 1 by omega];exact H.by' 0 rfl)) H qq0 (Xu 4 rfl rfl (fun a F w=>rMv F rfl) H qq0 (Xu 5 rfl rfl (fun a F w=>rMv F rfl) H qq0 ?_));clear F a;intro a F
    refine Xv (k:=6) (i:=6) rfl F rfl (fun w=>YA F rfl rfl (Yp (j:=1) ?_ ?_)) H (fun _ _ _ h=>h) ?_
    focus omega
    focus omega
    clear F a;intro a F
    refine Xv (k:=7) (i:=7) rfl F rfl (fun w=>rIx underlying23 sizeOf5 F rfl rfl ?_) H (fun _ _ _ h=>h) ?_
    focus omega
    clear F a;intro a F;refine Xw 8 rfl F rfl rfl (fun w H=>rLd isAgg5 F rfl (by rw [show 0+k * 1+(q - 1) * 1=0+(k+q - 1) * 1 by omega];exact H.by' 0 rfl)) H qq0 (Xu 9 rfl rfl (fun a F w=>YA F rfl rfl En) H qq0 ?_);clear F a;intro a F;refine eNil (k:=10) (by kernel_rfl) ?_;refine hK17 _ _ ?_;clear hK17
    refine cIf F rfl (fun h44=>?_) (fun h44=>?_)
    ·
     replace h44:=UL h44;refine cSR fun K18 hK18=>Xl F rfl (Xd rfl (Xd rfl (Xd rfl ?_)));clear F a;intro a F
     refine sIx underlying23 sizeOf5 F rfl rfl rfl rfl ?_ ?_
     focus omega
     clear F a;intro a F;refine sLd isAgg5 F rfl rfl rfl (by rw [show 0+k * 1+q * 1=0+(k+q) * 1 by omega];exact H.by' 0 rfl) ?_;clear F a;intro a F
     refine sIx underlying23 sizeOf5 F rfl rfl rfl rfl ?_ ?_
     focus omega
     clear F a;intro a F;refine sStY H 0 sizeOf5 F rfl rfl rfl rfl (by omega) ?_;clear H;intro w H;refine nK hK18 (cReg (Xl F rfl ?_));clear hK18;clear F a;intro a F
     refine Xm F rfl rfl (XJ (j:=1) ?_) ?_
     focus omega
     clear F a;intro a F;refine Xa F rfl (qNK hK16 (WN (Xd rfl ?_)));clear hK16;clear F a;intro a F
     refine Xm F rfl rfl (XJ (j:=1) ?_) ?_
     focus omega
     clear F a;intro a F;refine Xa F rfl ?_;clear F a;intro a F;refine sNil ?_
     have e1:arr (k+q)=d (k+q):=hc.out _ (by omega)
     have e2:arr (k+q - 1)=d (k+q - 1):=hc.out _ (by omega)
     rw [e1,e2] at h44
     (rw [e1] at H
      exact ⟨_,by omega,_,⟨q+1,kk+1,_,rfl,rfl,hc.ne (by omega) hs h44,H⟩,F.tt⟩)
    replace h44:=UM h44;refine wp_skip (hK16 _ _ (cReg (Xl F rfl ?_)));clear hK16;clear F a;intro a F
    refine Xm F rfl rfl (XJ (j:=1) ?_) ?_
    focus omega
    clear F a;intro a F;refine Xa F rfl ?_;clear F a;intro a F;refine sNil ?_
    have e1:arr (k+q)=d (k+q):=hc.out _ (by omega)
    have e2:arr (k+q - 1)=d (k+q - 1):=hc.out _ (by omega)
    rw [e1,e2] at h44
    exact ⟨_,by omega,_,⟨q+1,kk,_,rfl,rfl,hc.eq (by omega) h44,H⟩,F.tt⟩
   replace h32:=of_decide_eq_false h32
   have hq:k+q=n:=by omega
   refine wp_exit ?_;refine hK12 _ _ (cSR fun K19 hK19=>Xl F rfl (Xd rfl ?_));clear hK12;clear F a;intro a F
   refine sSlL underlying23 sizeOf5 F rfl rfl rfl rfl ?_ ?_ ?_
   focus (omega)
   focus (omega)
   clear F a;intro a F;refine sClr8 (k:=kk) (m:=n - kk) H 0 underlying23 zeroValue5 F rfl rfl rfl (by omega) ?_;clear H;intro w H;refine nK hK19 (cSR fun K20 hK20=>Xl F rfl (Xd rfl ?_));clear hK19;clear F a;intro a F
   refine sSlH underlying23 (fun w=>⟨_,sizeOf5 w⟩) F rfl rfl rfl rfl ?_ ?_
   focus (omega)
   clear F a;intro a F;refine Xa F rfl (qNK hK20 ?_);clear hK20;clear F a;intro a F;refine wp_ret ?_;refine xI ?_;refine bRet results39 F rfl ?_
   exact ⟨kk,arr,rfl,by omega,by omega,hc.inc,by rw [← hq];exact hc.alk,H⟩
  replace h25:=Yi h25;refine wp_skip (hK9 _ _ (cReg (Xl F rfl ?_)));clear hK9;clear F a;intro a F
  refine Xm F rfl rfl (XJ (j:=1) ?_) ?_
  focus omega
  clear F a;intro a F;refine Xa F rfl ?_;clear F a;intro a F;refine sNil ?_
  have hlt:(d (k - 1)).toNat < (d k).toNat:=by
    have h1:=hs (k - 1) (Nat.zero_le _) (by omega)
    rw [show k - 1+1=k by omega] at h1
    rcases Nat.lt_or_ge (d (k - 1)).toNat (d k).toNat with h4 | h4
    · exact h4
    · exact absurd (UInt8.toNat_inj.1 (by omega)) h25
  exact ⟨_,by omega,_,⟨k+1,rfl,rfl,by omega,by omega,fun i hi=>by
    by_cases e:i+1=k
    · rw [e,show i=k - 1 by omega];exact hlt
    · exact hinc i (by omega),H⟩,F.tt⟩
 replace h13:=of_decide_eq_false h13;refine wp_exit ?_;refine hK5 _ _ (cSR fun K21 hK21=>Xl F rfl (Xh rfl (qNK hK21 ?_)));clear hK5 hK21;clear F a;intro a F;refine wp_ret ?_;refine bRet results39 F rfl ?_
 (obtain rfl:k=n:=by omega
  exact ⟨k,d,rfl,by omega,Nat.le_refl _,hinc,⟨fun i h=>⟨i,h,rfl⟩,fun j h=>⟨j,h,rfl⟩⟩,H⟩)
end Go.Proofs.YtagnefpgidbhnaaGreatDoor
