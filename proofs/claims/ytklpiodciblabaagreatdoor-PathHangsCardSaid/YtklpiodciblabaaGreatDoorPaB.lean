/-
  WALK2. Package path: what executes an instruction. Conditions: the run lies in a block of the caller's; the instruction is within the bounds stated.
-/
import Derived.Test.YtklpiodciblabaaGreatDoorPaA
import Derived.Test.YtklpiodciblabaaGreatDoorVm1
set_option linter.unusedSimpArgs false
set_option linter.unusedVariables false
namespace Go.Proofs.YtklpiodciblabaaGreatDoor
open Go.Proofs.Tryz
open Go.RowKit
set_option maxRecDepth 100000
structure InR (x : Ins) : Prop where
  d : x.dst.toNat < 8
  a : x.aR = true → x.aN.toNat < 8
  b : x.bR = true → x.bN.toNat < 8
structure SetsOk (r : RunP) : Prop where
  deps : ∀ d, d < 8 → r.deps d < 4294967296
  control : r.control < 4294967296
  data : ∀ k, r.data k < 4294967296
  ctrl : ∀ k, r.ctrl k < 4294967296
  att : ∀ k, r.att k < 4294967296
theorem SetsOk.arg {r : RunP} (h : SetsOk r) (isR : Bool) {n : UInt8} (hn : isR = true → n.toNat < 8) : argD isR n r < 4294967296 := by
  unfold argD
  split
  · exact h.deps _ (hn (by assumption))
  · decide
theorem bit_lt {k : Nat} (h : k < 24) : bitN k < 4294967296 := by
  have : 2 ^ k < 2 ^ 32 := Nat.pow_lt_pow_right (by decide) (by omega)
  exact this
theorem or_lt {a b : Nat} (ha : a < 4294967296) (hb : b < 4294967296) : a ||| b < 4294967296 := Nat.or_lt_two_pow (n := 32) ha hb
theorem load_any (b : Nat) (r : RunP) (x : Ins) (v : UInt8) (w0 : World) (hB : RunAt w0 b r) (hx : InR x) (hm : r.many < 24) (hpc : r.pc < 256) :
    Calls Tryz.prog 77 #[.pointer (some ⟨b, 0, none⟩), .agg x.cells.toArray, Go.Proofs.YtklpiodciblabaaGreatDoor.b8 v] w0 fun e w' => e = .returned (.tuple #[]) ∧ Own w0 (some b) w' [.blk b (loadE x v r).cells 81] := by
  have H := Own.startRow hB
  refine enterF func77 rfl ntmps77 rfl (fun a F => ?_);refine cSR fun K1 hK1=>?_;refine sBx H F rfl rfl rfl ?_;clear F a H; intro b4 a w F H;refine nK hK1 (cSR fun K2 hK2=>sMv F rfl rfl rfl (qFa (f := 2) (k := 2) underlying59 rfl sizeOf5 rfl rfl rfl rfl rfl (qLd isAgg5 rfl rfl rfl (H.cell 0 rfl rfl) (qMv rfl rfl rfl (qFa (f := 6) (k := 8) underlying59 rfl sizeOf5 rfl rfl rfl rfl rfl (qLd isAgg5 rfl rfl rfl (H.cell 0 rfl rfl) ?_))))));clear hK1;clear F a;intro a F;refine sCall call107 F rfl rfl rfl (emit_any b r 1 x.loc v x.mode 0 _ (H.blk 1 rfl) hm hpc) ?_;rintro e w ⟨rfl, H2⟩
  replace H := H.turned 1 rfl H2; clear H2
  refine ⟨_, rfl, ?_⟩;clear F a; intro a F;refine sAs F rfl rfl rfl (qNK hK2 ?_);clear hK2;clear F a;intro a F;refine cRegRO (by kernel_rfl) H ?_;replace H := H.drew;refine eTF 0 rfl (by kernel_rfl) F rfl rfl rfl (fun w=>rMv F rfl) H qq0 (qTF 1 rfl (by kernel_rfl) rfl rfl rfl (fun a F w=>rFa (f := 1) (k := 1) underlying59 rfl sizeOf5 rfl rfl F rfl) H qq0 (qT 2 rfl (by kernel_rfl) rfl rfl rfl rfl (fun a F w H=>rLd isAgg5 F rfl (H.cell 0 rfl rfl)) H qq0 (qTF 3 rfl (by kernel_rfl) rfl rfl rfl (fun a F w=>rMv F rfl) H qq0 (qTF 4 rfl (by kernel_rfl) rfl rfl rfl (fun a F w=>rMv F rfl) H qq0 ?_))));clear F a;intro a F
  refine eTakeF (k := 5) (i := 5) rfl (by kernel_rfl) F rfl rfl rfl (fun w => rBin F rfl rfl (bShl1 ?_)) H (fun _ _ _ h => h) ?_
  focus omega
  clear F a; intro a F;refine eOne (k := 6) (i := 6) rfl (by kernel_rfl) F rfl (oCall call108 F rfl rfl (setR_any b (emitP 1 x.loc v x.mode 0 r) x.dst v (bitN r.many) _ (H.blk 1 rfl) hx.d) ?_);rintro e w ⟨rfl, H2⟩
  replace H := H.turned 1 rfl H2; clear H2
  refine ⟨_, rfl, ?_⟩;clear F a; intro a F;refine ePartO (by kernel_rfl) H ?_;refine eNil (k := 7) (by kernel_rfl) ?_
  first | refine bEnd results77 F ?_ | (simp only [Exit.then, Exit.inBlock, if_true]; (repeat (first | rw [if_pos rfl] | rw [if_neg (by decide)])); refine bEnd results77 F ?_)
  exact ⟨rfl, H.sel [1] rfl rfl⟩
theorem fence_any (b : Nat) (r : RunP) (x : Ins) (v : UInt8) (w0 : World) (hB : RunAt w0 b r) (hm : r.many < 24) (hpc : r.pc < 256) :
    Calls Tryz.prog 83 #[.pointer (some ⟨b, 0, none⟩), .agg x.cells.toArray, Go.Proofs.YtklpiodciblabaaGreatDoor.b8 v] w0 fun e w' => e = .returned (.tuple #[]) ∧ Own w0 (some b) w' [.blk b (fenceE x r).cells 81] := by
  have H := Own.startRow hB
  refine enterF func83 rfl ntmps83 rfl (fun a F => ?_);refine cSR fun K1 hK1=>?_;refine sBx H F rfl rfl rfl ?_;clear F a H; intro b4 a w F H;refine nK hK1 (cReg (sMv F rfl rfl rfl (qFa (f := 6) (k := 8) underlying59 rfl sizeOf5 rfl rfl rfl rfl rfl (qLd isAgg5 rfl rfl rfl (H.cell 0 rfl rfl) ?_))));clear hK1;clear F a;intro a F;refine sCall call107 F rfl rfl rfl (emit_any b r 3 0 0 x.mode 0 _ (H.blk 1 rfl) hm hpc) ?_;rintro e w ⟨rfl, H2⟩
  replace H := H.turned 1 rfl H2; clear H2
  refine ⟨_, rfl, ?_⟩;clear F a; intro a F;refine sNil ?_
  first | refine bEnd results83 F ?_ | (simp only [Exit.then, Exit.inBlock, if_true]; (repeat (first | rw [if_pos rfl] | rw [if_neg (by decide)])); refine bEnd results83 F ?_)
  exact ⟨rfl, H.sel [1] rfl rfl⟩
theorem store_any (b : Nat) (r : RunP) (x : Ins) (v : UInt8) (w0 : World) (hB : RunAt w0 b r) (hx : InR x) (hm : r.many < 24) (hpc : r.pc < 256) :
    Calls Tryz.prog 78 #[.pointer (some ⟨b, 0, none⟩), .agg x.cells.toArray, Go.Proofs.YtklpiodciblabaaGreatDoor.b8 v] w0 fun e w' => e = .returned (.tuple #[]) ∧ Own w0 (some b) w' [.blk b (storeE x r).cells 81] := by
  have H := Own.startRow hB
  refine enterF func78 rfl ntmps78 rfl (fun a F => ?_);refine cSR fun K1 hK1=>?_;refine sBx H F rfl rfl rfl ?_;clear F a H; intro b4 a w F H;refine nK hK1 (cSR fun K2 hK2=>sMv F rfl rfl rfl (qFa (f := 3) (k := 3) underlying59 rfl sizeOf57 rfl rfl rfl rfl rfl ?_));clear hK1;clear F a;intro a F
  refine sLr underlying57 rfl ?si F rfl rfl rfl (H.range 0 rfl _ 2) ?_
  case si => exact info_size sizeOf57
  clear F a; intro a F;refine sCall call109 F rfl rfl rfl (value_any b r x.aR x.aN _ (H.blk 1 rfl) hx.a) ?_;rintro e w ⟨rfl, hb⟩;replace H := H.grow hb; clear hb;refine ⟨_, rfl, ?_⟩;clear F a; intro a F;refine sMv F rfl rfl rfl (qExt rfl rfl rfl rfl (qExt rfl rfl rfl rfl (qAs rfl rfl rfl (qAs rfl rfl rfl (qNK hK2 (qReg (qMv rfl rfl rfl (qFa (f := 2) (k := 2) underlying59 rfl sizeOf5 rfl rfl rfl rfl rfl (qLd isAgg5 rfl rfl rfl (H.cell 0 rfl rfl) (qMv rfl rfl rfl (qFa (f := 6) (k := 8) underlying59 rfl sizeOf5 rfl rfl rfl rfl rfl (qLd isAgg5 rfl rfl rfl (H.cell 0 rfl rfl) (qMv rfl rfl rfl ?_)))))))))))));clear hK2;clear F a;intro a F;refine sCall call107 F rfl rfl rfl (emit_any b r 2 x.loc (argV x.aR x.aN r) x.mode (argD x.aR x.aN r) _ (H.blk 1 rfl) hm hpc) ?_;rintro e w ⟨rfl, H2⟩
  replace H := H.turned 1 rfl H2; clear H2
  refine ⟨_, rfl, ?_⟩;clear F a; intro a F;refine sNil ?_
  first | refine bEnd results78 F ?_ | (simp only [Exit.then, Exit.inBlock, if_true]; (repeat (first | rw [if_pos rfl] | rw [if_neg (by decide)])); refine bEnd results78 F ?_)
  exact ⟨rfl, H.sel [1] rfl rfl⟩
theorem moveI_any (b : Nat) (r : RunP) (x : Ins) (v : UInt8) (w0 : World) (hB : RunAt w0 b r) (hx : InR x) (hs : SetsOk r) :
    Calls Tryz.prog 79 #[.pointer (some ⟨b, 0, none⟩), .agg x.cells.toArray, Go.Proofs.YtklpiodciblabaaGreatDoor.b8 v] w0 fun e w' => e = .returned (.tuple #[]) ∧ Own w0 (some b) w' [.blk b (moveE' x r).cells 81] := by
  have H := Own.startRow hB
  refine enterF func79 rfl ntmps79 rfl (fun a F => ?_);refine cSR fun K1 hK1=>?_;refine sBx H F rfl rfl rfl ?_;clear F a H; intro b4 a w F H;refine nK hK1 (cSR fun K2 hK2=>sMv F rfl rfl rfl (qFa (f := 3) (k := 3) underlying59 rfl sizeOf57 rfl rfl rfl rfl rfl ?_));clear hK1;clear F a;intro a F
  refine sLr underlying57 rfl ?si F rfl rfl rfl (H.range 0 rfl _ 2) ?_
  case si => exact info_size sizeOf57
  clear F a; intro a F;refine sCall call109 F rfl rfl rfl (value_any b r x.aR x.aN _ (H.blk 1 rfl) hx.a) ?_;rintro e w ⟨rfl, hb⟩;replace H := H.grow hb; clear hb;refine ⟨_, rfl, ?_⟩;clear F a; intro a F;refine sMv F rfl rfl rfl (qExt rfl rfl rfl rfl (qExt rfl rfl rfl rfl (qAs rfl rfl rfl (qAs rfl rfl rfl (qNK hK2 (qSR fun K3 hK3=>qMv rfl rfl rfl (qFa (f := 4) (k := 5) underlying59 rfl sizeOf57 rfl rfl rfl rfl rfl ?_)))))));clear hK2;clear F a;intro a F
  refine sLr underlying57 rfl ?si F rfl rfl rfl (H.range 0 rfl _ 2) ?_
  case si => exact info_size sizeOf57
  clear F a; intro a F;refine sCall call109 F rfl rfl rfl (value_any b r x.bR x.bN _ (H.blk 1 rfl) hx.b) ?_;rintro e w ⟨rfl, hb⟩;replace H := H.grow hb; clear hb;refine ⟨_, rfl, ?_⟩;clear F a; intro a F;refine sMv F rfl rfl rfl (qExt rfl rfl rfl rfl (qExt rfl rfl rfl rfl (qAs rfl rfl rfl (qAs rfl rfl rfl (qNK hK3 ?_)))));clear hK3;clear F a;intro a F;refine cSeq (fun K4 hK4 => ?_);refine cSR fun K5 hK5=>sFa (f := 5) (k := 7) underlying59 rfl sizeOf5 rfl rfl F rfl rfl rfl (qLd isAgg5 rfl rfl rfl (H.cell 0 rfl rfl) (qNK hK5 ?_));clear hK5;clear F a;intro a F;refine wp_block ?_;refine cSR fun K6 hK6=>sBin F rfl rfl rfl rfl (bEqlB (y := 1)) (qAs rfl rfl rfl (qNK hK6 ?_));clear hK6;clear F a;intro a F
  refine cIf F rfl (fun h29 => ?_) (fun h29 => ?_)
  ·
   replace h29 := beqT h29;refine cReg (sMv F rfl rfl rfl (qMv rfl rfl rfl (qBin rfl rfl rfl rfl (bAddB) (qAs rfl rfl rfl (qNK hK4 (qReg (qMv rfl rfl rfl (qFa (f := 1) (k := 1) underlying59 rfl sizeOf5 rfl rfl rfl rfl rfl (qLd isAgg5 rfl rfl rfl (H.cell 0 rfl rfl) (qMv rfl rfl rfl (qMv rfl rfl rfl (qMv rfl rfl rfl ?_))))))))))));clear hK4;clear F a;intro a F
   refine sBin F rfl rfl rfl rfl (bOr32 ?_ ?_) ?_
   focus (first | exact hs.arg x.aR hx.a | exact hs.arg x.bR hx.b)
   focus (first | exact hs.arg x.aR hx.a | exact hs.arg x.bR hx.b)
   clear F a; intro a F;refine sCall call108 F rfl rfl rfl (setR_any b r x.dst _ (argD x.aR x.aN r ||| argD x.bR x.bN r) _ (H.blk 1 rfl) hx.d) ?_;rintro e w ⟨rfl, H2⟩
   replace H := H.turned 1 rfl H2; clear H2
   refine ⟨_, rfl, ?_⟩;clear F a; intro a F;refine sNil ?_
   first | refine bEnd results79 F ?_ | (simp only [Exit.then, Exit.inBlock, if_true]; (repeat (first | rw [if_pos rfl] | rw [if_neg (by decide)])); refine bEnd results79 F ?_)
   first
   | (have e : x.fn = 1 := h29
      refine ⟨rfl, ?_⟩
      unfold moveE' movF
      rw [if_pos e]
      exact H.sel [1] rfl rfl)
   | (have e : ¬ x.fn = 1 := h29
      have e2 : x.fn = 2 := h34
      refine ⟨rfl, ?_⟩
      unfold moveE' movF
      rw [if_neg e, if_pos e2]
      exact H.sel [1] rfl rfl)
   | (have e : ¬ x.fn = 1 := h29
      have e2 : ¬ x.fn = 2 := h34
      refine ⟨rfl, ?_⟩
      unfold moveE' movF
      rw [if_neg e, if_neg e2]
      exact H.sel [1] rfl rfl)
  replace h29 := beqF h29;refine cSR fun K7 hK7=>sBin F rfl rfl rfl rfl (bEqlB (y := 2)) (qAs rfl rfl rfl (qNK hK7 ?_));clear hK7;clear F a;intro a F
  refine cIf F rfl (fun h34 => ?_) (fun h34 => ?_)
  ·
   replace h34 := beqT h34;refine cReg (sMv F rfl rfl rfl (qMv rfl rfl rfl (qBin rfl rfl rfl rfl (bSubB) (qAs rfl rfl rfl (qNK hK4 (qReg (qMv rfl rfl rfl (qFa (f := 1) (k := 1) underlying59 rfl sizeOf5 rfl rfl rfl rfl rfl (qLd isAgg5 rfl rfl rfl (H.cell 0 rfl rfl) (qMv rfl rfl rfl (qMv rfl rfl rfl (qMv rfl rfl rfl ?_))))))))))));clear hK4;clear F a;intro a F
   refine sBin F rfl rfl rfl rfl (bOr32 ?_ ?_) ?_
   focus (first | exact hs.arg x.aR hx.a | exact hs.arg x.bR hx.b)
   focus (first | exact hs.arg x.aR hx.a | exact hs.arg x.bR hx.b)
   clear F a; intro a F;refine sCall call108 F rfl rfl rfl (setR_any b r x.dst _ (argD x.aR x.aN r ||| argD x.bR x.bN r) _ (H.blk 1 rfl) hx.d) ?_;rintro e w ⟨rfl, H2⟩
   replace H := H.turned 1 rfl H2; clear H2
   refine ⟨_, rfl, ?_⟩;clear F a; intro a F;refine sNil ?_
   first | refine bEnd results79 F ?_ | (simp only [Exit.then, Exit.inBlock, if_true]; (repeat (first | rw [if_pos rfl] | rw [if_neg (by decide)])); refine bEnd results79 F ?_)
   first
   | (have e : x.fn = 1 := h29
      refine ⟨rfl, ?_⟩
      unfold moveE' movF
      rw [if_pos e]
      exact H.sel [1] rfl rfl)
   | (have e : ¬ x.fn = 1 := h29
      have e2 : x.fn = 2 := h34
      refine ⟨rfl, ?_⟩
      unfold moveE' movF
      rw [if_neg e, if_pos e2]
      exact H.sel [1] rfl rfl)
   | (have e : ¬ x.fn = 1 := h29
      have e2 : ¬ x.fn = 2 := h34
      refine ⟨rfl, ?_⟩
      unfold moveE' movF
      rw [if_neg e, if_neg e2]
      exact H.sel [1] rfl rfl)
  replace h34 := beqF h34;refine cReg (sMv F rfl rfl rfl (qMv rfl rfl rfl (qBin rfl rfl rfl rfl (bXorB) (qAs rfl rfl rfl (qNK hK4 (qReg (qMv rfl rfl rfl (qFa (f := 1) (k := 1) underlying59 rfl sizeOf5 rfl rfl rfl rfl rfl (qLd isAgg5 rfl rfl rfl (H.cell 0 rfl rfl) (qMv rfl rfl rfl (qMv rfl rfl rfl (qMv rfl rfl rfl ?_))))))))))));clear hK4;clear F a;intro a F
  refine sBin F rfl rfl rfl rfl (bOr32 ?_ ?_) ?_
  focus (first | exact hs.arg x.aR hx.a | exact hs.arg x.bR hx.b)
  focus (first | exact hs.arg x.aR hx.a | exact hs.arg x.bR hx.b)
  clear F a; intro a F;refine sCall call108 F rfl rfl rfl (setR_any b r x.dst _ (argD x.aR x.aN r ||| argD x.bR x.bN r) _ (H.blk 1 rfl) hx.d) ?_;rintro e w ⟨rfl, H2⟩
  replace H := H.turned 1 rfl H2; clear H2
  refine ⟨_, rfl, ?_⟩;clear F a; intro a F;refine sNil ?_
  first | refine bEnd results79 F ?_ | (simp only [Exit.then, Exit.inBlock, if_true]; (repeat (first | rw [if_pos rfl] | rw [if_neg (by decide)])); refine bEnd results79 F ?_)
  first
  | (have e : x.fn = 1 := h29
     refine ⟨rfl, ?_⟩
     unfold moveE' movF
     rw [if_pos e]
     exact H.sel [1] rfl rfl)
  | (have e : ¬ x.fn = 1 := h29
     have e2 : x.fn = 2 := h34
     refine ⟨rfl, ?_⟩
     unfold moveE' movF
     rw [if_neg e, if_pos e2]
     exact H.sel [1] rfl rfl)
  | (have e : ¬ x.fn = 1 := h29
     have e2 : ¬ x.fn = 2 := h34
     refine ⟨rfl, ?_⟩
     unfold moveE' movF
     rw [if_neg e, if_neg e2]
     exact H.sel [1] rfl rfl)
theorem exch_any (b : Nat) (r : RunP) (x : Ins) (old val : UInt8) (n : Nat) (w0 : World) (hB : RunAt w0 b r) (hx : InR x) (hm : r.many + 1 < 24) (hpc : r.pc < 256) :
    Calls Tryz.prog 110 #[.pointer (some ⟨b, 0, none⟩), .agg x.cells.toArray, Go.Proofs.YtklpiodciblabaaGreatDoor.b8 old, Go.Proofs.YtklpiodciblabaaGreatDoor.b8 val, u32 n] w0 fun e w' => e = .returned (.int .i64 ((r.many + 1 : Nat) : Int)) ∧ Own w0 (some b) w' [.blk b (exchE x old val n r).cells 81] := by
  have H := Own.startRow hB
  refine enterF func110 rfl ntmps110 rfl (fun a F => ?_);refine cSR fun K1 hK1=>?_;refine sBx H F rfl rfl rfl ?_;clear F a H; intro b6 a w F H;refine sAs F rfl rfl rfl (qNK hK1 (qSR fun K2 hK2=>qMv rfl rfl rfl (qFa (f := 2) (k := 2) underlying59 rfl sizeOf5 rfl rfl rfl rfl rfl (qLd isAgg5 rfl rfl rfl (H.cell 0 rfl rfl) (qMv rfl rfl rfl ?_)))));clear hK1;clear F a;intro a F;refine sCall call107 F rfl rfl rfl (emit_any b r 1 x.loc old 3 0 _ (H.blk 1 rfl) (by omega) hpc) ?_;rintro e w ⟨rfl, H2⟩
  replace H := H.turned 1 rfl H2; clear H2
  refine ⟨_, rfl, ?_⟩;clear F a; intro a F;refine sAs F rfl rfl rfl (qNK hK2 (qSR fun K3 hK3=>qMv rfl rfl rfl (qFa (f := 2) (k := 2) underlying59 rfl sizeOf5 rfl rfl rfl rfl rfl (qLd isAgg5 rfl rfl rfl (H.cell 0 rfl rfl) (qMv rfl rfl rfl (qMv rfl rfl rfl ?_))))));clear hK2;clear F a;intro a F;refine sCall call107 F rfl rfl rfl ((show Calls _ _ _ _ (fun e w' => e = .returned (.int .i64 ((r.many + 1 : Nat) : Int)) ∧ _) from emit_any b (emitP 1 x.loc old 3 0 r) 2 x.loc val 3 n _ (H.blk 1 rfl) hm hpc)) ?_;rintro e w ⟨rfl, H2⟩
  replace H := H.turned 1 rfl H2; clear H2
  refine ⟨_, rfl, ?_⟩;clear F a; intro a F;refine sAs F rfl rfl rfl (qNK hK3 ?_);clear hK3;clear F a;intro a F;refine cSeq (fun K4 hK4 => ?_);refine cRegRO (by kernel_rfl) H ?_;replace H := H.drew;refine eTF 0 rfl (by kernel_rfl) F rfl rfl rfl (fun w=>rMv F rfl) H qq0 (qTF 1 rfl (by kernel_rfl) rfl rfl rfl (fun a F w=>rMv F rfl) H qq0 (qTF 2 rfl (by kernel_rfl) rfl rfl rfl (fun a F w=>rMv F rfl) H qq0 ?_));clear F a;intro a F
  refine eTakeF (k := 3) (i := 3) rfl (by kernel_rfl) F rfl rfl rfl (fun w => rBin F rfl rfl (bShl1 ?_)) H (fun _ _ _ h => h) ?_
  focus omega
  clear F a; intro a F;refine eT 4 rfl (by kernel_rfl) F rfl rfl rfl rfl (fun w H=>rNc F rfl) H qq0 (qTF 5 rfl (by kernel_rfl) rfl rfl rfl (fun a F w=>rFa (f := 8) (k := 235) underlying81 rfl sizeOf79 rfl rfl F rfl) H qq0 ?_);clear F a;intro a F
  refine eTakeF (k := 6) (i := 6) rfl (by kernel_rfl) F rfl rfl rfl (fun w => rIa1 underlying79 sizeOf76 F rfl rfl ?_) H (fun _ _ _ h => h) ?_
  focus (first | omega | decide | (simp; omega))
  clear F a; intro a F;refine eOne (k := 7) (i := 7) rfl (by kernel_rfl) F rfl (oSt H 1 sizeOf76 F rfl rfl rfl rfl (cell_att _ hm) ?_);clear H; intro w H;rw [show Value.int .u32 ((2 ^ r.many : Nat) : Int) = u32 (bitN r.many) from rfl, set_att _ hm] at H;refine ePartO (by kernel_rfl) H ?_;refine eNil (k := 8) (by kernel_rfl) ?_;refine hK4 _ _ ?_;clear hK4;refine cSeq (fun K5 hK5 => ?_);refine cRegRO (by kernel_rfl) H ?_;replace H := H.drew;refine eTF 0 rfl (by kernel_rfl) F rfl rfl rfl (fun w=>rMv F rfl) H qq0 (qTF 1 rfl (by kernel_rfl) rfl rfl rfl (fun a F w=>rFa (f := 1) (k := 1) underlying59 rfl sizeOf5 rfl rfl F rfl) H qq0 (qT 2 rfl (by kernel_rfl) rfl rfl rfl rfl (fun a F w H=>rLd isAgg5 F rfl (H.cell 0 rfl rfl)) H qq0 (qTF 3 rfl (by kernel_rfl) rfl rfl rfl (fun a F w=>rMv F rfl) H qq0 (qTF 4 rfl (by kernel_rfl) rfl rfl rfl (fun a F w=>rMv F rfl) H qq0 ?_))));clear F a;intro a F
  refine eTakeF (k := 5) (i := 5) rfl (by kernel_rfl) F rfl rfl rfl (fun w => rBin F rfl rfl (bShl1 ?_)) H (fun _ _ _ h => h) ?_
  focus omega
  clear F a; intro a F;refine eOne (k := 6) (i := 6) rfl (by kernel_rfl) F rfl (oCall call108 F rfl rfl (setR_any b _ x.dst old (bitN r.many) _ (H.blk 1 rfl) hx.d) ?_);rintro e w ⟨rfl, H2⟩
  replace H := H.turned 1 rfl H2; clear H2
  refine ⟨_, rfl, ?_⟩;clear F a; intro a F;refine ePartO (by kernel_rfl) H ?_;refine eNil (k := 7) (by kernel_rfl) ?_;refine hK5 _ _ (cSR fun K6 hK6=>sMv F rfl rfl rfl (qAs rfl rfl rfl (qNK hK6 ?_)));clear hK5 hK6;clear F a;intro a F;refine wp_ret ?_;refine bRet results110 F rfl ?_
  exact ⟨rfl, H.sel [1] rfl rfl⟩
theorem swap_any (b : Nat) (r : RunP) (x : Ins) (v : UInt8) (w0 : World) (hB : RunAt w0 b r) (hx : InR x) (hm : r.many + 1 < 24) (hpc : r.pc < 256) :
    Calls Tryz.prog 80 #[.pointer (some ⟨b, 0, none⟩), .agg x.cells.toArray, Go.Proofs.YtklpiodciblabaaGreatDoor.b8 v] w0 fun e w' => e = .returned (.tuple #[]) ∧ Own w0 (some b) w' [.blk b (swapE x v r).cells 81] := by
  have H := Own.startRow hB
  refine enterF func80 rfl ntmps80 rfl (fun a F => ?_);refine cSR fun K1 hK1=>?_;refine sBx H F rfl rfl rfl ?_;clear F a H; intro b4 a w F H;refine nK hK1 (cSR fun K2 hK2=>sMv F rfl rfl rfl (qFa (f := 3) (k := 3) underlying59 rfl sizeOf57 rfl rfl rfl rfl rfl ?_));clear hK1;clear F a;intro a F
  refine sLr underlying57 rfl ?si F rfl rfl rfl (H.range 0 rfl _ 2) ?_
  case si => exact info_size sizeOf57
  clear F a; intro a F;refine sCall call109 F rfl rfl rfl (value_any b r x.aR x.aN _ (H.blk 1 rfl) hx.a) ?_;rintro e w ⟨rfl, hb⟩;replace H := H.grow hb; clear hb;refine ⟨_, rfl, ?_⟩;clear F a; intro a F;refine sMv F rfl rfl rfl (qExt rfl rfl rfl rfl (qExt rfl rfl rfl rfl (qAs rfl rfl rfl (qAs rfl rfl rfl (qNK hK2 (qReg (qMv rfl rfl rfl ?_)))))));clear hK2;clear F a;intro a F
  refine sLr underlying59 rfl ?si F rfl rfl rfl (H.whole 0 rfl) ?_
  case si => exact info_size sizeOf59
  clear F a; intro a F;refine sMv F rfl rfl rfl (qMv rfl rfl rfl (qMv rfl rfl rfl ?_));clear F a;intro a F;refine sCall call110 F rfl rfl rfl (exch_any b r x v (argV x.aR x.aN r) (argD x.aR x.aN r) _ (H.blk 1 rfl) hx hm hpc) ?_;rintro e w ⟨rfl, H2⟩
  replace H := H.turned 1 rfl H2; clear H2
  refine ⟨_, rfl, ?_⟩;clear F a; intro a F;refine sNil ?_
  first | refine bEnd results80 F ?_ | (simp only [Exit.then, Exit.inBlock, if_true]; (repeat (first | rw [if_pos rfl] | rw [if_neg (by decide)])); refine bEnd results80 F ?_)
  exact ⟨rfl, H.sel [1] rfl rfl⟩
theorem exch_data (x : Ins) (old val : UInt8) (n : Nat) (r : RunP) {k : Nat} (hs : SetsOk r) (hn : n < 4294967296) (hm : r.many + 1 < 24) : (exchE x old val n r).data k < 4294967296 ∧ (exchE x old val n r).att k < 4294967296 ∧ (exchE x old val n r).ctrl k < 4294967296 := by
  have hb := bit_lt (k := r.many) (by omega)
  refine ⟨?_, ?_, ?_⟩
  · show putN (putN r.data r.many 0) (r.many + 1) n k < _
    unfold putN
    split
    · exact hn
    · split
      · decide
      · exact hs.data k
  · show putN r.att (r.many + 1) (bitN r.many) k < _
    unfold putN
    split
    · exact hb
    · exact hs.att k
  · show putN (putN r.ctrl r.many r.control) (r.many + 1) r.control k < _
    unfold putN
    split
    · exact hs.control
    · split
      · exact hs.control
      · exact hs.ctrl k
theorem fetch_any (b : Nat) (r : RunP) (x : Ins) (v : UInt8) (w0 : World) (hB : RunAt w0 b r) (hx : InR x) (hs : SetsOk r) (hm : r.many + 1 < 24) (hpc : r.pc < 256) :
    Calls Tryz.prog 81 #[.pointer (some ⟨b, 0, none⟩), .agg x.cells.toArray, Go.Proofs.YtklpiodciblabaaGreatDoor.b8 v] w0 fun e w' => e = .returned (.tuple #[]) ∧ Own w0 (some b) w' [.blk b (fetchE x v r).cells 81] := by
  have H := Own.startRow hB
  have hd := exch_data x v (v + argV x.aR x.aN r) (argD x.aR x.aN r) r (k := r.many + 1) hs (hs.arg _ hx.a) hm
  refine enterF func81 rfl ntmps81 rfl (fun a F => ?_);refine cSR fun K1 hK1=>?_;refine sBx H F rfl rfl rfl ?_;clear F a H; intro b4 a w F H;refine nK hK1 (cSR fun K2 hK2=>sMv F rfl rfl rfl (qFa (f := 3) (k := 3) underlying59 rfl sizeOf57 rfl rfl rfl rfl rfl ?_));clear hK1;clear F a;intro a F
  refine sLr underlying57 rfl ?si F rfl rfl rfl (H.range 0 rfl _ 2) ?_
  case si => exact info_size sizeOf57
  clear F a; intro a F;refine sCall call109 F rfl rfl rfl (value_any b r x.aR x.aN _ (H.blk 1 rfl) hx.a) ?_;rintro e w ⟨rfl, hb⟩;replace H := H.grow hb; clear hb;refine ⟨_, rfl, ?_⟩;clear F a; intro a F;refine sMv F rfl rfl rfl (qExt rfl rfl rfl rfl (qExt rfl rfl rfl rfl (qAs rfl rfl rfl (qAs rfl rfl rfl (qNK hK2 (qSR fun K3 hK3=>qMv rfl rfl rfl ?_))))));clear hK2;clear F a;intro a F
  refine sLr underlying59 rfl ?si F rfl rfl rfl (H.whole 0 rfl) ?_
  case si => exact info_size sizeOf59
  clear F a; intro a F;refine sMv F rfl rfl rfl (qMv rfl rfl rfl (qMv rfl rfl rfl (qBin rfl rfl rfl rfl (bAddB) (qMv rfl rfl rfl ?_))));clear F a;intro a F;refine sCall call110 F rfl rfl rfl (exch_any b r x v (v + argV x.aR x.aN r) (argD x.aR x.aN r) _ (H.blk 1 rfl) hx hm hpc) ?_;rintro e w ⟨rfl, H2⟩
  replace H := H.turned 1 rfl H2; clear H2
  refine ⟨_, rfl, ?_⟩;clear F a; intro a F;refine sAs F rfl rfl rfl (qNK hK3 ?_);clear hK3;clear F a;intro a F;refine cRegRO (by kernel_rfl) H ?_;replace H := H.drew;refine eTF 0 rfl (by kernel_rfl) F rfl rfl rfl (fun w=>rMv F rfl) H qq0 (qTF 1 rfl (by kernel_rfl) rfl rfl rfl (fun a F w=>rMv F rfl) H qq0 (qT 2 rfl (by kernel_rfl) rfl rfl rfl rfl (fun a F w H=>rNc F rfl) H qq0 (qTF 3 rfl (by kernel_rfl) rfl rfl rfl (fun a F w=>rFa (f := 6) (k := 187) underlying81 rfl sizeOf79 rfl rfl F rfl) H qq0 ?_)));clear F a;intro a F
  refine eTakeF (k := 4) (i := 4) rfl (by kernel_rfl) F rfl rfl rfl (fun w => rIa1 underlying79 sizeOf76 F rfl rfl ?_) H (fun _ _ _ h => h) ?_
  focus (first | omega | decide | (simp; omega))
  clear F a; intro a F;refine eT 5 rfl (by kernel_rfl) F rfl rfl rfl rfl (fun w H=>rLd isAgg76 F rfl (H.cell 1 rfl (cell_data _ hm))) H qq0 (qTF 6 rfl (by kernel_rfl) rfl rfl rfl (fun a F w=>rMv F rfl) H qq0 (qTF 7 rfl (by kernel_rfl) rfl rfl rfl (fun a F w=>rMv F rfl) H qq0 (qT 8 rfl (by kernel_rfl) rfl rfl rfl rfl (fun a F w H=>rNc F rfl) H qq0 (qTF 9 rfl (by kernel_rfl) rfl rfl rfl (fun a F w=>rFa (f := 8) (k := 235) underlying81 rfl sizeOf79 rfl rfl F rfl) H qq0 ?_))));clear F a;intro a F
  refine eTakeF (k := 10) (i := 10) rfl (by kernel_rfl) F rfl rfl rfl (fun w => rIa1 underlying79 sizeOf76 F rfl rfl ?_) H (fun _ _ _ h => h) ?_
  focus (first | omega | decide | (simp; omega))
  clear F a; intro a F;refine eT 11 rfl (by kernel_rfl) F rfl rfl rfl rfl (fun w H=>rLd isAgg76 F rfl (H.cell 1 rfl (cell_att _ hm))) H qq0 ?_;clear F a;intro a F
  refine eTakeF (k := 12) (i := 12) rfl (by kernel_rfl) F rfl rfl rfl (fun w => rBin F rfl rfl (bOr32 ?_ ?_)) H (fun _ _ _ h => h) ?_
  focus (first | exact hd.1 | exact hd.2.1)
  focus (first | exact hd.1 | exact hd.2.1)
  clear F a; intro a F;refine eT 13 rfl (by kernel_rfl) F rfl rfl rfl rfl (fun w H=>rNc F rfl) H qq0 (qTF 14 rfl (by kernel_rfl) rfl rfl rfl (fun a F w=>rFa (f := 6) (k := 187) underlying81 rfl sizeOf79 rfl rfl F rfl) H qq0 ?_);clear F a;intro a F
  refine eTakeF (k := 15) (i := 15) rfl (by kernel_rfl) F rfl rfl rfl (fun w => rIa1 underlying79 sizeOf76 F rfl rfl ?_) H (fun _ _ _ h => h) ?_
  focus (first | omega | decide | (simp; omega))
  clear F a; intro a F;refine eOne (k := 16) (i := 16) rfl (by kernel_rfl) F rfl (oSt H 1 sizeOf76 F rfl rfl rfl rfl (cell_data _ hm) ?_);clear H; intro w H;refine ePartO (by kernel_rfl) H ?_;refine eNil (k := 17) (by kernel_rfl) ?_
  first | refine bEnd results81 F ?_ | (simp only [Exit.then, Exit.inBlock, if_true]; (repeat (first | rw [if_pos rfl] | rw [if_neg (by decide)])); refine bEnd results81 F ?_)
  refine ⟨rfl, ?_⟩
  have H3 := H.sel [1] rfl rfl
  have e : (exchE x v (v + argV x.aR x.aN r) (argD x.aR x.aN r) r).cells.set (187 + (r.many + 1)) (u32 ((exchE x v (v + argV x.aR x.aN r) (argD x.aR x.aN r) r).data (r.many + 1) ||| (exchE x v (v + argV x.aR x.aN r) (argD x.aR x.aN r) r).att (r.many + 1))) = (fetchE x v r).cells := set_data _ hm _
  rw [← e]
  exact H3
theorem cas_any (b : Nat) (r : RunP) (x : Ins) (v : UInt8) (w0 : World) (hB : RunAt w0 b r) (hx : InR x) (hs : SetsOk r) (hm : r.many + 1 < 24) (hpc : r.pc < 256) :
    Calls Tryz.prog 82 #[.pointer (some ⟨b, 0, none⟩), .agg x.cells.toArray, Go.Proofs.YtklpiodciblabaaGreatDoor.b8 v] w0 fun e w' => e = .returned (.tuple #[]) ∧ Own w0 (some b) w' [.blk b (casE x v r).cells 81] := by
  have H := Own.startRow hB
  have hd := exch_data x v (argV x.bR x.bN r) (argD x.bR x.bN r) r (k := r.many + 1) hs (hs.arg _ hx.b) hm
  have ha := hs.arg x.aR hx.a
  have hab := or_lt hd.2.1 ha
  refine enterF func82 rfl ntmps82 rfl (fun a F => ?_);refine cSR fun K1 hK1=>?_;refine sBx H F rfl rfl rfl ?_;clear F a H; intro b4 a w F H;refine nK hK1 (cSR fun K2 hK2=>sMv F rfl rfl rfl (qFa (f := 3) (k := 3) underlying59 rfl sizeOf57 rfl rfl rfl rfl rfl ?_));clear hK1;clear F a;intro a F
  refine sLr underlying57 rfl ?si F rfl rfl rfl (H.range 0 rfl _ 2) ?_
  case si => exact info_size sizeOf57
  clear F a; intro a F;refine sCall call109 F rfl rfl rfl (value_any b r x.aR x.aN _ (H.blk 1 rfl) hx.a) ?_;rintro e w ⟨rfl, hb⟩;replace H := H.grow hb; clear hb;refine ⟨_, rfl, ?_⟩;clear F a; intro a F;refine sMv F rfl rfl rfl (qExt rfl rfl rfl rfl (qExt rfl rfl rfl rfl (qAs rfl rfl rfl (qAs rfl rfl rfl (qNK hK2 (qSR fun K3 hK3=>qMv rfl rfl rfl (qFa (f := 4) (k := 5) underlying59 rfl sizeOf57 rfl rfl rfl rfl rfl ?_)))))));clear hK2;clear F a;intro a F
  refine sLr underlying57 rfl ?si F rfl rfl rfl (H.range 0 rfl _ 2) ?_
  case si => exact info_size sizeOf57
  clear F a; intro a F;refine sCall call109 F rfl rfl rfl (value_any b r x.bR x.bN _ (H.blk 1 rfl) hx.b) ?_;rintro e w ⟨rfl, hb⟩;replace H := H.grow hb; clear hb;refine ⟨_, rfl, ?_⟩;clear F a; intro a F;refine sMv F rfl rfl rfl (qExt rfl rfl rfl rfl (qExt rfl rfl rfl rfl (qAs rfl rfl rfl (qAs rfl rfl rfl (qNK hK3 ?_)))));clear hK3;clear F a;intro a F;refine cSeq (fun K4 hK4 => ?_);refine cSR fun K5 hK5=>sMv F rfl rfl rfl (qMv rfl rfl rfl (qBin rfl rfl rfl rfl bNeqB (qNK hK5 ?_)));clear hK5;clear F a;intro a F
  refine cIf F rfl (fun h28 => ?_) (fun h28 => ?_)
  ·
   replace h28 := bneT h28;refine cSR fun K6 hK6=>sMv F rfl rfl rfl (qFa (f := 2) (k := 2) underlying59 rfl sizeOf5 rfl rfl rfl rfl rfl (qLd isAgg5 rfl rfl rfl (H.cell 0 rfl rfl) (qMv rfl rfl rfl ?_)));clear F a;intro a F;refine sCall call107 F rfl rfl rfl (emit_any b r 1 x.loc v 3 0 _ (H.blk 1 rfl) (by omega) hpc) ?_;rintro e w ⟨rfl, H2⟩
   replace H := H.turned 1 rfl H2; clear H2
   refine ⟨_, rfl, ?_⟩;clear F a; intro a F;refine sAs F rfl rfl rfl (qNK hK6 ?_);clear hK6;clear F a;intro a F;refine cSeq (fun K7 hK7 => ?_);refine cRegRO (by kernel_rfl) H ?_;replace H := H.drew;refine eTF 0 rfl (by kernel_rfl) F rfl rfl rfl (fun w=>rMv F rfl) H qq0 (qTF 1 rfl (by kernel_rfl) rfl rfl rfl (fun a F w=>rFa (f := 1) (k := 1) underlying59 rfl sizeOf5 rfl rfl F rfl) H qq0 (qT 2 rfl (by kernel_rfl) rfl rfl rfl rfl (fun a F w H=>rLd isAgg5 F rfl (H.cell 0 rfl rfl)) H qq0 (qTF 3 rfl (by kernel_rfl) rfl rfl rfl (fun a F w=>rMv F rfl) H qq0 (qTF 4 rfl (by kernel_rfl) rfl rfl rfl (fun a F w=>rMv F rfl) H qq0 ?_))));clear F a;intro a F
   refine eTakeF (k := 5) (i := 5) rfl (by kernel_rfl) F rfl rfl rfl (fun w => rBin F rfl rfl (bShl1 ?_)) H (fun _ _ _ h => h) ?_
   focus omega
   clear F a; intro a F;refine eOne (k := 6) (i := 6) rfl (by kernel_rfl) F rfl (oCall call108 F rfl rfl (setR_any b (emitP 1 x.loc v 3 0 r) x.dst v (bitN r.many) _ (H.blk 1 rfl) hx.d) ?_);rintro e w ⟨rfl, H2⟩
   replace H := H.turned 1 rfl H2; clear H2
   refine ⟨_, rfl, ?_⟩;clear F a; intro a F;refine ePartO (by kernel_rfl) H ?_;refine eNil (k := 7) (by kernel_rfl) ?_;refine hK7 _ _ ?_;clear hK7;refine wp_ret ?_;simp only [Exit.then];refine bEndR results82 F ?_
   first
   | (have e0 : v ≠ argV x.aR x.aN r := h28
      refine ⟨rfl, ?_⟩
      unfold casE
      rw [if_pos e0]
      exact H.sel [1] rfl rfl)
   | (have e0 : v = argV x.aR x.aN r := h28
      refine ⟨rfl, ?_⟩
      have H3 := H.sel [1] rfl rfl
      have e : (exchE x v (argV x.bR x.bN r) (argD x.bR x.bN r) r).cells.set (211 + (r.many + 1)) (u32 ((exchE x v (argV x.bR x.bN r) (argD x.bR x.bN r) r).ctrl (r.many + 1) ||| ((exchE x v (argV x.bR x.bN r) (argD x.bR x.bN r) r).att (r.many + 1) ||| argD x.aR x.aN r))) = (casE x v r).cells := by
       unfold casE
       rw [if_neg (fun hh => hh e0)]
       exact set_ctrl _ hm _
      rw [← e]
      exact H3)
  replace h28 := bneF h28;refine wp_skip (hK4 _ _ (cSR fun K8 hK8=>sMv F rfl rfl rfl ?_));clear hK4;clear F a;intro a F
  refine sLr underlying59 rfl ?si F rfl rfl rfl (H.whole 0 rfl) ?_
  case si => exact info_size sizeOf59
  clear F a; intro a F;refine sMv F rfl rfl rfl (qMv rfl rfl rfl (qMv rfl rfl rfl ?_));clear F a;intro a F;refine sCall call110 F rfl rfl rfl (exch_any b r x v (argV x.bR x.bN r) (argD x.bR x.bN r) _ (H.blk 1 rfl) hx hm hpc) ?_;rintro e w ⟨rfl, H2⟩
  replace H := H.turned 1 rfl H2; clear H2
  refine ⟨_, rfl, ?_⟩;clear F a; intro a F;refine sAs F rfl rfl rfl (qNK hK8 ?_);clear hK8;clear F a;intro a F;refine cRegRO (by kernel_rfl) H ?_;replace H := H.drew;refine eTF 0 rfl (by kernel_rfl) F rfl rfl rfl (fun w=>rMv F rfl) H qq0 (qTF 1 rfl (by kernel_rfl) rfl rfl rfl (fun a F w=>rMv F rfl) H qq0 (qT 2 rfl (by kernel_rfl) rfl rfl rfl rfl (fun a F w H=>rNc F rfl) H qq0 (qTF 3 rfl (by kernel_rfl) rfl rfl rfl (fun a F w=>rFa (f := 7) (k := 211) underlying81 rfl sizeOf79 rfl rfl F rfl) H qq0 ?_)));clear F a;intro a F
  refine eTakeF (k := 4) (i := 4) rfl (by kernel_rfl) F rfl rfl rfl (fun w => rIa1 underlying79 sizeOf76 F rfl rfl ?_) H (fun _ _ _ h => h) ?_
  focus (first | omega | decide | (simp; omega))
  clear F a; intro a F;refine eT 5 rfl (by kernel_rfl) F rfl rfl rfl rfl (fun w H=>rLd isAgg76 F rfl (H.cell 1 rfl (cell_ctrl _ hm))) H qq0 (qTF 6 rfl (by kernel_rfl) rfl rfl rfl (fun a F w=>rMv F rfl) H qq0 (qTF 7 rfl (by kernel_rfl) rfl rfl rfl (fun a F w=>rMv F rfl) H qq0 (qT 8 rfl (by kernel_rfl) rfl rfl rfl rfl (fun a F w H=>rNc F rfl) H qq0 (qTF 9 rfl (by kernel_rfl) rfl rfl rfl (fun a F w=>rFa (f := 8) (k := 235) underlying81 rfl sizeOf79 rfl rfl F rfl) H qq0 ?_))));clear F a;intro a F
  refine eTakeF (k := 10) (i := 10) rfl (by kernel_rfl) F rfl rfl rfl (fun w => rIa1 underlying79 sizeOf76 F rfl rfl ?_) H (fun _ _ _ h => h) ?_
  focus (first | omega | decide | (simp; omega))
  clear F a; intro a F;refine eT 11 rfl (by kernel_rfl) F rfl rfl rfl rfl (fun w H=>rLd isAgg76 F rfl (H.cell 1 rfl (cell_att _ hm))) H qq0 (qTF 12 rfl (by kernel_rfl) rfl rfl rfl (fun a F w=>rMv F rfl) H qq0 ?_);clear F a;intro a F
  refine eTakeF (k := 13) (i := 13) rfl (by kernel_rfl) F rfl rfl rfl (fun w => rBin F rfl rfl (bOr32 ?_ ?_)) H (fun _ _ _ h => h) ?_
  focus (first | exact hd.2.1 | exact ha)
  focus (first | exact hd.2.1 | exact ha)
  clear F a; intro a F
  refine eTakeF (k := 14) (i := 14) rfl (by kernel_rfl) F rfl rfl rfl (fun w => rBin F rfl rfl (bOr32 ?_ ?_)) H (fun _ _ _ h => h) ?_
  focus (first | exact hd.2.2 | exact hab)
  focus (first | exact hd.2.2 | exact hab)
  clear F a; intro a F;refine eT 15 rfl (by kernel_rfl) F rfl rfl rfl rfl (fun w H=>rNc F rfl) H qq0 (qTF 16 rfl (by kernel_rfl) rfl rfl rfl (fun a F w=>rFa (f := 7) (k := 211) underlying81 rfl sizeOf79 rfl rfl F rfl) H qq0 ?_);clear F a;intro a F
  refine eTakeF (k := 17) (i := 17) rfl (by kernel_rfl) F rfl rfl rfl (fun w => rIa1 underlying79 sizeOf76 F rfl rfl ?_) H (fun _ _ _ h => h) ?_
  focus (first | omega | decide | (simp; omega))
  clear F a; intro a F;refine eOne (k := 18) (i := 18) rfl (by kernel_rfl) F rfl (oSt H 1 sizeOf76 F rfl rfl rfl rfl (cell_ctrl _ hm) ?_);clear H; intro w H;refine ePartO (by kernel_rfl) H ?_;refine eNil (k := 19) (by kernel_rfl) ?_
  first | refine bEnd results82 F ?_ | (simp only [Exit.then, Exit.inBlock, if_true]; (repeat (first | rw [if_pos rfl] | rw [if_neg (by decide)])); refine bEnd results82 F ?_)
  first
  | (have e0 : v ≠ argV x.aR x.aN r := h28
     refine ⟨rfl, ?_⟩
     unfold casE
     rw [if_pos e0]
     exact H.sel [1] rfl rfl)
  | (have e0 : v = argV x.aR x.aN r := h28
     refine ⟨rfl, ?_⟩
     have H3 := H.sel [1] rfl rfl
     have e : (exchE x v (argV x.bR x.bN r) (argD x.bR x.bN r) r).cells.set (211 + (r.many + 1)) (u32 ((exchE x v (argV x.bR x.bN r) (argD x.bR x.bN r) r).ctrl (r.many + 1) ||| ((exchE x v (argV x.bR x.bN r) (argD x.bR x.bN r) r).att (r.many + 1) ||| argD x.aR x.aN r))) = (casE x v r).cells := by
      unfold casE
      rw [if_neg (fun hh => hh e0)]
      exact set_ctrl _ hm _
     rw [← e]
     exact H3)
theorem skp4 {fn a b : UInt8} (h : fn = 4) : skpF fn a b = (a == b) := by unfold skpF; rw [if_pos h]
theorem skp5 {fn a b : UInt8} (h4 : fn ≠ 4) (h : fn = 5) : skpF fn a b = (a != b) := by unfold skpF; rw [if_neg h4, if_pos h]
theorem skp6 {fn a b : UInt8} (h4 : fn ≠ 4) (h : fn ≠ 5) : skpF fn a b = decide (a < b) := by unfold skpF; rw [if_neg h4, if_neg h]
theorem skip_yes {x : Ins} {r : RunP} (hj : skpF x.fn (argV x.aR x.aN r) (argV x.bR x.bN r) = true) :
    (r.wControl (r.control ||| (argD x.aR x.aN r ||| argD x.bR x.bN r))).cells.set 0 (Value.int IntKind.i64 ((r.pc : Int) + (x.skip.toNat : Int))) = (skipE x r).cells := by
  unfold skipE
  rw [if_pos hj]
  exact set_pc (r.wControl (r.control ||| (argD x.aR x.aN r ||| argD x.bR x.bN r))) (r.pc + x.skip.toNat)
theorem skip_no {x : Ins} {r : RunP} (hj : skpF x.fn (argV x.aR x.aN r) (argV x.bR x.bN r) = false) :
    (r.wControl (r.control ||| (argD x.aR x.aN r ||| argD x.bR x.bN r))).cells = (skipE x r).cells := by
  unfold skipE
  rw [if_neg (fun h => Bool.noConfusion (hj.symm.trans h))]
theorem skip_any (b : Nat) (r : RunP) (x : Ins) (v : UInt8) (w0 : World) (hB : RunAt w0 b r) (hx : InR x) (hs : SetsOk r) (hpc : r.pc < 256) :
    Calls Tryz.prog 84 #[.pointer (some ⟨b, 0, none⟩), .agg x.cells.toArray, Go.Proofs.YtklpiodciblabaaGreatDoor.b8 v] w0 fun e w' => e = .returned (.tuple #[]) ∧ Own w0 (some b) w' [.blk b (skipE x r).cells 81] := by
  have H := Own.startRow hB
  have ha := hs.arg x.aR hx.a
  have hb := hs.arg x.bR hx.b
  have hab := or_lt ha hb
  have hsk := x.skip.toNat_lt
  refine enterF func84 rfl ntmps84 rfl (fun a F => ?_);refine cSR fun K1 hK1=>?_;refine sBx H F rfl rfl rfl ?_;clear F a H; intro b4 a w F H;refine nK hK1 (cSR fun K2 hK2=>sMv F rfl rfl rfl (qFa (f := 3) (k := 3) underlying59 rfl sizeOf57 rfl rfl rfl rfl rfl ?_));clear hK1;clear F a;intro a F
  refine sLr underlying57 rfl ?si F rfl rfl rfl (H.range 0 rfl _ 2) ?_
  case si => exact info_size sizeOf57
  clear F a; intro a F;refine sCall call109 F rfl rfl rfl (value_any b r x.aR x.aN _ (H.blk 1 rfl) hx.a) ?_;rintro e w ⟨rfl, hb⟩;replace H := H.grow hb; clear hb;refine ⟨_, rfl, ?_⟩;clear F a; intro a F;refine sMv F rfl rfl rfl (qExt rfl rfl rfl rfl (qExt rfl rfl rfl rfl (qAs rfl rfl rfl (qAs rfl rfl rfl (qNK hK2 (qSR fun K3 hK3=>qMv rfl rfl rfl (qFa (f := 4) (k := 5) underlying59 rfl sizeOf57 rfl rfl rfl rfl rfl ?_)))))));clear hK2;clear F a;intro a F
  refine sLr underlying57 rfl ?si F rfl rfl rfl (H.range 0 rfl _ 2) ?_
  case si => exact info_size sizeOf57
  clear F a; intro a F;refine sCall call109 F rfl rfl rfl (value_any b r x.bR x.bN _ (H.blk 1 rfl) hx.b) ?_;rintro e w ⟨rfl, hb⟩;replace H := H.grow hb; clear hb;refine ⟨_, rfl, ?_⟩;clear F a; intro a F;refine sMv F rfl rfl rfl (qExt rfl rfl rfl rfl (qExt rfl rfl rfl rfl (qAs rfl rfl rfl (qAs rfl rfl rfl (qNK hK3 (qSR fun K4 hK4=>qMv rfl rfl rfl (qNc rfl rfl rfl (qFa (f := 3) (k := 17) underlying81 rfl sizeOf76 rfl rfl rfl rfl rfl (qLd isAgg76 rfl rfl rfl (H.cell 1 rfl (cell_control _)) (qMv rfl rfl rfl (qMv rfl rfl rfl ?_)))))))))));clear hK3;clear F a;intro a F
  refine sBin F rfl rfl rfl rfl (bOr32 ?_ ?_) ?_
  focus (first | exact ha | exact hb)
  focus (first | exact ha | exact hb)
  clear F a; intro a F
  refine sBin F rfl rfl rfl rfl (bOr32 ?_ ?_) ?_
  focus (first | exact hs.control | exact hab)
  focus (first | exact hs.control | exact hab)
  clear F a; intro a F;refine sNc F rfl rfl rfl (qFa (f := 3) (k := 17) underlying81 rfl sizeOf76 rfl rfl rfl rfl rfl ?_);clear F a;intro a F;refine sSt H 1 sizeOf76 F rfl rfl rfl rfl rfl (cell_control _) ?_;clear H; intro w H;rw [show Value.int .u32 ((r.control ||| (argD x.aR x.aN r ||| argD x.bR x.bN r) : Nat) : Int) = u32 (r.control ||| (argD x.aR x.aN r ||| argD x.bR x.bN r)) from rfl, set_control] at H;refine nK hK4 (cSR fun K5 hK5=>sAs F rfl rfl rfl (qNK hK5 ?_));clear hK4 hK5;clear F a;intro a F;refine cSeq (fun K6 hK6 => ?_);refine cSR fun K7 hK7=>sFa (f := 5) (k := 7) underlying59 rfl sizeOf5 rfl rfl F rfl rfl rfl (qLd isAgg5 rfl rfl rfl (H.cell 0 rfl rfl) (qNK hK7 ?_));clear hK7;clear F a;intro a F;refine wp_block ?_;refine cSR fun K8 hK8=>sBin F rfl rfl rfl rfl (bEqlB (y := 4)) (qAs rfl rfl rfl (qNK hK8 ?_));clear hK8;clear F a;intro a F
  refine cIf F rfl (fun h40 => ?_) (fun h40 => ?_)
  ·
   replace h40 := beqT h40;refine cReg (sMv F rfl rfl rfl (qMv rfl rfl rfl (qBin rfl rfl rfl rfl bEqlB (qAs rfl rfl rfl (qNK hK6 (qSR fun K9 hK9=>qMv rfl rfl rfl (qNK hK9 ?_)))))));clear hK6 hK9;clear F a;intro a F
   refine cIf F rfl (fun h50 => ?_) (fun h50 => ?_)
   ·
    replace h50 := beqT h50;refine cRegRO (by kernel_rfl) H ?_;replace H := H.drew;refine eTF 0 rfl (by kernel_rfl) F rfl rfl rfl (fun w=>rMv F rfl) H qq0 (qT 1 rfl (by kernel_rfl) rfl rfl rfl rfl (fun a F w H=>rNc F rfl) H qq0 (qTF 2 rfl (by kernel_rfl) rfl rfl rfl (fun a F w=>rFa (f := 0) (k := 0) underlying81 rfl sizeOf3 rfl rfl F rfl) H qq0 (qT 3 rfl (by kernel_rfl) rfl rfl rfl rfl (fun a F w H=>rLd isAgg3 F rfl (show _ = some (Value.int .i64 (r.pc : Int)) from H.cell 1 rfl (cell_pc _))) H qq0 (qTF 4 rfl (by kernel_rfl) rfl rfl rfl (fun a F w=>rFa (f := 7) (k := 9) underlying59 rfl sizeOf5 rfl rfl F rfl) H qq0 (qT 5 rfl (by kernel_rfl) rfl rfl rfl rfl (fun a F w H=>rLd isAgg5 F rfl (H.cell 0 rfl rfl)) H qq0 (qTF 6 rfl (by kernel_rfl) rfl rfl rfl (fun a F w=>rCv underlying5 underlying3 F rfl (wrapB _)) H qq0 ?_))))));clear F a;intro a F
    refine eTakeF (k := 7) (i := 7) rfl (by kernel_rfl) F rfl rfl rfl (fun w => rBin F rfl rfl (bAddI ?_)) H (fun _ _ _ h => h) ?_
    focus omega
    clear F a; intro a F;refine eT 8 rfl (by kernel_rfl) F rfl rfl rfl rfl (fun w H=>rNc F rfl) H qq0 (qTF 9 rfl (by kernel_rfl) rfl rfl rfl (fun a F w=>rFa (f := 0) (k := 0) underlying81 rfl sizeOf3 rfl rfl F rfl) H qq0 ?_);clear F a;intro a F;refine eOne (k := 10) (i := 10) rfl (by kernel_rfl) F rfl (oSt H 1 sizeOf3 F rfl rfl rfl rfl (cell_pc _) ?_);clear H; intro w H;refine ePartO (by kernel_rfl) H ?_;refine eNil (k := 11) (by kernel_rfl) ?_
    first | refine bEnd results84 F ?_ | (simp only [Exit.then, Exit.inBlock, if_true]; (repeat (first | rw [if_pos rfl] | rw [if_neg (by decide)])); refine bEnd results84 F ?_)
    refine ⟨rfl, ?_⟩
    have H3 := H.sel [1] rfl rfl
    first
    | (have e4 : x.fn = 4 := h40
       have e : argV x.aR x.aN r = argV x.bR x.bN r := h50
       rw [skip_yes ((skp4 e4).trans (beq_iff_eq.2 e))] at H3
       exact H3)
    | (have e4 : x.fn = 4 := h40
       have e : argV x.aR x.aN r ≠ argV x.bR x.bN r := h50
       rw [skip_no ((skp4 e4).trans (beq_false_of_ne e))] at H3
       exact H3)
    | (have e4 : x.fn ≠ 4 := h40
       have e5 : x.fn = 5 := h45
       have e : argV x.aR x.aN r ≠ argV x.bR x.bN r := h50
       rw [skip_yes ((skp5 e4 e5).trans (bne_iff_ne.2 e))] at H3
       exact H3)
    | (have e4 : x.fn ≠ 4 := h40
       have e5 : x.fn = 5 := h45
       have e : argV x.aR x.aN r = argV x.bR x.bN r := h50
       have e6 : (argV x.aR x.aN r != argV x.bR x.bN r) = false := bne_eq_false_iff_eq.2 e
       rw [skip_no ((skp5 e4 e5).trans e6)] at H3
       exact H3)
    | (have e4 : x.fn ≠ 4 := h40
       have e5 : x.fn ≠ 5 := h45
       have e : argV x.aR x.aN r < argV x.bR x.bN r := h50
       rw [skip_yes ((skp6 e4 e5).trans (decide_eq_true e))] at H3
       exact H3)
    | (have e4 : x.fn ≠ 4 := h40
       have e5 : x.fn ≠ 5 := h45
       have e : ¬ argV x.aR x.aN r < argV x.bR x.bN r := h50
       rw [skip_no ((skp6 e4 e5).trans (decide_eq_false e))] at H3
       exact H3)
   replace h50 := beqF h50;refine wp_skip ?_
   first | refine bEnd results84 F ?_ | (simp only [Exit.then, Exit.inBlock, if_true]; (repeat (first | rw [if_pos rfl] | rw [if_neg (by decide)])); refine bEnd results84 F ?_)
   refine ⟨rfl, ?_⟩
   have H3 := H.sel [1] rfl rfl
   first
   | (have e4 : x.fn = 4 := h40
      have e : argV x.aR x.aN r = argV x.bR x.bN r := h50
      rw [skip_yes ((skp4 e4).trans (beq_iff_eq.2 e))] at H3
      exact H3)
   | (have e4 : x.fn = 4 := h40
      have e : argV x.aR x.aN r ≠ argV x.bR x.bN r := h50
      rw [skip_no ((skp4 e4).trans (beq_false_of_ne e))] at H3
      exact H3)
   | (have e4 : x.fn ≠ 4 := h40
      have e5 : x.fn = 5 := h45
      have e : argV x.aR x.aN r ≠ argV x.bR x.bN r := h50
      rw [skip_yes ((skp5 e4 e5).trans (bne_iff_ne.2 e))] at H3
      exact H3)
   | (have e4 : x.fn ≠ 4 := h40
      have e5 : x.fn = 5 := h45
      have e : argV x.aR x.aN r = argV x.bR x.bN r := h50
      have e6 : (argV x.aR x.aN r != argV x.bR x.bN r) = false := bne_eq_false_iff_eq.2 e
      rw [skip_no ((skp5 e4 e5).trans e6)] at H3
      exact H3)
   | (have e4 : x.fn ≠ 4 := h40
      have e5 : x.fn ≠ 5 := h45
      have e : argV x.aR x.aN r < argV x.bR x.bN r := h50
      rw [skip_yes ((skp6 e4 e5).trans (decide_eq_true e))] at H3
      exact H3)
   | (have e4 : x.fn ≠ 4 := h40
      have e5 : x.fn ≠ 5 := h45
      have e : ¬ argV x.aR x.aN r < argV x.bR x.bN r := h50
      rw [skip_no ((skp6 e4 e5).trans (decide_eq_false e))] at H3
      exact H3)
  replace h40 := beqF h40;refine cSR fun K10 hK10=>sBin F rfl rfl rfl rfl (bEqlB (y := 5)) (qAs rfl rfl rfl (qNK hK10 ?_));clear hK10;clear F a;intro a F
  refine cIf F rfl (fun h45 => ?_) (fun h45 => ?_)
  ·
   replace h45 := beqT h45;refine cReg (sMv F rfl rfl rfl (qMv rfl rfl rfl (qBin rfl rfl rfl rfl bNeqB (qAs rfl rfl rfl (qNK hK6 (qSR fun K11 hK11=>qMv rfl rfl rfl (qNK hK11 ?_)))))));clear hK6 hK11;clear F a;intro a F
   refine cIf F rfl (fun h50 => ?_) (fun h50 => ?_)
   ·
    replace h50 := bneT h50;refine cRegRO (by kernel_rfl) H ?_;replace H := H.drew;refine eTF 0 rfl (by kernel_rfl) F rfl rfl rfl (fun w=>rMv F rfl) H qq0 (qT 1 rfl (by kernel_rfl) rfl rfl rfl rfl (fun a F w H=>rNc F rfl) H qq0 (qTF 2 rfl (by kernel_rfl) rfl rfl rfl (fun a F w=>rFa (f := 0) (k := 0) underlying81 rfl sizeOf3 rfl rfl F rfl) H qq0 (qT 3 rfl (by kernel_rfl) rfl rfl rfl rfl (fun a F w H=>rLd isAgg3 F rfl (show _ = some (Value.int .i64 (r.pc : Int)) from H.cell 1 rfl (cell_pc _))) H qq0 (qTF 4 rfl (by kernel_rfl) rfl rfl rfl (fun a F w=>rFa (f := 7) (k := 9) underlying59 rfl sizeOf5 rfl rfl F rfl) H qq0 (qT 5 rfl (by kernel_rfl) rfl rfl rfl rfl (fun a F w H=>rLd isAgg5 F rfl (H.cell 0 rfl rfl)) H qq0 (qTF 6 rfl (by kernel_rfl) rfl rfl rfl (fun a F w=>rCv underlying5 underlying3 F rfl (wrapB _)) H qq0 ?_))))));clear F a;intro a F
    refine eTakeF (k := 7) (i := 7) rfl (by kernel_rfl) F rfl rfl rfl (fun w => rBin F rfl rfl (bAddI ?_)) H (fun _ _ _ h => h) ?_
    focus omega
    clear F a; intro a F;refine eT 8 rfl (by kernel_rfl) F rfl rfl rfl rfl (fun w H=>rNc F rfl) H qq0 (qTF 9 rfl (by kernel_rfl) rfl rfl rfl (fun a F w=>rFa (f := 0) (k := 0) underlying81 rfl sizeOf3 rfl rfl F rfl) H qq0 ?_);clear F a;intro a F;refine eOne (k := 10) (i := 10) rfl (by kernel_rfl) F rfl (oSt H 1 sizeOf3 F rfl rfl rfl rfl (cell_pc _) ?_);clear H; intro w H;refine ePartO (by kernel_rfl) H ?_;refine eNil (k := 11) (by kernel_rfl) ?_
    first | refine bEnd results84 F ?_ | (simp only [Exit.then, Exit.inBlock, if_true]; (repeat (first | rw [if_pos rfl] | rw [if_neg (by decide)])); refine bEnd results84 F ?_)
    refine ⟨rfl, ?_⟩
    have H3 := H.sel [1] rfl rfl
    first
    | (have e4 : x.fn = 4 := h40
       have e : argV x.aR x.aN r = argV x.bR x.bN r := h50
       rw [skip_yes ((skp4 e4).trans (beq_iff_eq.2 e))] at H3
       exact H3)
    | (have e4 : x.fn = 4 := h40
       have e : argV x.aR x.aN r ≠ argV x.bR x.bN r := h50
       rw [skip_no ((skp4 e4).trans (beq_false_of_ne e))] at H3
       exact H3)
    | (have e4 : x.fn ≠ 4 := h40
       have e5 : x.fn = 5 := h45
       have e : argV x.aR x.aN r ≠ argV x.bR x.bN r := h50
       rw [skip_yes ((skp5 e4 e5).trans (bne_iff_ne.2 e))] at H3
       exact H3)
    | (have e4 : x.fn ≠ 4 := h40
       have e5 : x.fn = 5 := h45
       have e : argV x.aR x.aN r = argV x.bR x.bN r := h50
       have e6 : (argV x.aR x.aN r != argV x.bR x.bN r) = false := bne_eq_false_iff_eq.2 e
       rw [skip_no ((skp5 e4 e5).trans e6)] at H3
       exact H3)
    | (have e4 : x.fn ≠ 4 := h40
       have e5 : x.fn ≠ 5 := h45
       have e : argV x.aR x.aN r < argV x.bR x.bN r := h50
       rw [skip_yes ((skp6 e4 e5).trans (decide_eq_true e))] at H3
       exact H3)
    | (have e4 : x.fn ≠ 4 := h40
       have e5 : x.fn ≠ 5 := h45
       have e : ¬ argV x.aR x.aN r < argV x.bR x.bN r := h50
       rw [skip_no ((skp6 e4 e5).trans (decide_eq_false e))] at H3
       exact H3)
   replace h50 := bneF h50;refine wp_skip ?_
   first | refine bEnd results84 F ?_ | (simp only [Exit.then, Exit.inBlock, if_true]; (repeat (first | rw [if_pos rfl] | rw [if_neg (by decide)])); refine bEnd results84 F ?_)
   refine ⟨rfl, ?_⟩
   have H3 := H.sel [1] rfl rfl
   first
   | (have e4 : x.fn = 4 := h40
      have e : argV x.aR x.aN r = argV x.bR x.bN r := h50
      rw [skip_yes ((skp4 e4).trans (beq_iff_eq.2 e))] at H3
      exact H3)
   | (have e4 : x.fn = 4 := h40
      have e : argV x.aR x.aN r ≠ argV x.bR x.bN r := h50
      rw [skip_no ((skp4 e4).trans (beq_false_of_ne e))] at H3
      exact H3)
   | (have e4 : x.fn ≠ 4 := h40
      have e5 : x.fn = 5 := h45
      have e : argV x.aR x.aN r ≠ argV x.bR x.bN r := h50
      rw [skip_yes ((skp5 e4 e5).trans (bne_iff_ne.2 e))] at H3
      exact H3)
   | (have e4 : x.fn ≠ 4 := h40
      have e5 : x.fn = 5 := h45
      have e : argV x.aR x.aN r = argV x.bR x.bN r := h50
      have e6 : (argV x.aR x.aN r != argV x.bR x.bN r) = false := bne_eq_false_iff_eq.2 e
      rw [skip_no ((skp5 e4 e5).trans e6)] at H3
      exact H3)
   | (have e4 : x.fn ≠ 4 := h40
      have e5 : x.fn ≠ 5 := h45
      have e : argV x.aR x.aN r < argV x.bR x.bN r := h50
      rw [skip_yes ((skp6 e4 e5).trans (decide_eq_true e))] at H3
      exact H3)
   | (have e4 : x.fn ≠ 4 := h40
      have e5 : x.fn ≠ 5 := h45
      have e : ¬ argV x.aR x.aN r < argV x.bR x.bN r := h50
      rw [skip_no ((skp6 e4 e5).trans (decide_eq_false e))] at H3
      exact H3)
  replace h45 := beqF h45;refine cReg (sMv F rfl rfl rfl (qMv rfl rfl rfl (qBin rfl rfl rfl rfl bLssB (qAs rfl rfl rfl (qNK hK6 (qSR fun K12 hK12=>qMv rfl rfl rfl (qNK hK12 ?_)))))));clear hK6 hK12;clear F a;intro a F
  refine cIf F rfl (fun h50 => ?_) (fun h50 => ?_)
  ·
   replace h50 := of_decide_eq_true h50;refine cRegRO (by kernel_rfl) H ?_;replace H := H.drew;refine eTF 0 rfl (by kernel_rfl) F rfl rfl rfl (fun w=>rMv F rfl) H qq0 (qT 1 rfl (by kernel_rfl) rfl rfl rfl rfl (fun a F w H=>rNc F rfl) H qq0 (qTF 2 rfl (by kernel_rfl) rfl rfl rfl (fun a F w=>rFa (f := 0) (k := 0) underlying81 rfl sizeOf3 rfl rfl F rfl) H qq0 (qT 3 rfl (by kernel_rfl) rfl rfl rfl rfl (fun a F w H=>rLd isAgg3 F rfl (show _ = some (Value.int .i64 (r.pc : Int)) from H.cell 1 rfl (cell_pc _))) H qq0 (qTF 4 rfl (by kernel_rfl) rfl rfl rfl (fun a F w=>rFa (f := 7) (k := 9) underlying59 rfl sizeOf5 rfl rfl F rfl) H qq0 (qT 5 rfl (by kernel_rfl) rfl rfl rfl rfl (fun a F w H=>rLd isAgg5 F rfl (H.cell 0 rfl rfl)) H qq0 (qTF 6 rfl (by kernel_rfl) rfl rfl rfl (fun a F w=>rCv underlying5 underlying3 F rfl (wrapB _)) H qq0 ?_))))));clear F a;intro a F
   refine eTakeF (k := 7) (i := 7) rfl (by kernel_rfl) F rfl rfl rfl (fun w => rBin F rfl rfl (bAddI ?_)) H (fun _ _ _ h => h) ?_
   focus omega
   clear F a; intro a F;refine eT 8 rfl (by kernel_rfl) F rfl rfl rfl rfl (fun w H=>rNc F rfl) H qq0 (qTF 9 rfl (by kernel_rfl) rfl rfl rfl (fun a F w=>rFa (f := 0) (k := 0) underlying81 rfl sizeOf3 rfl rfl F rfl) H qq0 ?_);clear F a;intro a F;refine eOne (k := 10) (i := 10) rfl (by kernel_rfl) F rfl (oSt H 1 sizeOf3 F rfl rfl rfl rfl (cell_pc _) ?_);clear H; intro w H;refine ePartO (by kernel_rfl) H ?_;refine eNil (k := 11) (by kernel_rfl) ?_
   first | refine bEnd results84 F ?_ | (simp only [Exit.then, Exit.inBlock, if_true]; (repeat (first | rw [if_pos rfl] | rw [if_neg (by decide)])); refine bEnd results84 F ?_)
   refine ⟨rfl, ?_⟩
   have H3 := H.sel [1] rfl rfl
   first
   | (have e4 : x.fn = 4 := h40
      have e : argV x.aR x.aN r = argV x.bR x.bN r := h50
      rw [skip_yes ((skp4 e4).trans (beq_iff_eq.2 e))] at H3
      exact H3)
   | (have e4 : x.fn = 4 := h40
      have e : argV x.aR x.aN r ≠ argV x.bR x.bN r := h50
      rw [skip_no ((skp4 e4).trans (beq_false_of_ne e))] at H3
      exact H3)
   | (have e4 : x.fn ≠ 4 := h40
      have e5 : x.fn = 5 := h45
      have e : argV x.aR x.aN r ≠ argV x.bR x.bN r := h50
      rw [skip_yes ((skp5 e4 e5).trans (bne_iff_ne.2 e))] at H3
      exact H3)
   | (have e4 : x.fn ≠ 4 := h40
      have e5 : x.fn = 5 := h45
      have e : argV x.aR x.aN r = argV x.bR x.bN r := h50
      have e6 : (argV x.aR x.aN r != argV x.bR x.bN r) = false := bne_eq_false_iff_eq.2 e
      rw [skip_no ((skp5 e4 e5).trans e6)] at H3
      exact H3)
   | (have e4 : x.fn ≠ 4 := h40
      have e5 : x.fn ≠ 5 := h45
      have e : argV x.aR x.aN r < argV x.bR x.bN r := h50
      rw [skip_yes ((skp6 e4 e5).trans (decide_eq_true e))] at H3
      exact H3)
   | (have e4 : x.fn ≠ 4 := h40
      have e5 : x.fn ≠ 5 := h45
      have e : ¬ argV x.aR x.aN r < argV x.bR x.bN r := h50
      rw [skip_no ((skp6 e4 e5).trans (decide_eq_false e))] at H3
      exact H3)
  replace h50 := of_decide_eq_false h50;refine wp_skip ?_
  first | refine bEnd results84 F ?_ | (simp only [Exit.then, Exit.inBlock, if_true]; (repeat (first | rw [if_pos rfl] | rw [if_neg (by decide)])); refine bEnd results84 F ?_)
  refine ⟨rfl, ?_⟩
  have H3 := H.sel [1] rfl rfl
  first
  | (have e4 : x.fn = 4 := h40
     have e : argV x.aR x.aN r = argV x.bR x.bN r := h50
     rw [skip_yes ((skp4 e4).trans (beq_iff_eq.2 e))] at H3
     exact H3)
  | (have e4 : x.fn = 4 := h40
     have e : argV x.aR x.aN r ≠ argV x.bR x.bN r := h50
     rw [skip_no ((skp4 e4).trans (beq_false_of_ne e))] at H3
     exact H3)
  | (have e4 : x.fn ≠ 4 := h40
     have e5 : x.fn = 5 := h45
     have e : argV x.aR x.aN r ≠ argV x.bR x.bN r := h50
     rw [skip_yes ((skp5 e4 e5).trans (bne_iff_ne.2 e))] at H3
     exact H3)
  | (have e4 : x.fn ≠ 4 := h40
     have e5 : x.fn = 5 := h45
     have e : argV x.aR x.aN r = argV x.bR x.bN r := h50
     have e6 : (argV x.aR x.aN r != argV x.bR x.bN r) = false := bne_eq_false_iff_eq.2 e
     rw [skip_no ((skp5 e4 e5).trans e6)] at H3
     exact H3)
  | (have e4 : x.fn ≠ 4 := h40
     have e5 : x.fn ≠ 5 := h45
     have e : argV x.aR x.aN r < argV x.bR x.bN r := h50
     rw [skip_yes ((skp6 e4 e5).trans (decide_eq_true e))] at H3
     exact H3)
  | (have e4 : x.fn ≠ 4 := h40
     have e5 : x.fn ≠ 5 := h45
     have e : ¬ argV x.aR x.aN r < argV x.bR x.bN r := h50
     rw [skip_no ((skp6 e4 e5).trans (decide_eq_false e))] at H3
     exact H3)
end Go.Proofs.YtklpiodciblabaaGreatDoor
