/-
  WALK2. Package path: a run's registers and events. Conditions: the run lies in a block of the caller's.
-/
import Derived.Test.YtklpiodciblabaaGreatDoorPaP
import Derived.Test.YtklpiodciblabaaGreatDoorVcL
set_option linter.unusedSimpArgs false
set_option linter.unusedVariables false
namespace Go.Proofs.YtklpiodciblabaaGreatDoor
open Go.Proofs.Tryz
open Go.RowKit
set_option maxRecDepth 100000
section
variable {P : Program} {t : TypeId} {x y : Operand} {n m : Nat}
theorem u32wrap (n : Int) : IntKind.u32.wrap n = n % 4294967296 := by simp [IntKind.wrap, IntKind.signed, IntKind.bits]
theorem bOr32 (hn : n < 4294967296) (hm : m < 4294967296) : BinR P .or t x y (.int .u32 (n : Int)) (.int .u32 (m : Int)) (.int .u32 ((n ||| m : Nat) : Int)) := fun w => by
  have h : n ||| m < 2 ^ 32 := Nat.or_lt_two_pow hn hm
  simp only [eqGuard, binOp, Op.intBits, go_sem]
  show Result.ok (Value.int .u32 (IntKind.u32.wrap ((BitVec.ofInt 32 (n : Int) ||| BitVec.ofInt 32 (m : Int)).toNat : Int))) w = _
  have e1 : (BitVec.ofInt 32 (n : Int) ||| BitVec.ofInt 32 (m : Int)).toNat = n ||| m := by
    rw [BitVec.toNat_or, BitVec.ofInt_natCast, BitVec.ofInt_natCast, BitVec.toNat_ofNat, BitVec.toNat_ofNat, Nat.mod_eq_of_lt hn, Nat.mod_eq_of_lt hm]
  rw [e1, u32wrap]
  have : ((n ||| m : Nat) : Int) % 4294967296 = ((n ||| m : Nat) : Int) := by omega
  rw [this]
theorem bShl1 (hn : n < 32) : BinR P .shl t x y (.int .u32 1) (.int .i64 (n : Int)) (.int .u32 ((2 ^ n : Nat) : Int)) := fun w => by
  have h2 : Op.shift .shl .u32 1 .i64 (n : Int) = pure (.int .u32 (IntKind.u32.wrap (1 * 2 ^ (n : Int).toNat))) := shift_shl .u32 .i64 1 (n : Int) (by omega) (by show (n : Int) ≤ 32; omega)
  simp only [eqGuard_shl, binOp_shl, h2]
  show Result.ok (Value.int .u32 (IntKind.u32.wrap (1 * 2 ^ n))) w = _
  have h3 : 2 ^ n < 2 ^ 32 := Nat.pow_lt_pow_right (by decide) hn
  have e : IntKind.u32.wrap (1 * 2 ^ n) = ((2 ^ n : Nat) : Int) := by
    rw [u32wrap, Int.one_mul]
    have : ((2 : Int) ^ n) = ((2 ^ n : Nat) : Int) := by simp
    rw [this]
    generalize 2 ^ n = k at h3 ⊢
    omega
  rw [e]
end
theorem Own.startRow {w : World} {b : Nat} {cs : List Value} {t : TypeId} (h : Blk w b cs t) : Own w (some b) w [.blk b cs t] where
  grown := only_refl w _
  pred := fun i r hi => by
    cases i with
    | zero => cases hi; exact h
    | succ i => simp at hi
  foot := fun i r hi c hc => by
    cases i with
    | zero =>
      cases hi
      have hc : c = b := hc
      subst hc
      exact ⟨.inr rfl, (Array.getElem?_eq_some_iff.1 h).1⟩
    | succ i => simp at hi
  apart := fun i j r s hi hj hij => by
    cases i with
    | zero => cases j with
      | zero => exact absurd rfl hij
      | succ j => simp at hj
    | succ i => simp at hi
theorem cell_reg (r : RunP) {d : Nat} (hd : d < 8) : r.cells[1 + d]? = some (b8 (r.regs d)) := by
  rw [r.get (by omega)]
  unfold RunP.cell
  rw [if_neg (by omega), if_pos (by omega), show 1 + d - 1 = d by omega]
theorem cell_dep (r : RunP) {d : Nat} (hd : d < 8) : r.cells[9 + d]? = some (u32 (r.deps d)) := by
  rw [r.get (by omega)]
  unfold RunP.cell
  rw [if_neg (by omega), if_neg (by omega), if_pos (by omega), show 9 + d - 9 = d by omega]
theorem cell_pc (r : RunP) : r.cells[0]? = some (.int .i64 (r.pc : Int)) := r.get (by decide)
theorem cell_control (r : RunP) : r.cells[17]? = some (u32 r.control) := r.get (by decide)
theorem cell_many (r : RunP) : r.cells[18]? = some (.int .i64 (r.many : Int)) := r.get (by decide)
theorem cell_data (r : RunP) {k : Nat} (hk : k < 24) : r.cells[187 + k]? = some (u32 (r.data k)) := by
  rw [r.get (by omega), cell_hi _ (by omega), if_neg (by omega), if_pos (by omega), show 187 + k - 187 = k by omega]
theorem cell_ctrl (r : RunP) {k : Nat} (hk : k < 24) : r.cells[211 + k]? = some (u32 (r.ctrl k)) := by
  rw [r.get (by omega), cell_hi _ (by omega), if_neg (by omega), if_neg (by omega), if_pos (by omega), show 211 + k - 211 = k by omega]
theorem cell_att (r : RunP) {k : Nat} (hk : k < 24) : r.cells[235 + k]? = some (u32 (r.att k)) := by
  rw [r.get (by omega), cell_hi _ (by omega), if_neg (by omega), if_neg (by omega), if_neg (by omega), show 235 + k - 235 = k by omega]
def RunAt (w : World) (b : Nat) (r : RunP) : Prop := Blk w b r.cells 81
theorem blk_whole {w : World} {b : Nat} {cs : List Value} {t : TypeId} (h : Blk w b cs t) : w.rangeAt b 0 cs := by
  have := h.range 0 cs.length
  rwa [List.drop_zero, List.take_length] at this
theorem value_any (b : Nat) (r : RunP) (isR : Bool) (n : UInt8) (w0 : World) (hB : RunAt w0 b r) (hn : isR = true → n.toNat < 8) :
    Calls Tryz.prog 109 #[.pointer (some ⟨b, 0, none⟩), .agg #[.bool isR, Go.Proofs.YtklpiodciblabaaGreatDoor.b8 n]] w0 fun e w' => e = .returned (.tuple #[Go.Proofs.YtklpiodciblabaaGreatDoor.b8 (argV isR n r), u32 (argD isR n r)]) ∧ Below w0.heap.size w0 w' := by
  have H := Own.start w0 none
  have hW : w0.rangeAt b 0 r.cells := blk_whole hB
  refine enterF func109 rfl ntmps109 rfl (fun a F => ?_);refine cSR fun K1 hK1=>?_;refine sBx H F rfl rfl rfl ?_;clear F a H; intro b3 a w F H;refine sAs F rfl rfl rfl (qAs rfl rfl rfl (qNK hK1 ?_));clear hK1;clear F a;intro a F;refine cSeq (fun K2 hK2 => ?_);refine cSR fun K3 hK3=>sFa (f := 0) (k := 0) underlying57 rfl sizeOf4 rfl rfl F rfl rfl rfl (qLd isAgg4 rfl rfl rfl (H.cell 0 rfl rfl) (qNK hK3 ?_));clear hK3;clear F a;intro a F
  refine cIf F rfl (fun h7 => ?_) (fun h7 => ?_)
  ·
   have hn8 := hn h7
   refine cSeq (fun K4 hK4 => ?_);refine cRegRO (by kernel_rfl) H ?_;replace H := H.drew;refine eTF 0 rfl (by kernel_rfl) F rfl rfl rfl (fun w=>rMv F rfl) H qq0 (qTF 1 rfl (by kernel_rfl) rfl rfl rfl (fun a F w=>rFa (f := 1) (k := 1) underlying57 rfl sizeOf5 rfl rfl F rfl) H qq0 (qT 2 rfl (by kernel_rfl) rfl rfl rfl rfl (fun a F w H=>rLd isAgg5 F rfl (H.cell 0 rfl rfl)) H qq0 (qT 3 rfl (by kernel_rfl) rfl rfl rfl rfl (fun a F w H=>rNc F rfl) H qq0 (qTF 4 rfl (by kernel_rfl) rfl rfl rfl (fun a F w=>rFa (f := 1) (k := 1) underlying81 rfl sizeOf26 rfl rfl F rfl) H qq0 ?_))));clear F a;intro a F
   refine eTakeF (k := 5) (i := 5) rfl (by kernel_rfl) F rfl rfl rfl (fun w => rIa1 underlying26 sizeOf5 F rfl rfl ?_) H (fun _ _ _ h => h) ?_
   focus (first | omega | decide | (simp; omega))
   clear F a; intro a F;refine eT 6 rfl (by kernel_rfl) F rfl rfl rfl rfl (fun w H=>rLd isAgg5 F rfl (H.arg (by have := hW _ _ (cell_reg r hn8); simpa using this))) H qq0 (qTF 7 rfl (by kernel_rfl) rfl rfl rfl (fun a F w=>rMv F rfl) H qq0 (qTF 8 rfl (by kernel_rfl) rfl rfl rfl (fun a F w=>rFa (f := 1) (k := 1) underlying57 rfl sizeOf5 rfl rfl F rfl) H qq0 (qT 9 rfl (by kernel_rfl) rfl rfl rfl rfl (fun a F w H=>rLd isAgg5 F rfl (H.cell 0 rfl rfl)) H qq0 (qT 10 rfl (by kernel_rfl) rfl rfl rfl rfl (fun a F w H=>rNc F rfl) H qq0 (qTF 11 rfl (by kernel_rfl) rfl rfl rfl (fun a F w=>rFa (f := 2) (k := 9) underlying81 rfl sizeOf77 rfl rfl F rfl) H qq0 ?_)))));clear F a;intro a F
   refine eTakeF (k := 12) (i := 12) rfl (by kernel_rfl) F rfl rfl rfl (fun w => rIa1 underlying77 sizeOf76 F rfl rfl ?_) H (fun _ _ _ h => h) ?_
   focus (first | omega | decide | (simp; omega))
   clear F a; intro a F;refine eT 13 rfl (by kernel_rfl) F rfl rfl rfl rfl (fun w H=>rLd isAgg76 F rfl (H.arg (by have := hW _ _ (cell_dep r hn8); simpa using this))) H qq0 (qTF 14 rfl (by kernel_rfl) rfl rfl rfl (fun a F w=>rAs F rfl) H qq0 (qTF 15 rfl (by kernel_rfl) rfl rfl rfl (fun a F w=>rAs F rfl) H qq0 ?_));clear F a;intro a F;refine eNil (k := 16) (by kernel_rfl) ?_;refine hK4 _ _ ?_;clear hK4;refine wp_ret ?_;simp only [Exit.then];refine bRet2 results109 F rfl rfl ?_
   first
   | (have e : isR = true := h7
      refine ⟨?_, H.below⟩
      unfold argV argD
      rw [if_pos e, if_pos e])
   | (have e : isR = false := h7
      refine ⟨?_, H.below⟩
      unfold argV argD
      rw [if_neg (by rw [e]; decide), if_neg (by rw [e]; decide)]
      rfl)
  refine wp_skip (hK2 _ _ (cSR fun K5 hK5=>sFa (f := 1) (k := 1) underlying57 rfl sizeOf5 rfl rfl F rfl rfl rfl (qLd isAgg5 rfl rfl rfl (H.cell 0 rfl rfl) (qAs rfl rfl rfl (qAs rfl rfl rfl (qNK hK5 ?_))))));clear hK2 hK5;clear F a;intro a F;refine wp_ret ?_;refine bRet2 results109 F rfl rfl ?_
  first
  | (have e : isR = true := h7
     refine ⟨?_, H.below⟩
     unfold argV argD
     rw [if_pos e, if_pos e])
  | (have e : isR = false := h7
     refine ⟨?_, H.below⟩
     unfold argV argD
     rw [if_neg (by rw [e]; decide), if_neg (by rw [e]; decide)]
     rfl)
theorem setR_any (b : Nat) (r : RunP) (d v : UInt8) (n : Nat) (w0 : World) (hB : RunAt w0 b r) (hd : d.toNat < 8) :
    Calls Tryz.prog 108 #[.pointer (some ⟨b, 0, none⟩), Go.Proofs.YtklpiodciblabaaGreatDoor.b8 d, Go.Proofs.YtklpiodciblabaaGreatDoor.b8 v, u32 n] w0 fun e w' => e = .returned (.tuple #[]) ∧ Own w0 (some b) w' [.blk b (setP d v n r).cells 81] := by
  have H := Own.startRow hB
  refine enterF func108 rfl ntmps108 rfl (fun a F => ?_);refine cSR fun K1 hK1=>sMv F rfl rfl rfl (qMv rfl rfl rfl (qMv rfl rfl rfl (qNc rfl rfl rfl (qFa (f := 1) (k := 1) underlying81 rfl sizeOf26 rfl rfl rfl rfl rfl ?_))));clear F a;intro a F
  refine sIa1 underlying26 sizeOf5 F rfl rfl rfl rfl ?_ ?_
  focus (first | omega | decide | (simp; omega))
  clear F a; intro a F
  refine sSt H 0 sizeOf5 F rfl rfl rfl rfl rfl (List.getElem?_eq_getElem (by simp [RunP.len]; omega)) ?_
  clear H; intro w H;refine nK hK1 (cReg (sMv F rfl rfl rfl (qMv rfl rfl rfl (qMv rfl rfl rfl (qNc rfl rfl rfl (qFa (f := 2) (k := 9) underlying81 rfl sizeOf77 rfl rfl rfl rfl rfl ?_))))));clear hK1;clear F a;intro a F
  refine sIa1 underlying77 sizeOf76 F rfl rfl rfl rfl ?_ ?_
  focus (first | omega | decide | (simp; omega))
  clear F a; intro a F
  refine sSt H 0 sizeOf76 F rfl rfl rfl rfl rfl (List.getElem?_eq_getElem (by simp [RunP.len]; omega)) ?_
  clear H; intro w H;refine sNil ?_
  first | refine bEnd results108 F ?_ | (simp only [Exit.then, Exit.inBlock, if_true]; (repeat (first | rw [if_pos rfl] | rw [if_neg (by decide)])); refine bEnd results108 F ?_)
  exact ⟨rfl, by rw [set_reg r hd v, set_dep _ hd n] at H; exact H⟩
theorem emit_any (b : Nat) (r : RunP) (kind loc val mode : UInt8) (n : Nat) (w0 : World) (hB : RunAt w0 b r) (hm : r.many < 24) (hpc : r.pc < 256) :
    Calls Tryz.prog 107 #[.pointer (some ⟨b, 0, none⟩), Go.Proofs.YtklpiodciblabaaGreatDoor.b8 kind, Go.Proofs.YtklpiodciblabaaGreatDoor.b8 loc, Go.Proofs.YtklpiodciblabaaGreatDoor.b8 val, Go.Proofs.YtklpiodciblabaaGreatDoor.b8 mode, u32 n] w0 fun e w' => e = .returned (.int .i64 (r.many : Int)) ∧ Own w0 (some b) w' [.blk b (emitP kind loc val mode n r).cells 81] := by
  have H := Own.startRow hB
  refine enterF func107 rfl ntmps107 rfl (fun a F => ?_);refine cSR fun K1 hK1=>sAs F rfl rfl rfl (qNK hK1 (qSR fun K2 hK2=>qMv rfl rfl rfl (qNc rfl rfl rfl (qFa (f := 4) (k := 18) underlying81 rfl sizeOf3 rfl rfl rfl rfl rfl (qLd isAgg3 rfl rfl rfl (H.cell 0 rfl (cell_many _)) (qAs rfl rfl rfl (qNK hK2 ?_)))))));clear hK1 hK2;clear F a;intro a F;refine cSeq (fun K3 hK3 => ?_);refine cRegRO (by kernel_rfl) H ?_;replace H := H.drew;refine eTF 0 rfl (by kernel_rfl) F rfl rfl rfl (fun w=>rMv F rfl) H qq0 (qTF 1 rfl (by kernel_rfl) rfl rfl rfl (fun a F w=>rMv F rfl) H qq0 (qTF 2 rfl (by kernel_rfl) rfl rfl rfl (fun a F w=>rMv F rfl) H qq0 (qTF 3 rfl (by kernel_rfl) rfl rfl rfl (fun a F w=>rMv F rfl) H qq0 (qTF 4 rfl (by kernel_rfl) rfl rfl rfl (fun a F w=>rMv F rfl) H qq0 (qTF 5 rfl (by kernel_rfl) rfl rfl rfl (fun a F w=>rMv F rfl) H qq0 (qTF 6 rfl (by kernel_rfl) rfl rfl rfl (fun a F w=>rMv F rfl) H qq0 (qT 7 rfl (by kernel_rfl) rfl rfl rfl rfl (fun a F w H=>rNc F rfl) H qq0 (qTF 8 rfl (by kernel_rfl) rfl rfl rfl (fun a F w=>rFa (f := 0) (k := 0) underlying81 rfl sizeOf3 rfl rfl F rfl) H qq0 (qT 9 rfl (by kernel_rfl) rfl rfl rfl rfl (fun a F w H=>rLd isAgg3 F rfl (H.cell 0 rfl (cell_pc _))) H qq0 (qTF 10 rfl (by kernel_rfl) rfl rfl rfl (fun a F w=>rCv underlying3 underlying5 F rfl (wrap8 _)) H qq0 (qTF 11 rfl (by kernel_rfl) rfl rfl rfl (fun a F w=>rMv F rfl) H qq0 (qTF 12 rfl (by kernel_rfl) rfl rfl rfl (fun a F w=>rCv underlying3 underlying5 F rfl (wrap8 _)) H qq0 (qT 13 rfl (by kernel_rfl) rfl rfl rfl rfl (fun a F w H=>rBd (cs := Ev.cells ⟨kind, loc, val, mode, UInt8.ofNat r.pc, UInt8.ofNat r.many⟩) (places := [(0, 1), (1, 1), (2, 1), (3, 1), (4, 1), (5, 1), (6, 1)]) zeroValue34 underlying34 (by kernel_rfl) F rfl rfl) H qq0 (qT 14 rfl (by kernel_rfl) rfl rfl rfl rfl (fun a F w H=>rNc F rfl) H qq0 (qTF 15 rfl (by kernel_rfl) rfl rfl rfl (fun a F w=>rFa (f := 5) (k := 19) underlying81 rfl sizeOf78 rfl rfl F rfl) H qq0 ?_)))))))))))))));clear F a;intro a F
  refine eTakeF (k := 16) (i := 16) rfl (by kernel_rfl) F rfl rfl rfl (fun w => rIa underlying78 sizeOf34 F rfl rfl ?_) H (fun _ _ _ h => h) ?_
  focus (first | omega | decide | (simp; omega))
  clear F a; intro a F
  refine eOne (k := 17) (i := 17) rfl (by kernel_rfl) F rfl (oSr H 0 ?si F rfl rfl ?s1 rfl (Nat.ble_eq_true_of_le (by rw [RunP.len]; show 19 + r.many * 7 + 7 ≤ 259; omega)) ?_)
  case si => exact info_size sizeOf34
  case s1 => first | rfl | (repeat (first | exact one_nil | (apply one_cons; · first | rfl | assumption | exact one_bif rfl rfl)))
  clear H; intro w H;rw [set_ev r hm ⟨kind, loc, val, mode, UInt8.ofNat r.pc, UInt8.ofNat r.many⟩] at H;refine ePartO (by kernel_rfl) H ?_;refine eNil (k := 18) (by kernel_rfl) ?_;refine hK3 _ _ (cSR fun K4 hK4=>sMv F rfl rfl rfl (qMv rfl rfl rfl (qMv rfl rfl rfl (qNc rfl rfl rfl (qFa (f := 6) (k := 187) underlying81 rfl sizeOf79 rfl rfl rfl rfl rfl ?_)))));clear hK3;clear F a;intro a F
  refine sIa1 underlying79 sizeOf76 F rfl rfl rfl rfl ?_ ?_
  focus (first | omega | decide | (simp; omega))
  clear F a; intro a F;refine sSt H 0 sizeOf76 F rfl rfl rfl rfl rfl (cell_data _ hm) ?_;clear H; intro w H;rw [set_data _ hm] at H;refine nK hK4 ?_;clear hK4;refine cSeq (fun K5 hK5 => ?_);refine cRegRO (by kernel_rfl) H ?_;replace H := H.drew;refine eTF 0 rfl (by kernel_rfl) F rfl rfl rfl (fun w=>rMv F rfl) H qq0 (qTF 1 rfl (by kernel_rfl) rfl rfl rfl (fun a F w=>rMv F rfl) H qq0 (qTF 2 rfl (by kernel_rfl) rfl rfl rfl (fun a F w=>rMv F rfl) H qq0 (qT 3 rfl (by kernel_rfl) rfl rfl rfl rfl (fun a F w H=>rNc F rfl) H qq0 (qTF 4 rfl (by kernel_rfl) rfl rfl rfl (fun a F w=>rFa (f := 3) (k := 17) underlying81 rfl sizeOf76 rfl rfl F rfl) H qq0 (qT 5 rfl (by kernel_rfl) rfl rfl rfl rfl (fun a F w H=>rLd isAgg76 F rfl (show _ = some (u32 r.control) from H.cell 0 rfl (cell_control _))) H qq0 (qT 6 rfl (by kernel_rfl) rfl rfl rfl rfl (fun a F w H=>rNc F rfl) H qq0 (qTF 7 rfl (by kernel_rfl) rfl rfl rfl (fun a F w=>rFa (f := 7) (k := 211) underlying81 rfl sizeOf79 rfl rfl F rfl) H qq0 ?_)))))));clear F a;intro a F
  refine eTakeF (k := 8) (i := 8) rfl (by kernel_rfl) F rfl rfl rfl (fun w => rIa1 underlying79 sizeOf76 F rfl rfl ?_) H (fun _ _ _ h => h) ?_
  focus (first | omega | decide | (simp; omega))
  clear F a; intro a F;refine eOne (k := 9) (i := 9) rfl (by kernel_rfl) F rfl (oSt H 0 sizeOf76 F rfl rfl rfl rfl (cell_ctrl _ hm) ?_);clear H; intro w H;rw [set_ctrl _ hm] at H;refine ePartO (by kernel_rfl) H ?_;refine eNil (k := 10) (by kernel_rfl) ?_;refine hK5 _ _ (cSR fun K6 hK6=>sMv F rfl rfl rfl (qNc rfl rfl rfl (qFa (f := 4) (k := 18) underlying81 rfl sizeOf3 rfl rfl rfl rfl rfl (qLd isAgg3 rfl rfl rfl (show _ = some (Value.int .i64 (r.many : Int)) from H.cell 0 rfl (cell_many _)) ?_))));clear hK5;clear F a;intro a F
  refine sBin F rfl rfl rfl rfl (bAddI ?_) ?_
  focus omega
  clear F a; intro a F;refine sNc F rfl rfl rfl (qFa (f := 4) (k := 18) underlying81 rfl sizeOf3 rfl rfl rfl rfl rfl ?_);clear F a;intro a F;refine sSt H 0 sizeOf3 F rfl rfl rfl rfl rfl rfl ?_;clear H; intro w H;refine nK hK6 (cSR fun K7 hK7=>sMv F rfl rfl rfl (qAs rfl rfl rfl (qNK hK7 ?_)));clear hK6 hK7;clear F a;intro a F;refine wp_ret ?_;refine bRet results107 F rfl ?_
  exact ⟨rfl, by rw [show ((r.many : Int) + 1) = ((r.many + 1 : Nat) : Int) from rfl, set_many] at H; exact H⟩
end Go.Proofs.YtklpiodciblabaaGreatDoor
