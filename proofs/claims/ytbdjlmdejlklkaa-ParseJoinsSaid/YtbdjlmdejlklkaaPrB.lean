/-
  WALK2. Package parse: the functions on tokens that may fail. Conditions: the parser and its tokens lie in memory.
-/
import Derived.Test.YtbdjlmdejlklkaaPrA
import Derived.Test.YtbdjlmdejlklkaaPrF
set_option linter.unusedSimpArgs false
set_option linter.unusedVariables false
namespace Go.Proofs.Ytbdjlmdejlklkaa
open Go.RowKit
set_option maxRecDepth 100000
theorem numV_ok {s : ByteArray} (h : numOk s = true) : numV s ≤ 255 := by
  unfold numV
  rw [if_pos h]
  unfold numOk at h
  split at h
  · simp only [Bool.and_eq_true, decide_eq_true_eq] at h; exact h.2
  · cases h
theorem b8_num {s : ByteArray} (h : numOk s = true) : Value.int .u8 (numV s : Int) = b8 (UInt8.ofNat (numV s)) := by
  have := numV_ok h
  unfold b8
  rw [UInt8.toNat_ofNat', Nat.mod_eq_of_lt (by omega)]
theorem b8_reg {s : ByteArray} (h : regOk s = true) : Value.int .u8 (regV s) = b8 (UInt8.ofNat (regV s).toNat) := by
  have h1 := regV_lt h
  have h2 : 0 ≤ regV s := by
    unfold regV
    unfold regOk at h
    split at h
    next hs =>
      rw [dif_pos hs]
      simp only [Bool.and_eq_true, beq_iff_eq, decide_eq_true_eq] at h
      split <;> omega
    next => cases h
  unfold b8
  rw [UInt8.toNat_ofNat', Nat.mod_eq_of_lt (by omega), Int.toNat_of_nonneg h2]
theorem PX.Ok.textLe {c : PX} (hc : c.Ok) (i : Nat) : (c.text i).size ≤ maxLen := by
  unfold maxLen PX.text
  cases h : c.ts[i]? with
  | some t => have := (hc.text i t h).1; show t.text.size ≤ _; omega
  | none => show ByteArray.empty.size ≤ _; exact Nat.zero_le _
theorem PX.Ok.wordLe {c : PX} (hc : c.Ok) (i : Nat) : (c.word i).size ≤ maxLen := by
  unfold PX.word
  split
  · exact hc.textLe i
  · exact Nat.zero_le _
theorem psign_any (str : List UInt8) {W w0 : World} {rs : List Res} {c : PX} (hc : c.Ok) {A : Option Addr} {C bp : Nat} {S : Nat → Prop} {s : PS} {Y : List Value} (hp : s.pos ≤ 1000000) (H : Own W none w0 (.blk bp (curC c A C s Y) 59 :: .held S A 3 (rowsT c.ts) :: rs)) :
    Calls Try.prog 72 #[.pointer (some ⟨bp, 0, none⟩), .string ⟨str.toArray⟩] w0 fun e w' => Ans W rs (signP c str s) (fun v t e w' => e = .returned (.tuple #[]) ∧ Own W none w' (.blk bp (curC c A C t Y) 59 :: .held S A 3 (rowsT c.ts) :: rs)) e w' := by
  refine enterF Try.func72 rfl Try.ntmps72 rfl (fun a F => ?_)
  refine cSeq (fun K1 hK1 => ?_)
  refine cSeq (fun K2 hK2 => ?_)
  refine cReg ?_
  refine sMv F rfl rfl rfl ?_;clear F a;intro a F
  refine sMv F rfl rfl rfl ?_;clear F a;intro a F
  refine sCall Try.call62 F rfl rfl rfl (pis_any str hc hp H) ?_
  rintro e w ⟨rfl, H⟩
  refine ⟨_, rfl, ?_⟩
  clear F a; intro a F
  refine sNot F rfl rfl rfl ?_;clear F a;intro a F
  refine sNil ?_
  refine hK2 _ _ ?_; clear hK2
  refine cIf F rfl (fun h7 => ?_) (fun h7 => ?_)
  ·
   replace h7 := notT h7
   have hk : c.is s.pos str = false := by simpa using h7
   refine cReg ?_
   refine sMv F rfl rfl rfl ?_;clear F a;intro a F
   refine sCall Try.call27 F rfl rfl rfl (pplace_any hc hp H) ?_
   rintro e w ⟨rfl, H⟩
   refine ⟨_, rfl, ?_⟩
   clear F a; intro a F
   refine sCallP Try.call31 F rfl rfl rfl (fail_any _ 50 H) ?_
   rintro e w ⟨rfl, H⟩
   refine .inl ⟨_, rfl, ?_⟩
   exact And.intro F.nod (Ans.no (by unfold signP; rw [if_neg (by rw [hk]; exact Bool.false_ne_true)]; rfl) H.tail.tail)
  replace h7 := notF h7
  have hk : c.is s.pos str = true := by simpa using h7
  refine wp_skip ?_
  refine hK1 _ _ ?_; clear hK1
  refine cReg ?_
  refine sMv F rfl rfl rfl ?_;clear F a;intro a F
  refine sCall Try.call48 F rfl rfl rfl (pstep_any hc hp H) ?_
  rintro e w ⟨rfl, H⟩
  refine ⟨_, rfl, ?_⟩
  clear F a; intro a F
  refine sNil ?_
  first | refine bEnd Try.results72 F ?_ | (simp only [Exit.then, Exit.inBlock, if_true]; (repeat (first | rw [if_pos rfl] | rw [if_neg (by decide)])); refine bEnd Try.results72 F ?_)
  exact Ans.ok (by unfold signP; rw [if_pos hk]) ⟨rfl, H⟩
theorem pend_any {W w0 : World} {rs : List Res} {c : PX} (hc : c.Ok) {A : Option Addr} {C bp : Nat} {S : Nat → Prop} {s : PS} {Y : List Value} (hp : s.pos ≤ 1000000) (H : Own W none w0 (.blk bp (curC c A C s Y) 59 :: .held S A 3 (rowsT c.ts) :: rs)) :
    Calls Try.prog 29 #[.pointer (some ⟨bp, 0, none⟩)] w0 fun e w' => Ans W rs (endP c s) (fun v t e w' => e = .returned (.tuple #[]) ∧ Own W none w' (.blk bp (curC c A C t Y) 59 :: .held S A 3 (rowsT c.ts) :: rs)) e w' := by
  refine enterF Try.func29 rfl Try.ntmps29 rfl (fun a F => ?_)
  refine cSeq (fun K1 hK1 => ?_)
  refine cSeq (fun K2 hK2 => ?_)
  refine cReg ?_
  refine sMv F rfl rfl rfl ?_;clear F a;intro a F
  refine sCall Try.call47 F rfl rfl rfl (pends_any hc hp H) ?_
  rintro e w ⟨rfl, H⟩
  refine ⟨_, rfl, ?_⟩
  clear F a; intro a F
  refine sNot F rfl rfl rfl ?_;clear F a;intro a F
  refine sNil ?_
  refine hK2 _ _ ?_; clear hK2
  refine cIf F rfl (fun h4 => ?_) (fun h4 => ?_)
  ·
   replace h4 := notT h4
   have hk : ¬ c.kind s.pos = 4 := by simpa using h4
   refine cReg ?_
   refine sMv F rfl rfl rfl ?_;clear F a;intro a F
   refine sCall Try.call27 F rfl rfl rfl (pplace_any hc hp H) ?_
   rintro e w ⟨rfl, H⟩
   refine ⟨_, rfl, ?_⟩
   clear F a; intro a F
   refine sCallP Try.call31 F rfl rfl rfl (fail_any _ 50 H) ?_
   rintro e w ⟨rfl, H⟩
   refine .inl ⟨_, rfl, ?_⟩
   exact And.intro F.nod (Ans.no (by unfold endP; rw [if_neg hk]; rfl) H.tail.tail)
  replace h4 := notF h4
  have hk : c.kind s.pos = 4 := by simpa using h4
  refine wp_skip ?_
  refine hK1 _ _ ?_; clear hK1
  refine cReg ?_
  refine sMv F rfl rfl rfl ?_;clear F a;intro a F
  refine sCall Try.call48 F rfl rfl rfl (pstep_any hc hp H) ?_
  rintro e w ⟨rfl, H⟩
  refine ⟨_, rfl, ?_⟩
  clear F a; intro a F
  refine sNil ?_
  first | refine bEnd Try.results29 F ?_ | (simp only [Exit.then, Exit.inBlock, if_true]; (repeat (first | rw [if_pos rfl] | rw [if_neg (by decide)])); refine bEnd Try.results29 F ?_)
  exact Ans.ok (by unfold endP; rw [if_pos hk]) ⟨rfl, H⟩
theorem pfinish_any {W w0 : World} {rs : List Res} {c : PX} (hc : c.Ok) {A : Option Addr} {C bp : Nat} {S : Nat → Prop} {s : PS} {Y : List Value} (hp : s.pos ≤ 1000000) (H : Own W none w0 (.blk bp (curC c A C s Y) 59 :: .held S A 3 (rowsT c.ts) :: rs)) :
    Calls Try.prog 30 #[.pointer (some ⟨bp, 0, none⟩)] w0 fun e w' => Ans W rs (if s.pos < c.ts.length then failP c s 50 else .ok () s) (fun v t e w' => e = .returned (.tuple #[]) ∧ Own W none w' (.blk bp (curC c A C t Y) 59 :: .held S A 3 (rowsT c.ts) :: rs)) e w' := by
  have hfew := hc.few
  refine enterF Try.func30 rfl Try.ntmps30 rfl (fun a F => ?_)
  refine cSeq (fun K1 hK1 => ?_)
  refine cRegRO (by kernel_rfl) H ?_
  replace H := H.drew
  refine eTakeF (k := 0) (i := 0) rfl (by kernel_rfl) F rfl rfl rfl (fun w => rMv F rfl) H (fun _ _ _ h => h) ?_;clear F a;intro a F
  refine eTake (k := 1) (i := 1) rfl (by kernel_rfl) F rfl rfl rfl rfl (fun w H => rNc F rfl) H (fun _ _ _ h => h) ?_;clear F a;intro a F
  refine eTakeF (k := 2) (i := 2) rfl (by kernel_rfl) F rfl rfl rfl (fun w => rFa (f := 1) (k := 1) Try.underlying57 rfl Try.sizeOf3 rfl rfl F rfl) H (fun _ _ _ h => h) ?_;clear F a;intro a F
  refine eTake (k := 3) (i := 3) rfl (by kernel_rfl) F rfl rfl rfl rfl (fun w H => rLd Try.isAgg3 F rfl (H.cell 0 rfl rfl)) H (fun _ _ _ h => h) ?_;clear F a;intro a F
  refine eTakeF (k := 4) (i := 4) rfl (by kernel_rfl) F rfl rfl rfl (fun w => rMv F rfl) H (fun _ _ _ h => h) ?_;clear F a;intro a F
  refine eTake (k := 5) (i := 5) rfl (by kernel_rfl) F rfl rfl rfl rfl (fun w H => rNc F rfl) H (fun _ _ _ h => h) ?_;clear F a;intro a F
  refine eTakeF (k := 6) (i := 6) rfl (by kernel_rfl) F rfl rfl rfl (fun w => rFa (f := 0) (k := 0) Try.underlying57 rfl Try.sizeOf48 rfl rfl F rfl) H (fun _ _ _ h => h) ?_;clear F a;intro a F
  refine eTake (k := 7) (i := 7) rfl (by kernel_rfl) F rfl rfl rfl rfl (fun w H => rLd Try.isAgg48 F rfl (H.cell 0 rfl rfl)) H (fun _ _ _ h => h) ?_;clear F a;intro a F
  refine eTake (k := 8) (i := 8) rfl (by kernel_rfl) F rfl rfl rfl rfl (fun w H => rLen Try.underlying48 F rfl) H (fun _ _ _ h => h) ?_;clear F a;intro a F
  refine eTakeF (k := 9) (i := 9) rfl (by kernel_rfl) F rfl rfl rfl (fun w => rBin F rfl rfl bLss) H (fun _ _ _ h => h) ?_;clear F a;intro a F
  refine eNil (k := 10) (by kernel_rfl) ?_
  refine hK1 _ _ ?_; clear hK1
  refine cIf F rfl (fun h11 => ?_) (fun h11 => ?_)
  ·
   replace h11 := of_decide_eq_true h11
   have hk : s.pos < c.ts.length := by omega
   refine cReg ?_
   refine sMv F rfl rfl rfl ?_;clear F a;intro a F
   refine sCall Try.call27 F rfl rfl rfl (pplace_any hc hp H) ?_
   rintro e w ⟨rfl, H⟩
   refine ⟨_, rfl, ?_⟩
   clear F a; intro a F
   refine sCallP Try.call31 F rfl rfl rfl (fail_any _ 50 H) ?_
   rintro e w ⟨rfl, H⟩
   refine .inl ⟨_, rfl, ?_⟩
   exact And.intro F.nod (Ans.no (by rw [if_pos hk]; rfl) H.tail.tail)
  replace h11 := of_decide_eq_false h11
  have hk : ¬ s.pos < c.ts.length := by omega
  refine wp_skip ?_
  first | refine bEnd Try.results30 F ?_ | (simp only [Exit.then, Exit.inBlock, if_true]; (repeat (first | rw [if_pos rfl] | rw [if_neg (by decide)])); refine bEnd Try.results30 F ?_)
  exact Ans.ok (by rw [if_neg hk]) ⟨rfl, H⟩
theorem pnum_any {W w0 : World} {rs : List Res} {c : PX} (hc : c.Ok) {A : Option Addr} {C bp : Nat} {S : Nat → Prop} {s : PS} {Y : List Value} (hp : s.pos ≤ 1000000) (H : Own W none w0 (.blk bp (curC c A C s Y) 59 :: .held S A 3 (rowsT c.ts) :: rs)) :
    Calls Try.prog 73 #[.pointer (some ⟨bp, 0, none⟩)] w0 fun e w' => Ans W rs (numQ c s) (fun v t e w' => e = .returned (b8 v) ∧ Own W none w' (.blk bp (curC c A C t Y) 59 :: .held S A 3 (rowsT c.ts) :: rs)) e w' := by
  refine enterF Try.func73 rfl Try.ntmps73 rfl (fun a F => ?_)
  refine cSeq (fun K1 hK1 => ?_)
  refine cReg ?_
  refine sAs F rfl rfl rfl ?_;clear F a;intro a F
  refine sNil ?_
  refine hK1 _ _ ?_; clear hK1
  refine cSeq (fun K2 hK2 => ?_)
  refine cReg ?_
  refine sMv F rfl rfl rfl ?_;clear F a;intro a F
  refine sCall Try.call59 F rfl rfl rfl (ptoken_any hc hp H) ?_
  rintro e w ⟨rfl, H⟩
  refine ⟨_, rfl, ?_⟩
  clear F a; intro a F
  refine sAl H Try.zeroValue69 F rfl rfl ?_
  clear F a H; intro b3 a w F H
  refine sSr H 0 ?si F rfl rfl rfl ?s1 rfl rfl ?_
  case si => exact info_size Try.sizeOf69
  case s1 => first | rfl | (repeat (first | exact one_nil | (apply one_cons; · first | rfl | assumption | exact one_bif rfl rfl)))
  clear H; intro w H
  refine sNil ?_
  refine hK2 _ _ ?_; clear hK2
  refine cSeq (fun K3 hK3 => ?_)
  refine cReg ?_
  refine sFa (f := 1) (k := 1) Try.underlying69 rfl Try.sizeOf9 rfl rfl F rfl rfl rfl ?_;clear F a;intro a F
  refine sLd Try.isAgg9 F rfl rfl rfl (H.cell 0 rfl rfl) ?_;clear F a;intro a F
  refine sCall Try.call68 F rfl rfl rfl (num_any (c.text s.pos) _ (hc.textLe _) _ rfl) ?_
  rintro e w ⟨rfl, rfl⟩
  refine ⟨_, rfl, ?_⟩
  clear F a; intro a F
  refine sMv F rfl rfl rfl ?_;clear F a;intro a F
  refine sExt F rfl rfl rfl rfl ?_;clear F a;intro a F
  refine sExt F rfl rfl rfl rfl ?_;clear F a;intro a F
  refine sAs F rfl rfl rfl ?_;clear F a;intro a F
  refine sAs F rfl rfl rfl ?_;clear F a;intro a F
  refine sNil ?_
  refine hK3 _ _ ?_; clear hK3
  refine cSeq (fun K4 hK4 => ?_)
  refine cSeq (fun K5 hK5 => ?_)
  refine cReg ?_
  refine sFa (f := 0) (k := 0) Try.underlying69 rfl Try.sizeOf67 rfl rfl F rfl rfl rfl ?_;clear F a;intro a F
  refine sLd Try.isAgg67 F rfl rfl rfl (H.cell 0 rfl rfl) ?_;clear F a;intro a F
  refine sBin F rfl rfl rfl rfl bNeq ?_;clear F a;intro a F
  refine sMv F rfl rfl rfl ?_;clear F a;intro a F
  refine F.split 17 rfl ?_ ?_ <;> (clear F; intro h17 F)
  ·
   replace h17 := bneT h17
   have hk : ¬ (c.kind s.pos = 2 ∧ numOk (c.text s.pos) = true) := fun h => by omega
   refine sSk F rfl rfl ?_;clear F a;intro a F
   refine sSk F rfl rfl ?_;clear F a;intro a F
   refine sPk F rfl rfl rfl rfl ?_;clear F a;intro a F
   refine sNil ?_
   refine hK5 _ _ ?_; clear hK5
   refine cIfT F rfl ?_
   refine cReg ?_
   refine sMv F rfl rfl rfl ?_;clear F a;intro a F
   refine sCall Try.call27 F rfl rfl rfl (pplace_any hc hp H.tail) ?_
   rintro e w ⟨rfl, H⟩
   refine ⟨_, rfl, ?_⟩
   clear F a; intro a F
   refine sCallP Try.call31 F rfl rfl rfl (fail_any _ 50 H) ?_
   rintro e w ⟨rfl, H⟩
   refine .inl ⟨_, rfl, ?_⟩
   exact And.intro F.nod (Ans.no (by unfold numQ; rw [if_neg hk]; rfl) H.tail.tail)
  replace h17 := bneF h17
  have hk0 : c.kind s.pos = 2 := by omega
  refine sMv F rfl rfl rfl ?_;clear F a;intro a F
  refine sNot F rfl rfl rfl ?_;clear F a;intro a F
  refine sPk F rfl rfl rfl rfl ?_;clear F a;intro a F
  refine sNil ?_
  refine hK5 _ _ ?_; clear hK5
  refine cIf F rfl (fun h20 => ?_) (fun h20 => ?_)
  ·
   replace h20 := notT h20
   have hk : ¬ (c.kind s.pos = 2 ∧ numOk (c.text s.pos) = true) := fun h => by simp [h.2] at h20
   refine cReg ?_
   refine sMv F rfl rfl rfl ?_;clear F a;intro a F
   refine sCall Try.call27 F rfl rfl rfl (pplace_any hc hp H.tail) ?_
   rintro e w ⟨rfl, H⟩
   refine ⟨_, rfl, ?_⟩
   clear F a; intro a F
   refine sCallP Try.call31 F rfl rfl rfl (fail_any _ 50 H) ?_
   rintro e w ⟨rfl, H⟩
   refine .inl ⟨_, rfl, ?_⟩
   exact And.intro F.nod (Ans.no (by unfold numQ; rw [if_neg hk]; rfl) H.tail.tail)
  replace h20 := notF h20
  have hk : c.kind s.pos = 2 ∧ numOk (c.text s.pos) = true := ⟨hk0, by simpa using h20⟩
  refine wp_skip ?_
  refine hK4 _ _ ?_; clear hK4
  refine cSeq (fun K6 hK6 => ?_)
  refine cReg ?_
  refine sMv F rfl rfl rfl ?_;clear F a;intro a F
  refine sCall Try.call48 F rfl rfl rfl (pstep_any hc hp H.tail) ?_
  rintro e w ⟨rfl, H⟩
  refine ⟨_, rfl, ?_⟩
  clear F a; intro a F
  refine sNil ?_
  refine hK6 _ _ ?_; clear hK6
  refine cSeq (fun K7 hK7 => ?_)
  refine cReg ?_
  refine sMv F rfl rfl rfl ?_;clear F a;intro a F
  refine sAs F rfl rfl rfl ?_;clear F a;intro a F
  refine sNil ?_
  refine hK7 _ _ ?_; clear hK7
  refine wp_ret ?_
  refine bRet Try.results73 F rfl ?_
  exact Ans.ok (by unfold numQ; rw [if_pos hk]) ⟨congrArg Ending.returned (b8_num hk.2), H⟩
theorem preg_any {W w0 : World} {rs : List Res} {c : PX} (hc : c.Ok) {A : Option Addr} {C bp : Nat} {S : Nat → Prop} {s : PS} {Y : List Value} (hp : s.pos ≤ 1000000) (H : Own W none w0 (.blk bp (curC c A C s Y) 59 :: .held S A 3 (rowsT c.ts) :: rs)) :
    Calls Try.prog 79 #[.pointer (some ⟨bp, 0, none⟩)] w0 fun e w' => Ans W rs (regQ c s) (fun v t e w' => e = .returned (b8 v) ∧ Own W none w' (.blk bp (curC c A C t Y) 59 :: .held S A 3 (rowsT c.ts) :: rs)) e w' := by
  refine enterF Try.func79 rfl Try.ntmps79 rfl (fun a F => ?_)
  refine cSeq (fun K1 hK1 => ?_)
  refine cReg ?_
  refine sAs F rfl rfl rfl ?_;clear F a;intro a F
  refine sNil ?_
  refine hK1 _ _ ?_; clear hK1
  refine cSeq (fun K2 hK2 => ?_)
  refine cReg ?_
  refine sMv F rfl rfl rfl ?_;clear F a;intro a F
  refine sCall Try.call43 F rfl rfl rfl (pword_any hc hp H) ?_
  rintro e w ⟨rfl, H⟩
  refine ⟨_, rfl, ?_⟩
  clear F a; intro a F
  refine sCall Try.call75 F rfl rfl rfl (reg_any (c.word s.pos) _ _ rfl) ?_
  rintro e w ⟨rfl, rfl⟩
  refine ⟨_, rfl, ?_⟩
  clear F a; intro a F
  refine sMv F rfl rfl rfl ?_;clear F a;intro a F
  refine sExt F rfl rfl rfl rfl ?_;clear F a;intro a F
  refine sExt F rfl rfl rfl rfl ?_;clear F a;intro a F
  refine sAs F rfl rfl rfl ?_;clear F a;intro a F
  refine sAs F rfl rfl rfl ?_;clear F a;intro a F
  refine sNil ?_
  refine hK2 _ _ ?_; clear hK2
  refine cSeq (fun K3 hK3 => ?_)
  refine cSeq (fun K4 hK4 => ?_)
  refine cReg ?_
  refine sMv F rfl rfl rfl ?_;clear F a;intro a F
  refine sNot F rfl rfl rfl ?_;clear F a;intro a F
  refine sNil ?_
  refine hK4 _ _ ?_; clear hK4
  refine cIf F rfl (fun h12 => ?_) (fun h12 => ?_)
  ·
   replace h12 := notT h12
   have hk : ¬ regOk (c.word s.pos) = true := fun h => by simp [h] at h12
   refine cReg ?_
   refine sMv F rfl rfl rfl ?_;clear F a;intro a F
   refine sCall Try.call27 F rfl rfl rfl (pplace_any hc hp H) ?_
   rintro e w ⟨rfl, H⟩
   refine ⟨_, rfl, ?_⟩
   clear F a; intro a F
   refine sCallP Try.call31 F rfl rfl rfl (fail_any _ 50 H) ?_
   rintro e w ⟨rfl, H⟩
   refine .inl ⟨_, rfl, ?_⟩
   exact And.intro F.nod (Ans.no (by unfold regQ; rw [if_neg hk]; rfl) H.tail.tail)
  replace h12 := notF h12
  have hk : regOk (c.word s.pos) = true := by simpa using h12
  refine wp_skip ?_
  refine hK3 _ _ ?_; clear hK3
  refine cSeq (fun K5 hK5 => ?_)
  refine cReg ?_
  refine sMv F rfl rfl rfl ?_;clear F a;intro a F
  refine sCall Try.call48 F rfl rfl rfl (pstep_any hc hp H) ?_
  rintro e w ⟨rfl, H⟩
  refine ⟨_, rfl, ?_⟩
  clear F a; intro a F
  refine sNil ?_
  refine hK5 _ _ ?_; clear hK5
  refine cSeq (fun K6 hK6 => ?_)
  refine cReg ?_
  refine sMv F rfl rfl rfl ?_;clear F a;intro a F
  refine sAs F rfl rfl rfl ?_;clear F a;intro a F
  refine sNil ?_
  refine hK6 _ _ ?_; clear hK6
  refine wp_ret ?_
  refine bRet Try.results79 F rfl ?_
  exact Ans.ok (by unfold regQ; rw [if_pos hk]) ⟨congrArg Ending.returned (b8_reg hk), H⟩
theorem parg_any {W w0 : World} {rs : List Res} {c : PX} (hc : c.Ok) {A : Option Addr} {C bp : Nat} {S : Nat → Prop} {s : PS} {Y : List Value} (hp : s.pos ≤ 1000000) (H : Own W none w0 (.blk bp (curC c A C s Y) 59 :: .held S A 3 (rowsT c.ts) :: rs)) :
    Calls Try.prog 86 #[.pointer (some ⟨bp, 0, none⟩)] w0 fun e w' => Ans W rs (argP' c s) (fun v t e w' => e = .returned (.agg #[.bool v.1, b8 v.2]) ∧ Own W none w' (.blk bp (curC c A C t Y) 59 :: .held S A 3 (rowsT c.ts) :: rs)) e w' := by
  refine enterF Try.func86 rfl Try.ntmps86 rfl (fun a F => ?_)
  refine cSeq (fun K1 hK1 => ?_)
  refine cReg ?_
  refine sAl H Try.zeroValue40 F rfl rfl ?_
  clear F a H; intro b2 a w F H
  refine sNil ?_
  refine hK1 _ _ ?_; clear hK1
  refine cSeq (fun K2 hK2 => ?_)
  refine cSeq (fun K3 hK3 => ?_)
  refine cReg ?_
  refine sMv F rfl rfl rfl ?_;clear F a;intro a F
  refine sCall Try.call59 F rfl rfl rfl (ptoken_any hc hp (H.selT 3 [1, 2, 0] rfl rfl)) ?_
  rintro e w ⟨rfl, H⟩
  refine ⟨_, rfl, ?_⟩
  clear F a; intro a F
  refine sFd (f := 0) Try.underlying69 rfl Try.isAgg67 F rfl rfl rfl rfl ?_;clear F a;intro a F
  refine sBin F rfl rfl rfl rfl bEql ?_;clear F a;intro a F
  refine sNil ?_
  refine hK3 _ _ ?_; clear hK3
  refine cIf F rfl (fun h6 => ?_) (fun h6 => ?_)
  ·
   replace h6 := beqT h6
   have hk : c.kind s.pos = 2 := by omega
   refine cSeq (fun K4 hK4 => ?_)
   refine cReg ?_
   refine sMv F rfl rfl rfl ?_;clear F a;intro a F
   refine sCallP Try.call73 F rfl rfl rfl (pnum_any hc hp H) ?_
   rintro e w hq9
   rcases hq9.cases with ⟨p9, e9, hn8, rfl, H⟩ | ⟨v, t, hr8, rfl, H⟩
   ·
    refine .inl ⟨_, rfl, ?_⟩
    exact And.intro F.nod (Ans.no (by unfold argP'; rw [if_pos hk, hn8]; rfl) H.tail)
   refine .inr ⟨_, rfl, ?_⟩
   clear F a; intro a F
   refine sBd (places := [(0, 1), (1, 1)]) Try.zeroValue40 Try.underlying40 (by kernel_rfl) F rfl rfl rfl rfl ?_;clear F a;intro a F
   refine sSr H 2 ?si F rfl rfl rfl ?s1 rfl rfl ?_
   case si => exact info_size Try.sizeOf40
   case s1 => first | rfl | (repeat (first | exact one_nil | (apply one_cons; · first | rfl | assumption | exact one_bif rfl rfl)))
   clear H; intro w H
   refine sNil ?_
   refine hK4 _ _ ?_; clear hK4
   refine wp_ret ?_
   simp only [Exit.then]
   refine bRetC Try.results86 F rfl Try.underlying40 rfl H 2 rfl Try.sizeOf40 rfl ?_
   first | exact Ans.ok (by unfold argP'; rw [if_pos hk, hr8]; rfl) ⟨rfl, H.selT 3 [0, 1] rfl rfl⟩ | exact Ans.ok (by unfold argP'; rw [if_neg hk, hr11]; rfl) ⟨rfl, H.selT 3 [0, 1] rfl rfl⟩
  replace h6 := beqF h6
  have hk : ¬ c.kind s.pos = 2 := by omega
  refine wp_skip ?_
  refine hK2 _ _ ?_; clear hK2
  refine cSeq (fun K5 hK5 => ?_)
  refine cReg ?_
  refine sMv F rfl rfl rfl ?_;clear F a;intro a F
  refine sCallP Try.call79 F rfl rfl rfl (preg_any hc hp H) ?_
  rintro e w hq9
  rcases hq9.cases with ⟨p9, e9, hn11, rfl, H⟩ | ⟨v, t, hr11, rfl, H⟩
  ·
   refine .inl ⟨_, rfl, ?_⟩
   exact And.intro F.nod (Ans.no (by unfold argP'; rw [if_neg hk, hn11]; rfl) H.tail)
  refine .inr ⟨_, rfl, ?_⟩
  clear F a; intro a F
  refine sBd (places := [(0, 1), (1, 1)]) Try.zeroValue40 Try.underlying40 (by kernel_rfl) F rfl rfl rfl rfl ?_;clear F a;intro a F
  refine sSr H 2 ?si F rfl rfl rfl ?s1 rfl rfl ?_
  case si => exact info_size Try.sizeOf40
  case s1 => first | rfl | (repeat (first | exact one_nil | (apply one_cons; · first | rfl | assumption | exact one_bif rfl rfl)))
  clear H; intro w H
  refine sNil ?_
  refine hK5 _ _ ?_; clear hK5
  refine wp_ret ?_
  refine bRetC Try.results86 F rfl Try.underlying40 rfl H 2 rfl Try.sizeOf40 rfl ?_
  first | exact Ans.ok (by unfold argP'; rw [if_pos hk, hr8]; rfl) ⟨rfl, H.selT 3 [0, 1] rfl rfl⟩ | exact Ans.ok (by unfold argP'; rw [if_neg hk, hr11]; rfl) ⟨rfl, H.selT 3 [0, 1] rfl rfl⟩
theorem pneed_any (b : Bool) {W w0 : World} {rs : List Res} {c : PX} (hc : c.Ok) {A : Option Addr} {C bp : Nat} {S : Nat → Prop} {s : PS} {Y : List Value} (hp : s.pos ≤ 1000000) (H : Own W none w0 (.blk bp (curC c A C s Y) 59 :: .held S A 3 (rowsT c.ts) :: rs)) :
    Calls Try.prog 60 #[.pointer (some ⟨bp, 0, none⟩), .bool b] w0 fun e w' => Ans W rs (if b then .ok () s else failP c s 50) (fun v t e w' => e = .returned (.tuple #[]) ∧ Own W none w' (.blk bp (curC c A C t Y) 59 :: .held S A 3 (rowsT c.ts) :: rs)) e w' := by
  refine enterF Try.func60 rfl Try.ntmps60 rfl (fun a F => ?_)
  refine cSeq (fun K1 hK1 => ?_)
  refine cReg ?_
  refine sMv F rfl rfl rfl ?_;clear F a;intro a F
  refine sNot F rfl rfl rfl ?_;clear F a;intro a F
  refine sNil ?_
  refine hK1 _ _ ?_; clear hK1
  refine cIf F rfl (fun h5 => ?_) (fun h5 => ?_)
  ·
   replace h5 := notT h5
   obtain rfl : b = false := by simpa using h5
   refine cReg ?_
   refine sMv F rfl rfl rfl ?_;clear F a;intro a F
   refine sNc F rfl rfl rfl ?_;clear F a;intro a F
   refine sFa (f := 0) (k := 0) Try.underlying59 rfl Try.sizeOf57 rfl rfl F rfl rfl rfl ?_;clear F a;intro a F
   refine sCall Try.call27 F rfl rfl rfl (pplace_any hc hp H) ?_
   rintro e w ⟨rfl, H⟩
   refine ⟨_, rfl, ?_⟩
   clear F a; intro a F
   refine sCallP Try.call31 F rfl rfl rfl (fail_any _ 50 H) ?_
   rintro e w ⟨rfl, H⟩
   refine .inl ⟨_, rfl, ?_⟩
   exact And.intro F.nod (Ans.no (rfl) H.tail.tail)
  replace h5 := notF h5
  obtain rfl : b = true := by simpa using h5
  refine wp_skip ?_
  first | refine bEnd Try.results60 F ?_ | (simp only [Exit.then, Exit.inBlock, if_true]; (repeat (first | rw [if_pos rfl] | rw [if_neg (by decide)])); refine bEnd Try.results60 F ?_)
  exact Ans.ok rfl ⟨rfl, H⟩
end Go.Proofs.Ytbdjlmdejlklkaa
