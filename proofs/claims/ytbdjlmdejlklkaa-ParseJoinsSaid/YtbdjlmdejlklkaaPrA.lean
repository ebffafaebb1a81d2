/-
  WALK2. Package parse: the functions on tokens that only read. Conditions: the parser and its tokens lie in memory.
-/
import Derived.Test.YtbdjlmdejlklkaaPrQ
set_option linter.unusedSimpArgs false
set_option linter.unusedVariables false
namespace Go.Proofs.Ytbdjlmdejlklkaa
open Go.RowKit
set_option maxRecDepth 100000
theorem ptoken_any {W w0 : World} {rs : List Res} {c : PX} (hc : c.Ok) {A : Option Addr} {C bp : Nat} {S : Nat → Prop} {s : PS} {Y : List Value} (hp : s.pos ≤ 1000000) (H : Own W none w0 (.blk bp (curC c A C s Y) 59 :: .held S A 3 (rowsT c.ts) :: rs)) :
    Calls Try.prog 59 #[.pointer (some ⟨bp, 0, none⟩)] w0 fun e w' => e = .returned (.agg #[.int .u8 (c.kind s.pos : Int), .string (c.text s.pos), .int .i64 (c.atP s.pos : Int)]) ∧ Own W none w' (.blk bp (curC c A C s Y) 59 :: .held S A 3 (rowsT c.ts) :: rs) := by
  have hfew := hc.few
  refine enterF Try.func59 rfl Try.ntmps59 rfl (fun a F => ?_)
  refine cSeq (fun K1 hK1 => ?_)
  refine cReg ?_
  refine sAl H Try.zeroValue69 F rfl rfl ?_
  clear F a H; intro b2 a w F H
  refine sNil ?_
  refine hK1 _ _ ?_; clear hK1
  refine cSeq (fun K2 hK2 => ?_)
  refine cSeq (fun K3 hK3 => ?_)
  refine cRegRO (by kernel_rfl) H ?_
  replace H := H.drew
  refine eTakeF (k := 0) (i := 0) rfl (by kernel_rfl) F rfl rfl rfl (fun w => rMv F rfl) H (fun _ _ _ h => h) ?_;clear F a;intro a F
  refine eTake (k := 1) (i := 1) rfl (by kernel_rfl) F rfl rfl rfl rfl (fun w H => rNc F rfl) H (fun _ _ _ h => h) ?_;clear F a;intro a F
  refine eTakeF (k := 2) (i := 2) rfl (by kernel_rfl) F rfl rfl rfl (fun w => rFa (f := 1) (k := 1) Try.underlying57 rfl Try.sizeOf3 rfl rfl F rfl) H (fun _ _ _ h => h) ?_;clear F a;intro a F
  refine eTake (k := 3) (i := 3) rfl (by kernel_rfl) F rfl rfl rfl rfl (fun w H => rLd Try.isAgg3 F rfl (H.cell 1 rfl rfl)) H (fun _ _ _ h => h) ?_;clear F a;intro a F
  refine eTakeF (k := 4) (i := 4) rfl (by kernel_rfl) F rfl rfl rfl (fun w => rMv F rfl) H (fun _ _ _ h => h) ?_;clear F a;intro a F
  refine eTake (k := 5) (i := 5) rfl (by kernel_rfl) F rfl rfl rfl rfl (fun w H => rNc F rfl) H (fun _ _ _ h => h) ?_;clear F a;intro a F
  refine eTakeF (k := 6) (i := 6) rfl (by kernel_rfl) F rfl rfl rfl (fun w => rFa (f := 0) (k := 0) Try.underlying57 rfl Try.sizeOf48 rfl rfl F rfl) H (fun _ _ _ h => h) ?_;clear F a;intro a F
  refine eTake (k := 7) (i := 7) rfl (by kernel_rfl) F rfl rfl rfl rfl (fun w H => rLd Try.isAgg48 F rfl (H.cell 1 rfl rfl)) H (fun _ _ _ h => h) ?_;clear F a;intro a F
  refine eTake (k := 8) (i := 8) rfl (by kernel_rfl) F rfl rfl rfl rfl (fun w H => rLen Try.underlying48 F rfl) H (fun _ _ _ h => h) ?_;clear F a;intro a F
  refine eTakeF (k := 9) (i := 9) rfl (by kernel_rfl) F rfl rfl rfl (fun w => rBin F rfl rfl bGeq) H (fun _ _ _ h => h) ?_;clear F a;intro a F
  refine eNil (k := 10) (by kernel_rfl) ?_
  refine hK3 _ _ ?_; clear hK3
  refine cIf F rfl (fun h12 => ?_) (fun h12 => ?_)
  ·
   replace h12 := of_decide_eq_true h12
   obtain ⟨e1, e2, e3, e4⟩ := px_none (c := c) (i := s.pos) (by omega)
   refine cSeq (fun K4 hK4 => ?_)
   refine cReg ?_
   refine sBd (places := [(0, 1), (1, 1), (2, 1)]) Try.zeroValue69 Try.underlying69 (by kernel_rfl) F rfl rfl rfl rfl ?_;clear F a;intro a F
   refine sSr H 0 ?si F rfl rfl rfl ?s1 rfl rfl ?_
   case si => exact info_size Try.sizeOf69
   case s1 => first | rfl | (repeat (first | exact one_nil | (apply one_cons; · first | rfl | assumption | exact one_bif rfl rfl)))
   clear H; intro w H
   refine sNil ?_
   refine hK4 _ _ ?_; clear hK4
   refine wp_ret ?_
   simp only [Exit.then]
   refine bRetC Try.results59 F rfl Try.underlying69 rfl H 0 rfl Try.sizeOf69 rfl ?_
   exact ⟨by rw [e1, e2, e3]; rfl, H.tail⟩
  replace h12 := of_decide_eq_false h12
  have hlt : s.pos < c.ts.length := by omega
  obtain ⟨t, ht⟩ : ∃ t, c.ts[s.pos]? = some t := ⟨_, List.getElem?_eq_getElem hlt⟩
  obtain ⟨e1, e2, e3, e4⟩ := px_some ht
  obtain ⟨g, o, rfl, _⟩ := H.held 2 rfl s.pos t.cells (rowsT_get ht)
  refine wp_skip ?_
  refine hK2 _ _ ?_; clear hK2
  refine cSeq (fun K5 hK5 => ?_)
  refine cRegRO (by kernel_rfl) H ?_
  replace H := H.drew
  refine eTakeF (k := 0) (i := 0) rfl (by kernel_rfl) F rfl rfl rfl (fun w => rMv F rfl) H (fun _ _ _ h => h) ?_;clear F a;intro a F
  refine eTake (k := 1) (i := 1) rfl (by kernel_rfl) F rfl rfl rfl rfl (fun w H => rNc F rfl) H (fun _ _ _ h => h) ?_;clear F a;intro a F
  refine eTakeF (k := 2) (i := 2) rfl (by kernel_rfl) F rfl rfl rfl (fun w => rFa (f := 0) (k := 0) Try.underlying57 rfl Try.sizeOf48 rfl rfl F rfl) H (fun _ _ _ h => h) ?_;clear F a;intro a F
  refine eTake (k := 3) (i := 3) rfl (by kernel_rfl) F rfl rfl rfl rfl (fun w H => rLd Try.isAgg48 F rfl (H.cell 1 rfl rfl)) H (fun _ _ _ h => h) ?_;clear F a;intro a F
  refine eTakeF (k := 4) (i := 4) rfl (by kernel_rfl) F rfl rfl rfl (fun w => rMv F rfl) H (fun _ _ _ h => h) ?_;clear F a;intro a F
  refine eTake (k := 5) (i := 5) rfl (by kernel_rfl) F rfl rfl rfl rfl (fun w H => rNc F rfl) H (fun _ _ _ h => h) ?_;clear F a;intro a F
  refine eTakeF (k := 6) (i := 6) rfl (by kernel_rfl) F rfl rfl rfl (fun w => rFa (f := 1) (k := 1) Try.underlying57 rfl Try.sizeOf3 rfl rfl F rfl) H (fun _ _ _ h => h) ?_;clear F a;intro a F
  refine eTake (k := 7) (i := 7) rfl (by kernel_rfl) F rfl rfl rfl rfl (fun w H => rLd Try.isAgg3 F rfl (H.cell 1 rfl rfl)) H (fun _ _ _ h => h) ?_;clear F a;intro a F
  refine eTakeF (k := 8) (i := 8) rfl (by kernel_rfl) F rfl rfl rfl (fun w => rIx Try.underlying48 Try.sizeOf69 F rfl rfl ?_) H (fun _ _ _ h => h) ?_
  focus omega
  clear F a; intro a F
  refine eTake (k := 9) (i := 9) rfl (by kernel_rfl) F rfl rfl rfl rfl (fun w H => rLr Try.underlying69 rfl ?si F rfl (heldRow H 2 rfl (rowsT_get ht))) H (fun _ _ _ h => h) ?_
  case si => exact info_size Try.sizeOf69
  clear F a; intro a F
  refine eOne (k := 10) (i := 10) rfl (by kernel_rfl) F rfl (oSr H 0 ?si F rfl rfl ?s1 rfl rfl ?_)
  case si => exact info_size Try.sizeOf69
  case s1 => first | rfl | (repeat (first | exact one_nil | (apply one_cons; · first | rfl | assumption | exact one_bif rfl rfl)))
  clear H; intro w H
  refine ePartO (by kernel_rfl) H ?_
  refine eNil (k := 11) (by kernel_rfl) ?_
  refine hK5 _ _ ?_; clear hK5
  refine wp_ret ?_
  refine bRetC Try.results59 F rfl Try.underlying69 rfl H 0 rfl Try.sizeOf69 rfl ?_
  exact ⟨by rw [e1, e2, e3]; rfl, H.tail⟩
theorem pplace_any {W w0 : World} {rs : List Res} {c : PX} (hc : c.Ok) {A : Option Addr} {C bp : Nat} {S : Nat → Prop} {s : PS} {Y : List Value} (hp : s.pos ≤ 1000000) (H : Own W none w0 (.blk bp (curC c A C s Y) 59 :: .held S A 3 (rowsT c.ts) :: rs)) :
    Calls Try.prog 27 #[.pointer (some ⟨bp, 0, none⟩)] w0 fun e w' => e = .returned (.int .i64 (c.place s.pos : Int)) ∧ Own W none w' (.blk bp (curC c A C s Y) 59 :: .held S A 3 (rowsT c.ts) :: rs) := by
  have hfew := hc.few
  refine enterF Try.func27 rfl Try.ntmps27 rfl (fun a F => ?_)
  refine cSeq (fun K1 hK1 => ?_)
  refine cReg ?_
  refine sAs F rfl rfl rfl ?_;clear F a;intro a F
  refine sNil ?_
  refine hK1 _ _ ?_; clear hK1
  refine cSeq (fun K2 hK2 => ?_)
  refine cSeq (fun K3 hK3 => ?_)
  refine cRegRO (by kernel_rfl) H ?_
  replace H := H.drew
  refine eTakeF (k := 0) (i := 0) rfl (by kernel_rfl) F rfl rfl rfl (fun w => rMv F rfl) H (fun _ _ _ h => h) ?_;clear F a;intro a F
  refine eTake (k := 1) (i := 1) rfl (by kernel_rfl) F rfl rfl rfl rfl (fun w H => rNc F rfl) H (fun _ _ _ h => h) ?_;clear F a;intro a F
  refine eTakeF (k := 2) (i := 2) rfl (by kernel_rfl) F rfl rfl rfl (fun w => rFa (f := 1) (k := 1) Try.underlying57 rfl Try.sizeOf3 rfl rfl F rfl) H (fun _ _ _ h => h) ?_;clear F a;intro a F
  refine eTake (k := 3) (i := 3) rfl (by kernel_rfl) F rfl rfl rfl rfl (fun w H => rLd Try.isAgg3 F rfl (H.cell 0 rfl rfl)) H (fun _ _ _ h => h) ?_;clear F a;intro a F
  refine eTakeF (k := 4) (i := 4) rfl (by kernel_rfl) F rfl rfl rfl (fun w => rMv F rfl) H (fun _ _ _ h => h) ?_;clear F a;intro a F
  refine eTake (k := 5) (i := 5) rfl (by kernel_rfl) F rfl rfl rfl rfl (fun w H => rNc F rfl) H (fun _ _ _ h => h) ?_;clear F a;intro a F
  refine eTakeF (k := 6) (i := 6) rfl (by kernel_rfl) F rfl rfl rfl (fun w => rFa (f := 0) (k := 0) Try.underlying57 rfl Try.sizeOf48 rfl rfl F rfl) H (fun _ _ _ h => h) ?_;clear F a;intro a F
  refine eTake (k := 7) (i := 7) rfl (by kernel_rfl) F rfl rfl rfl rfl (fun w H => rLd Try.isAgg48 F rfl (H.cell 0 rfl rfl)) H (fun _ _ _ h => h) ?_;clear F a;intro a F
  refine eTake (k := 8) (i := 8) rfl (by kernel_rfl) F rfl rfl rfl rfl (fun w H => rLen Try.underlying48 F rfl) H (fun _ _ _ h => h) ?_;clear F a;intro a F
  refine eTakeF (k := 9) (i := 9) rfl (by kernel_rfl) F rfl rfl rfl (fun w => rBin F rfl rfl bGeq) H (fun _ _ _ h => h) ?_;clear F a;intro a F
  refine eNil (k := 10) (by kernel_rfl) ?_
  refine hK3 _ _ ?_; clear hK3
  refine cIf F rfl (fun h12 => ?_) (fun h12 => ?_)
  ·
   replace h12 := of_decide_eq_true h12
   obtain ⟨e1, e2, e3, e4⟩ := px_none (c := c) (i := s.pos) (by omega)
   refine cSeq (fun K4 hK4 => ?_)
   refine cReg ?_
   refine sMv F rfl rfl rfl ?_;clear F a;intro a F
   refine sNc F rfl rfl rfl ?_;clear F a;intro a F
   refine sFa (f := 2) (k := 2) Try.underlying57 rfl Try.sizeOf3 rfl rfl F rfl rfl rfl ?_;clear F a;intro a F
   refine sLd Try.isAgg3 F rfl rfl rfl (H.cell 0 rfl rfl) ?_;clear F a;intro a F
   refine sAs F rfl rfl rfl ?_;clear F a;intro a F
   refine sNil ?_
   refine hK4 _ _ ?_; clear hK4
   refine wp_ret ?_
   simp only [Exit.then]
   refine bRet Try.results27 F rfl ?_
   exact ⟨by rw [e4], H⟩
  replace h12 := of_decide_eq_false h12
  have hlt : s.pos < c.ts.length := by omega
  obtain ⟨t, ht⟩ : ∃ t, c.ts[s.pos]? = some t := ⟨_, List.getElem?_eq_getElem hlt⟩
  obtain ⟨e1, e2, e3, e4⟩ := px_some ht
  obtain ⟨g, o, rfl, _⟩ := H.held 1 rfl s.pos t.cells (rowsT_get ht)
  refine wp_skip ?_
  refine hK2 _ _ ?_; clear hK2
  refine cSeq (fun K5 hK5 => ?_)
  refine cRegRO (by kernel_rfl) H ?_
  replace H := H.drew
  refine eTakeF (k := 0) (i := 0) rfl (by kernel_rfl) F rfl rfl rfl (fun w => rMv F rfl) H (fun _ _ _ h => h) ?_;clear F a;intro a F
  refine eTake (k := 1) (i := 1) rfl (by kernel_rfl) F rfl rfl rfl rfl (fun w H => rNc F rfl) H (fun _ _ _ h => h) ?_;clear F a;intro a F
  refine eTakeF (k := 2) (i := 2) rfl (by kernel_rfl) F rfl rfl rfl (fun w => rFa (f := 0) (k := 0) Try.underlying57 rfl Try.sizeOf48 rfl rfl F rfl) H (fun _ _ _ h => h) ?_;clear F a;intro a F
  refine eTake (k := 3) (i := 3) rfl (by kernel_rfl) F rfl rfl rfl rfl (fun w H => rLd Try.isAgg48 F rfl (H.cell 0 rfl rfl)) H (fun _ _ _ h => h) ?_;clear F a;intro a F
  refine eTakeF (k := 4) (i := 4) rfl (by kernel_rfl) F rfl rfl rfl (fun w => rMv F rfl) H (fun _ _ _ h => h) ?_;clear F a;intro a F
  refine eTake (k := 5) (i := 5) rfl (by kernel_rfl) F rfl rfl rfl rfl (fun w H => rNc F rfl) H (fun _ _ _ h => h) ?_;clear F a;intro a F
  refine eTakeF (k := 6) (i := 6) rfl (by kernel_rfl) F rfl rfl rfl (fun w => rFa (f := 1) (k := 1) Try.underlying57 rfl Try.sizeOf3 rfl rfl F rfl) H (fun _ _ _ h => h) ?_;clear F a;intro a F
  refine eTake (k := 7) (i := 7) rfl (by kernel_rfl) F rfl rfl rfl rfl (fun w H => rLd Try.isAgg3 F rfl (H.cell 0 rfl rfl)) H (fun _ _ _ h => h) ?_;clear F a;intro a F
  refine eTakeF (k := 8) (i := 8) rfl (by kernel_rfl) F rfl rfl rfl (fun w => rIx Try.underlying48 Try.sizeOf69 F rfl rfl ?_) H (fun _ _ _ h => h) ?_
  focus omega
  clear F a; intro a F
  refine eTakeF (k := 9) (i := 9) rfl (by kernel_rfl) F rfl rfl rfl (fun w => rFa (f := 2) Try.underlying69 rfl Try.sizeOf3 rfl rfl F rfl) H (fun _ _ _ h => h) ?_;clear F a;intro a F
  refine eTake (k := 10) (i := 10) rfl (by kernel_rfl) F rfl rfl rfl rfl (fun w H => rLd Try.isAgg3 F rfl (heldRow H 1 rfl (rowsT_get ht) 2 _ rfl)) H (fun _ _ _ h => h) ?_;clear F a;intro a F
  refine eTakeF (k := 11) (i := 11) rfl (by kernel_rfl) F rfl rfl rfl (fun w => rAs F rfl) H (fun _ _ _ h => h) ?_;clear F a;intro a F
  refine eNil (k := 12) (by kernel_rfl) ?_
  refine hK5 _ _ ?_; clear hK5
  refine wp_ret ?_
  refine bRet Try.results27 F rfl ?_
  exact ⟨by rw [e4], H⟩
theorem pstep_any {W w0 : World} {rs : List Res} {c : PX} (hc : c.Ok) {A : Option Addr} {C bp : Nat} {S : Nat → Prop} {s : PS} {Y : List Value} (hp : s.pos ≤ 1000000) (H : Own W none w0 (.blk bp (curC c A C s Y) 59 :: .held S A 3 (rowsT c.ts) :: rs)) :
    Calls Try.prog 48 #[.pointer (some ⟨bp, 0, none⟩)] w0 fun e w' => e = .returned (.tuple #[]) ∧ Own W none w' (.blk bp (curC c A C s.next Y) 59 :: .held S A 3 (rowsT c.ts) :: rs) := by
  refine enterF Try.func48 rfl Try.ntmps48 rfl (fun a F => ?_)
  refine cReg ?_
  refine sMv F rfl rfl rfl ?_;clear F a;intro a F
  refine sNc F rfl rfl rfl ?_;clear F a;intro a F
  refine sFa (f := 1) (k := 1) Try.underlying57 rfl Try.sizeOf3 rfl rfl F rfl rfl rfl ?_;clear F a;intro a F
  refine sLd Try.isAgg3 F rfl rfl rfl (H.cell 0 rfl rfl) ?_;clear F a;intro a F
  refine sBin F rfl rfl rfl rfl (bAddN (j := 1) ?_) ?_
  focus omega
  clear F a; intro a F
  refine sNc F rfl rfl rfl ?_;clear F a;intro a F
  refine sFa (f := 1) (k := 1) Try.underlying57 rfl Try.sizeOf3 rfl rfl F rfl rfl rfl ?_;clear F a;intro a F
  refine sSt H 0 Try.sizeOf3 F rfl rfl rfl rfl rfl rfl ?_
  clear H; intro w H
  refine sNil ?_
  first | refine bEnd Try.results48 F ?_ | (simp only [Exit.then, Exit.inBlock, if_true]; (repeat (first | rw [if_pos rfl] | rw [if_neg (by decide)])); refine bEnd Try.results48 F ?_)
  exact ⟨rfl, H⟩
theorem pword_any {W w0 : World} {rs : List Res} {c : PX} (hc : c.Ok) {A : Option Addr} {C bp : Nat} {S : Nat → Prop} {s : PS} {Y : List Value} (hp : s.pos ≤ 1000000) (H : Own W none w0 (.blk bp (curC c A C s Y) 59 :: .held S A 3 (rowsT c.ts) :: rs)) :
    Calls Try.prog 43 #[.pointer (some ⟨bp, 0, none⟩)] w0 fun e w' => e = .returned (.string (c.word s.pos)) ∧ Own W none w' (.blk bp (curC c A C s Y) 59 :: .held S A 3 (rowsT c.ts) :: rs) := by
  refine enterF Try.func43 rfl Try.ntmps43 rfl (fun a F => ?_)
  refine cSeq (fun K1 hK1 => ?_)
  refine cReg ?_
  refine sAs F rfl rfl rfl ?_;clear F a;intro a F
  refine sNil ?_
  refine hK1 _ _ ?_; clear hK1
  refine cSeq (fun K2 hK2 => ?_)
  refine cSeq (fun K3 hK3 => ?_)
  refine cReg ?_
  refine sMv F rfl rfl rfl ?_;clear F a;intro a F
  refine sCall Try.call59 F rfl rfl rfl (ptoken_any hc hp H) ?_
  rintro e w ⟨rfl, H⟩
  refine ⟨_, rfl, ?_⟩
  clear F a; intro a F
  refine sAl H Try.zeroValue69 F rfl rfl ?_
  clear F a H; intro b3 a w F H
  refine sSr H 0 ?si F rfl rfl rfl ?s1 rfl rfl ?_
  case si => exact info_size Try.sizeOf69
  case s1 => first | rfl | (repeat (first | exact one_nil | (apply one_cons; · first | rfl | assumption | exact one_bif rfl rfl)))
  clear H; intro w H
  refine sNil ?_
  refine hK3 _ _ ?_; clear hK3
  refine cSeq (fun K4 hK4 => ?_)
  refine cReg ?_
  refine sFa (f := 0) (k := 0) Try.underlying69 rfl Try.sizeOf67 rfl rfl F rfl rfl rfl ?_;clear F a;intro a F
  refine sLd Try.isAgg67 F rfl rfl rfl (H.cell 0 rfl rfl) ?_;clear F a;intro a F
  refine sBin F rfl rfl rfl rfl bEql ?_;clear F a;intro a F
  refine sNil ?_
  refine hK4 _ _ ?_; clear hK4
  refine cIf F rfl (fun h8 => ?_) (fun h8 => ?_)
  ·
   replace h8 := beqT h8
   have hk : c.kind s.pos = 1 := by omega
   refine cSeq (fun K5 hK5 => ?_)
   refine cReg ?_
   refine sFa (f := 1) (k := 1) Try.underlying69 rfl Try.sizeOf9 rfl rfl F rfl rfl rfl ?_;clear F a;intro a F
   refine sLd Try.isAgg9 F rfl rfl rfl (H.cell 0 rfl rfl) ?_;clear F a;intro a F
   refine sAs F rfl rfl rfl ?_;clear F a;intro a F
   refine sNil ?_
   refine hK5 _ _ ?_; clear hK5
   refine wp_ret ?_
   simp only [Exit.then]
   refine bRet Try.results43 F rfl ?_
   first | exact ⟨by unfold PX.word; rw [if_pos hk], H.tail⟩ | exact ⟨by unfold PX.word; rw [if_neg hk]; rfl, H.tail⟩
  replace h8 := beqF h8
  have hk : ¬ c.kind s.pos = 1 := by omega
  refine wp_skip ?_
  refine hK2 _ _ ?_; clear hK2
  refine cSeq (fun K6 hK6 => ?_)
  refine cReg ?_
  refine sAs F rfl rfl rfl ?_;clear F a;intro a F
  refine sNil ?_
  refine hK6 _ _ ?_; clear hK6
  refine wp_ret ?_
  refine bRet Try.results43 F rfl ?_
  first | exact ⟨by unfold PX.word; rw [if_pos hk], H.tail⟩ | exact ⟨by unfold PX.word; rw [if_neg hk]; rfl, H.tail⟩
theorem pends_any {W w0 : World} {rs : List Res} {c : PX} (hc : c.Ok) {A : Option Addr} {C bp : Nat} {S : Nat → Prop} {s : PS} {Y : List Value} (hp : s.pos ≤ 1000000) (H : Own W none w0 (.blk bp (curC c A C s Y) 59 :: .held S A 3 (rowsT c.ts) :: rs)) :
    Calls Try.prog 47 #[.pointer (some ⟨bp, 0, none⟩)] w0 fun e w' => e = .returned (.bool (decide (c.kind s.pos = 4))) ∧ Own W none w' (.blk bp (curC c A C s Y) 59 :: .held S A 3 (rowsT c.ts) :: rs) := by
  refine enterF Try.func47 rfl Try.ntmps47 rfl (fun a F => ?_)
  refine cSeq (fun K1 hK1 => ?_)
  refine cReg ?_
  refine sAs F rfl rfl rfl ?_;clear F a;intro a F
  refine sNil ?_
  refine hK1 _ _ ?_; clear hK1
  refine cSeq (fun K2 hK2 => ?_)
  refine cReg ?_
  refine sMv F rfl rfl rfl ?_;clear F a;intro a F
  refine sCall Try.call59 F rfl rfl rfl (ptoken_any hc hp H) ?_
  rintro e w ⟨rfl, H⟩
  refine ⟨_, rfl, ?_⟩
  clear F a; intro a F
  refine sFd (f := 0) Try.underlying69 rfl Try.isAgg67 F rfl rfl rfl rfl ?_;clear F a;intro a F
  refine sBin F rfl rfl rfl rfl bEql ?_;clear F a;intro a F
  refine sAs F rfl rfl rfl ?_;clear F a;intro a F
  refine sNil ?_
  refine hK2 _ _ ?_; clear hK2
  refine wp_ret ?_
  refine bRet Try.results47 F rfl ?_
  exact ⟨retB (by rw [Bool.eq_iff_iff, beq_iff_eq, decide_eq_true_eq]; omega), H⟩
theorem pis_any (str : List UInt8) {W w0 : World} {rs : List Res} {c : PX} (hc : c.Ok) {A : Option Addr} {C bp : Nat} {S : Nat → Prop} {s : PS} {Y : List Value} (hp : s.pos ≤ 1000000) (H : Own W none w0 (.blk bp (curC c A C s Y) 59 :: .held S A 3 (rowsT c.ts) :: rs)) :
    Calls Try.prog 62 #[.pointer (some ⟨bp, 0, none⟩), .string ⟨str.toArray⟩] w0 fun e w' => e = .returned (.bool (c.is s.pos str)) ∧ Own W none w' (.blk bp (curC c A C s Y) 59 :: .held S A 3 (rowsT c.ts) :: rs) := by
  refine enterF Try.func62 rfl Try.ntmps62 rfl (fun a F => ?_)
  refine cSeq (fun K1 hK1 => ?_)
  refine cReg ?_
  refine sAs F rfl rfl rfl ?_;clear F a;intro a F
  refine sNil ?_
  refine hK1 _ _ ?_; clear hK1
  refine cSeq (fun K2 hK2 => ?_)
  refine cReg ?_
  refine sMv F rfl rfl rfl ?_;clear F a;intro a F
  refine sCall Try.call59 F rfl rfl rfl (ptoken_any hc hp H) ?_
  rintro e w ⟨rfl, H⟩
  refine ⟨_, rfl, ?_⟩
  clear F a; intro a F
  refine sAl H Try.zeroValue69 F rfl rfl ?_
  clear F a H; intro b5 a w F H
  refine sSr H 0 ?si F rfl rfl rfl ?s1 rfl rfl ?_
  case si => exact info_size Try.sizeOf69
  case s1 => first | rfl | (repeat (first | exact one_nil | (apply one_cons; · first | rfl | assumption | exact one_bif rfl rfl)))
  clear H; intro w H
  refine sNil ?_
  refine hK2 _ _ ?_; clear hK2
  refine cSeq (fun K3 hK3 => ?_)
  refine cReg ?_
  refine sFa (f := 0) (k := 0) Try.underlying69 rfl Try.sizeOf67 rfl rfl F rfl rfl rfl ?_;clear F a;intro a F
  refine sLd Try.isAgg67 F rfl rfl rfl (H.cell 0 rfl rfl) ?_;clear F a;intro a F
  refine sBin F rfl rfl rfl rfl bEql ?_;clear F a;intro a F
  refine sMv F rfl rfl rfl ?_;clear F a;intro a F
  refine F.split 11 rfl ?_ ?_ <;> (clear F; intro h11 F)
  ·
   replace h11 := beqT h11
   have hk : c.kind s.pos = 3 := by omega
   refine sFa (f := 1) (k := 1) Try.underlying69 rfl Try.sizeOf9 rfl rfl F rfl rfl rfl ?_;clear F a;intro a F
   refine sLd Try.isAgg9 F rfl rfl rfl (H.cell 0 rfl rfl) ?_;clear F a;intro a F
   refine sMv F rfl rfl rfl ?_;clear F a;intro a F
   refine sBin F rfl rfl rfl rfl bStrEq ?_;clear F a;intro a F
   refine sPk F rfl rfl rfl rfl ?_;clear F a;intro a F
   refine sAs F rfl rfl rfl ?_;clear F a;intro a F
   refine sNil ?_
   refine hK3 _ _ ?_; clear hK3
   refine wp_ret ?_
   refine bRet Try.results62 F rfl ?_
   first | exact ⟨by rw [lit_toList str]; unfold PX.is; rw [hk]; rfl, H.tail⟩ | exact ⟨by unfold PX.is; rw [beq_eq_false_iff_ne.2 hk]; rfl, H.tail⟩
  replace h11 := beqF h11
  have hk : ¬ c.kind s.pos = 3 := by omega
  refine sSk F rfl rfl ?_;clear F a;intro a F
  refine sSk F rfl rfl ?_;clear F a;intro a F
  refine sSk F rfl rfl ?_;clear F a;intro a F
  refine sSk F rfl rfl ?_;clear F a;intro a F
  refine sPk F rfl rfl rfl rfl ?_;clear F a;intro a F
  refine sAs F rfl rfl rfl ?_;clear F a;intro a F
  refine sNil ?_
  refine hK3 _ _ ?_; clear hK3
  refine wp_ret ?_
  refine bRet Try.results62 F rfl ?_
  first | exact ⟨by rw [lit_toList str]; unfold PX.is; rw [hk]; rfl, H.tail⟩ | exact ⟨by unfold PX.is; rw [beq_eq_false_iff_ne.2 hk]; rfl, H.tail⟩
theorem ptakes_any (str : List UInt8) {W w0 : World} {rs : List Res} {c : PX} (hc : c.Ok) {A : Option Addr} {C bp : Nat} {S : Nat → Prop} {s : PS} {Y : List Value} (hp : s.pos ≤ 1000000) (H : Own W none w0 (.blk bp (curC c A C s Y) 59 :: .held S A 3 (rowsT c.ts) :: rs)) :
    Calls Try.prog 78 #[.pointer (some ⟨bp, 0, none⟩), .string ⟨str.toArray⟩] w0 fun e w' => e = .returned (.bool (c.kw s.pos str)) ∧ Own W none w' (.blk bp (curC c A C (if c.kw s.pos str = true then s.next else s) Y) 59 :: .held S A 3 (rowsT c.ts) :: rs) := by
  refine enterF Try.func78 rfl Try.ntmps78 rfl (fun a F => ?_)
  refine cSeq (fun K1 hK1 => ?_)
  refine cReg ?_
  refine sAs F rfl rfl rfl ?_;clear F a;intro a F
  refine sNil ?_
  refine hK1 _ _ ?_; clear hK1
  refine cSeq (fun K2 hK2 => ?_)
  refine cSeq (fun K3 hK3 => ?_)
  refine cReg ?_
  refine sMv F rfl rfl rfl ?_;clear F a;intro a F
  refine sCall Try.call43 F rfl rfl rfl (pword_any hc hp H) ?_
  rintro e w ⟨rfl, H⟩
  refine ⟨_, rfl, ?_⟩
  clear F a; intro a F
  refine sMv F rfl rfl rfl ?_;clear F a;intro a F
  refine sBin F rfl rfl rfl rfl bStrNe ?_;clear F a;intro a F
  refine sNil ?_
  refine hK3 _ _ ?_; clear hK3
  refine cIf F rfl (fun h8 => ?_) (fun h8 => ?_)
  ·
   replace h8 := nbeqT h8
   have hk : c.kw s.pos str = false := by unfold PX.kw; rw [lit_toList str] at h8; exact beq_eq_false_iff_ne.2 h8
   refine cSeq (fun K4 hK4 => ?_)
   refine cReg ?_
   refine sAs F rfl rfl rfl ?_;clear F a;intro a F
   refine sNil ?_
   refine hK4 _ _ ?_; clear hK4
   refine wp_ret ?_
   simp only [Exit.then]
   refine bRet Try.results78 F rfl ?_
   first | exact ⟨by rw [hk], by rw [hk]; exact H⟩
  replace h8 := nbeqF h8
  have hk : c.kw s.pos str = true := by unfold PX.kw; rw [lit_toList str] at h8; rw [h8]; exact beq_self_eq_true _
  refine wp_skip ?_
  refine hK2 _ _ ?_; clear hK2
  refine cSeq (fun K5 hK5 => ?_)
  refine cReg ?_
  refine sMv F rfl rfl rfl ?_;clear F a;intro a F
  refine sCall Try.call48 F rfl rfl rfl (pstep_any hc hp H) ?_
  rintro e w ⟨rfl, H⟩
  refine ⟨_, rfl, ?_⟩
  clear F a; intro a F
  refine sNil ?_
  refine hK5 _ _ ?_; clear hK5
  refine cSeq (fun K6 hK6 => ?_)
  refine cReg ?_
  refine sAs F rfl rfl rfl ?_;clear F a;intro a F
  refine sNil ?_
  refine hK6 _ _ ?_; clear hK6
  refine wp_ret ?_
  refine bRet Try.results78 F rfl ?_
  first | exact ⟨by rw [hk], by rw [hk]; exact H⟩
/-- Ends the parser with an error. -/
theorem fail_any (p e : Nat) {W w0 : World} {rs : List Res} (H : Own W none w0 rs) : Calls Try.prog 31 #[.int .i64 (p : Int), .int .i64 (e : Int)] w0 fun q w' => q = .panicked (flt p e) ∧ Own W none w' rs := by
  refine enterF Try.func31 rfl Try.ntmps31 rfl (fun a F => ?_)
  refine cReg ?_
  refine sMv F rfl rfl rfl ?_;clear F a;intro a F
  refine sMv F rfl rfl rfl ?_;clear F a;intro a F
  refine sBd (places := [(0, 1), (1, 1)]) Try.zeroValue94 Try.underlying94 (by kernel_rfl) F rfl rfl rfl rfl ?_;clear F a;intro a F
  refine sMi Try.underlying94 F rfl rfl rfl ?_;clear F a;intro a F
  refine sPanic F rfl rfl ?_
  exact And.intro F.nod ⟨rfl, H⟩
end Go.Proofs.Ytbdjlmdejlklkaa
