/-
  WALK2. The step string(bytes). Conditions: those of the theorem.
-/
import Derived.Test.YtkchaoajegkadaaGreatDoorJn8
import Derived.Test.YtkchaoajegkadaaGreatDoorJn2
set_option linter.unusedSimpArgs false
set_option linter.unusedVariables false
namespace Go.Proofs.YtkchaoajegkadaaGreatDoor
-- VsC
open Go.RowKit
set_option maxRecDepth 100000
section
variable {P : Program} {l : List Oper} {Q : Exit → Act → World → Prop} {N : Nat} {a : Act} {env : List (Nat × Value)} {rest : List Oper} {d : Tmp} {ty : TypeId} {pos : String} {af : Array Edge} {g : Option (Nat × Bool)} {w : World}
theorem sCvY {s t e : TypeId} {x : Operand} {A : Option Addr} {n c : Nat} {xs : List UInt8} (hs : P.underlying s = some (.slice e)) (he : P.underlying e = some (.int .u8)) (ht : P.underlying t = some .string) (F : Has N a env) (hg : wants l env g = true) (hN : Nat.blt d N = true)
    (hx : ev env x = some (.slice A n c)) (hn : n = xs.length) (hc : RowsAt w A 1 (xs.map fun x => [b8 x]))
    (K : ∀ a, Has N a ((d, .string ⟨xs.toArray⟩) :: env) → wpList P l.toArray Q rest a w) : wpList P l.toArray Q (⟨some d, .convert s t x, ty, pos, af, g⟩ :: rest) a w := by
  subst hn
  have h : (convert s t (.slice A xs.length c)).run P w = .ok (.string ⟨xs.toArray⟩) w := by
    rcases Nat.eq_zero_or_pos xs.length with h0 | h0
    · obtain rfl := List.eq_nil_of_length_eq_zero h0
      show (convert s t (.slice A 0 c)).run P w = .ok (.string ⟨#[]⟩) w
      rw [run_convert_bytes_string w s t e A 0 c hs he ht]
      cases A with
      | none => rfl
      | some q =>
        have hl := run_loadCells_list (P := P) w q [] (fun j v hj => by simp at hj)
        simp only [List.length_nil] at hl
        exact run_bytesToString (P := P) w q 0 c [] hl
    · obtain ⟨b, o, rfl, _⟩ := mapAt hc (List.getElem?_eq_getElem h0)
      refine run_convert_bytes_back (P := P) w s t e ⟨b, o, none⟩ c xs hs he ht (fun j hj => ?_)
      obtain ⟨b', o', he, hv⟩ := mapAt hc (List.getElem?_eq_getElem hj)
      cases he
      have := hv 0 _ rfl
      rw [Nat.mul_one, Nat.add_zero] at this;rw [Addr.add_mid]
      exact this
  exact stepV F hg rfl hN (show (execOp a.eval ⟨some d, .convert s t x, ty, pos, af, g⟩).run P w = .ok (.value (.string ⟨xs.toArray⟩)) w by
    simp only [execOp, F.eval hx, Sem.run_bind, h, Result.andThen_ok]
    rfl) K
theorem qCvY {s t e : TypeId} {x : Operand} {A : Option Addr} {n c : Nat} {xs : List UInt8} (hs : P.underlying s = some (.slice e)) (he : P.underlying e = some (.int .u8)) (ht : P.underlying t = some .string) (hg : wants l env g = true) (hN : Nat.blt d N = true) (hx : ev env x = some (.slice A n c)) (hn : n = xs.length) (hc : RowsAt w A 1 (xs.map fun x => [b8 x])) (K : ∀ a, Has N a ((d, .string ⟨xs.toArray⟩) :: env) → wpList P l.toArray Q rest a w) : ∀ a, Has N a env → wpList P l.toArray Q (⟨some d, .convert s t x, ty, pos, af, g⟩ :: rest) a w := fun a F => sCvY hs he ht F hg hN hx hn hc K
end
-- PrA
open Go.Proofs.Tryz
open Go.RowKit
set_option maxRecDepth 100000
theorem ptoken_any {W w0 : World} {rs : List Res} {c : PX} (hc : c.Ok) {A : Option Addr} {C bp : Nat} {S : Nat → Prop} {s : PS} {Y : List Value} (hp : s.pos ≤ 1000000) (H : Own W none w0 (.blk bp (curC c A C s Y) 66 :: .held S A 3 (rowsT c.ts) :: rs)) :
    Calls Tryz.prog 100 #[.pointer (some ⟨bp, 0, none⟩)] w0 fun e w' => e = .returned (.agg #[.int .u8 (c.kind s.pos : Int), .string (c.text s.pos), .int .i64 (c.atP s.pos : Int)]) ∧ Own W none w' (.blk bp (curC c A C s Y) 66 :: .held S A 3 (rowsT c.ts) :: rs) := by
  have hfew := hc.few
  refine enterF func100 rfl ntmps100 rfl (fun a F => ?_);refine cSR fun K1 hK1=>?_;refine sAl H zeroValue140 F rfl rfl ?_;clear F a H; intro b2 a w F H;refine nK hK1 ?_;clear hK1;refine cSeq (fun K2 hK2 => ?_);refine cSeq (fun K3 hK3 => ?_);refine cRegRO (by kernel_rfl) H ?_;replace H := H.drew;refine eTF 0 rfl (by kernel_rfl) F rfl rfl rfl (fun w=>rMv F rfl) H qq0 (qT 1 rfl (by kernel_rfl) rfl rfl rfl rfl (fun a F w H=>rNc F rfl) H qq0 (qTF 2 rfl (by kernel_rfl) rfl rfl rfl (fun a F w=>rFa (f := 1) (k := 1) underlying64 rfl sizeOf3 rfl rfl F rfl) H qq0 (qT 3 rfl (by kernel_rfl) rfl rfl rfl rfl (fun a F w H=>rLd isAgg3 F rfl (H.cell 1 rfl rfl)) H qq0 (qTF 4 rfl (by kernel_rfl) rfl rfl rfl (fun a F w=>rMv F rfl) H qq0 (qT 5 rfl (by kernel_rfl) rfl rfl rfl rfl (fun a F w H=>rNc F rfl) H qq0 (qTF 6 rfl (by kernel_rfl) rfl rfl rfl (fun a F w=>rFa (f := 0) (k := 0) underlying64 rfl sizeOf62 rfl rfl F rfl) H qq0 (qT 7 rfl (by kernel_rfl) rfl rfl rfl rfl (fun a F w H=>rLd isAgg62 F rfl (H.cell 1 rfl rfl)) H qq0 (qT 8 rfl (by kernel_rfl) rfl rfl rfl rfl (fun a F w H=>rLen underlying62 F rfl) H qq0 (qTF 9 rfl (by kernel_rfl) rfl rfl rfl (fun a F w=>rBin F rfl rfl bGeq) H qq0 ?_)))))))));clear F a;intro a F;refine eNil (k := 10) (by kernel_rfl) ?_;refine hK3 _ _ ?_;clear hK3
  refine cIf F rfl (fun h12 => ?_) (fun h12 => ?_)
  ·
   replace h12 := of_decide_eq_true h12
   obtain ⟨e1, e2, e3, e4⟩ := px_none (c := c) (i := s.pos) (by omega)
   refine cSR fun K4 hK4=>sBd (places := [(0, 1), (1, 1), (2, 1)]) zeroValue140 underlying140 (by kernel_rfl) F rfl rfl rfl rfl ?_;clear F a;intro a F
   refine sSr H 0 ?si F rfl rfl rfl ?s1 rfl rfl ?_
   case si => exact info_size sizeOf140
   case s1 => first | rfl | (repeat (first | exact one_nil | (apply one_cons; · first | rfl | assumption | exact one_bif rfl rfl)))
   clear H; intro w H;refine nK hK4 ?_;clear hK4;refine wp_ret ?_;simp only [Exit.then];refine bRetC results100 F rfl underlying140 rfl H 0 rfl sizeOf140 rfl ?_
   exact ⟨by rw [e1, e2, e3]; rfl, H.tail⟩
  replace h12 := of_decide_eq_false h12
  have hlt : s.pos < c.ts.length := by omega
  obtain ⟨t, ht⟩ : ∃ t, c.ts[s.pos]? = some t := ⟨_, List.getElem?_eq_getElem hlt⟩
  obtain ⟨e1, e2, e3, e4⟩ := px_some ht
  obtain ⟨g, o, rfl, _⟩ := H.held 2 rfl s.pos t.cells (rowsT_get ht)
  refine wp_skip (hK2 _ _ ?_);clear hK2;refine cSeq (fun K5 hK5 => ?_);refine cRegRO (by kernel_rfl) H ?_;replace H := H.drew;refine eTF 0 rfl (by kernel_rfl) F rfl rfl rfl (fun w=>rMv F rfl) H qq0 (qT 1 rfl (by kernel_rfl) rfl rfl rfl rfl (fun a F w H=>rNc F rfl) H qq0 (qTF 2 rfl (by kernel_rfl) rfl rfl rfl (fun a F w=>rFa (f := 0) (k := 0) underlying64 rfl sizeOf62 rfl rfl F rfl) H qq0 (qT 3 rfl (by kernel_rfl) rfl rfl rfl rfl (fun a F w H=>rLd isAgg62 F rfl (H.cell 1 rfl rfl)) H qq0 (qTF 4 rfl (by kernel_rfl) rfl rfl rfl (fun a F w=>rMv F rfl) H qq0 (qT 5 rfl (by kernel_rfl) rfl rfl rfl rfl (fun a F w H=>rNc F rfl) H qq0 (qTF 6 rfl (by kernel_rfl) rfl rfl rfl (fun a F w=>rFa (f := 1) (k := 1) underlying64 rfl sizeOf3 rfl rfl F rfl) H qq0 (qT 7 rfl (by kernel_rfl) rfl rfl rfl rfl (fun a F w H=>rLd isAgg3 F rfl (H.cell 1 rfl rfl)) H qq0 ?_)))))));clear F a;intro a F
  refine eTakeF (k := 8) (i := 8) rfl (by kernel_rfl) F rfl rfl rfl (fun w => rIx underlying62 sizeOf140 F rfl rfl ?_) H (fun _ _ _ h => h) ?_
  focus omega
  clear F a; intro a F
  refine eTake (k := 9) (i := 9) rfl (by kernel_rfl) F rfl rfl rfl rfl (fun w H => rLr underlying140 rfl ?si F rfl (heldRow H 2 rfl (rowsT_get ht))) H (fun _ _ _ h => h) ?_
  case si => exact info_size sizeOf140
  clear F a; intro a F
  refine eOne (k := 10) (i := 10) rfl (by kernel_rfl) F rfl (oSr H 0 ?si F rfl rfl ?s1 rfl rfl ?_)
  case si => exact info_size sizeOf140
  case s1 => first | rfl | (repeat (first | exact one_nil | (apply one_cons; · first | rfl | assumption | exact one_bif rfl rfl)))
  clear H; intro w H;refine ePartO (by kernel_rfl) H ?_;refine eNil (k := 11) (by kernel_rfl) ?_;refine hK5 _ _ ?_;clear hK5;refine wp_ret ?_;refine bRetC results100 F rfl underlying140 rfl H 0 rfl sizeOf140 rfl ?_
  exact ⟨by rw [e1, e2, e3]; rfl, H.tail⟩
theorem pplace_any {W w0 : World} {rs : List Res} {c : PX} (hc : c.Ok) {A : Option Addr} {C bp : Nat} {S : Nat → Prop} {s : PS} {Y : List Value} (hp : s.pos ≤ 1000000) (H : Own W none w0 (.blk bp (curC c A C s Y) 66 :: .held S A 3 (rowsT c.ts) :: rs)) :
    Calls Tryz.prog 52 #[.pointer (some ⟨bp, 0, none⟩)] w0 fun e w' => e = .returned (.int .i64 (c.place s.pos : Int)) ∧ Own W none w' (.blk bp (curC c A C s Y) 66 :: .held S A 3 (rowsT c.ts) :: rs) := by
  have hfew := hc.few
  refine enterF func52 rfl ntmps52 rfl (fun a F => ?_);refine cSR fun K1 hK1=>sAs F rfl rfl rfl (qNK hK1 ?_);clear hK1;clear F a;intro a F;refine cSeq (fun K2 hK2 => ?_);refine cSeq (fun K3 hK3 => ?_);refine cRegRO (by kernel_rfl) H ?_;replace H := H.drew;refine eTF 0 rfl (by kernel_rfl) F rfl rfl rfl (fun w=>rMv F rfl) H qq0 (qT 1 rfl (by kernel_rfl) rfl rfl rfl rfl (fun a F w H=>rNc F rfl) H qq0 (qTF 2 rfl (by kernel_rfl) rfl rfl rfl (fun a F w=>rFa (f := 1) (k := 1) underlying64 rfl sizeOf3 rfl rfl F rfl) H qq0 (qT 3 rfl (by kernel_rfl) rfl rfl rfl rfl (fun a F w H=>rLd isAgg3 F rfl (H.cell 0 rfl rfl)) H qq0 (qTF 4 rfl (by kernel_rfl) rfl rfl rfl (fun a F w=>rMv F rfl) H qq0 (qT 5 rfl (by kernel_rfl) rfl rfl rfl rfl (fun a F w H=>rNc F rfl) H qq0 (qTF 6 rfl (by kernel_rfl) rfl rfl rfl (fun a F w=>rFa (f := 0) (k := 0) underlying64 rfl sizeOf62 rfl rfl F rfl) H qq0 (qT 7 rfl (by kernel_rfl) rfl rfl rfl rfl (fun a F w H=>rLd isAgg62 F rfl (H.cell 0 rfl rfl)) H qq0 (qT 8 rfl (by kernel_rfl) rfl rfl rfl rfl (fun a F w H=>rLen underlying62 F rfl) H qq0 (qTF 9 rfl (by kernel_rfl) rfl rfl rfl (fun a F w=>rBin F rfl rfl bGeq) H qq0 ?_)))))))));clear F a;intro a F;refine eNil (k := 10) (by kernel_rfl) ?_;refine hK3 _ _ ?_;clear hK3
  refine cIf F rfl (fun h12 => ?_) (fun h12 => ?_)
  ·
   replace h12 := of_decide_eq_true h12
   obtain ⟨e1, e2, e3, e4⟩ := px_none (c := c) (i := s.pos) (by omega)
   refine cSR fun K4 hK4=>sMv F rfl rfl rfl (qNc rfl rfl rfl (qFa (f := 2) (k := 2) underlying64 rfl sizeOf3 rfl rfl rfl rfl rfl (qLd isAgg3 rfl rfl rfl (H.cell 0 rfl rfl) (qAs rfl rfl rfl (qNK hK4 ?_)))));clear hK4;clear F a;intro a F;refine wp_ret ?_;simp only [Exit.then];refine bRet results52 F rfl ?_
   exact ⟨by rw [e4], H⟩
  replace h12 := of_decide_eq_false h12
  have hlt : s.pos < c.ts.length := by omega
  obtain ⟨t, ht⟩ : ∃ t, c.ts[s.pos]? = some t := ⟨_, List.getElem?_eq_getElem hlt⟩
  obtain ⟨e1, e2, e3, e4⟩ := px_some ht
  obtain ⟨g, o, rfl, _⟩ := H.held 1 rfl s.pos t.cells (rowsT_get ht)
  refine wp_skip (hK2 _ _ ?_);clear hK2;refine cSeq (fun K5 hK5 => ?_);refine cRegRO (by kernel_rfl) H ?_;replace H := H.drew;refine eTF 0 rfl (by kernel_rfl) F rfl rfl rfl (fun w=>rMv F rfl) H qq0 (qT 1 rfl (by kernel_rfl) rfl rfl rfl rfl (fun a F w H=>rNc F rfl) H qq0 (qTF 2 rfl (by kernel_rfl) rfl rfl rfl (fun a F w=>rFa (f := 0) (k := 0) underlying64 rfl sizeOf62 rfl rfl F rfl) H qq0 (qT 3 rfl (by kernel_rfl) rfl rfl rfl rfl (fun a F w H=>rLd isAgg62 F rfl (H.cell 0 rfl rfl)) H qq0 (qTF 4 rfl (by kernel_rfl) rfl rfl rfl (fun a F w=>rMv F rfl) H qq0 (qT 5 rfl (by kernel_rfl) rfl rfl rfl rfl (fun a F w H=>rNc F rfl) H qq0 (qTF 6 rfl (by kernel_rfl) rfl rfl rfl (fun a F w=>rFa (f := 1) (k := 1) underlying64 rfl sizeOf3 rfl rfl F rfl) H qq0 (qT 7 rfl (by kernel_rfl) rfl rfl rfl rfl (fun a F w H=>rLd isAgg3 F rfl (H.cell 0 rfl rfl)) H qq0 ?_)))))));clear F a;intro a F
  refine eTakeF (k := 8) (i := 8) rfl (by kernel_rfl) F rfl rfl rfl (fun w => rIx underlying62 sizeOf140 F rfl rfl ?_) H (fun _ _ _ h => h) ?_
  focus omega
  clear F a; intro a F;refine eTF 9 rfl (by kernel_rfl) F rfl rfl rfl (fun w=>rFa (f := 2) underlying140 rfl sizeOf3 rfl rfl F rfl) H qq0 (qT 10 rfl (by kernel_rfl) rfl rfl rfl rfl (fun a F w H=>rLd isAgg3 F rfl (heldRow H 1 rfl (rowsT_get ht) 2 _ rfl)) H qq0 (qTF 11 rfl (by kernel_rfl) rfl rfl rfl (fun a F w=>rAs F rfl) H qq0 ?_));clear F a;intro a F;refine eNil (k := 12) (by kernel_rfl) ?_;refine hK5 _ _ ?_;clear hK5;refine wp_ret ?_;refine bRet results52 F rfl ?_
  exact ⟨by rw [e4], H⟩
theorem pstep_any {W w0 : World} {rs : List Res} {c : PX} (hc : c.Ok) {A : Option Addr} {C bp : Nat} {S : Nat → Prop} {s : PS} {Y : List Value} (hp : s.pos ≤ 1000000) (H : Own W none w0 (.blk bp (curC c A C s Y) 66 :: .held S A 3 (rowsT c.ts) :: rs)) :
    Calls Tryz.prog 102 #[.pointer (some ⟨bp, 0, none⟩)] w0 fun e w' => e = .returned (.tuple #[]) ∧ Own W none w' (.blk bp (curC c A C s.next Y) 66 :: .held S A 3 (rowsT c.ts) :: rs) := by
  refine enterF func102 rfl ntmps102 rfl (fun a F => ?_);refine cReg (sMv F rfl rfl rfl (qNc rfl rfl rfl (qFa (f := 1) (k := 1) underlying64 rfl sizeOf3 rfl rfl rfl rfl rfl (qLd isAgg3 rfl rfl rfl (H.cell 0 rfl rfl) ?_))));clear F a;intro a F
  refine sBin F rfl rfl rfl rfl (bAddN (j := 1) ?_) ?_
  focus omega
  clear F a; intro a F;refine sNc F rfl rfl rfl (qFa (f := 1) (k := 1) underlying64 rfl sizeOf3 rfl rfl rfl rfl rfl ?_);clear F a;intro a F;refine sSt H 0 sizeOf3 F rfl rfl rfl rfl rfl rfl ?_;clear H; intro w H;refine sNil ?_
  first | refine bEnd results102 F ?_ | (simp only [Exit.then, Exit.inBlock, if_true]; (repeat (first | rw [if_pos rfl] | rw [if_neg (by decide)])); refine bEnd results102 F ?_)
  exact ⟨rfl, H⟩
theorem pword_any {W w0 : World} {rs : List Res} {c : PX} (hc : c.Ok) {A : Option Addr} {C bp : Nat} {S : Nat → Prop} {s : PS} {Y : List Value} (hp : s.pos ≤ 1000000) (H : Own W none w0 (.blk bp (curC c A C s Y) 66 :: .held S A 3 (rowsT c.ts) :: rs)) :
    Calls Tryz.prog 54 #[.pointer (some ⟨bp, 0, none⟩)] w0 fun e w' => e = .returned (.string (c.word s.pos)) ∧ Own W none w' (.blk bp (curC c A C s Y) 66 :: .held S A 3 (rowsT c.ts) :: rs) := by
  refine enterF func54 rfl ntmps54 rfl (fun a F => ?_);refine cSR fun K1 hK1=>sAs F rfl rfl rfl (qNK hK1 ?_);clear hK1;clear F a;intro a F;refine cSeq (fun K2 hK2 => ?_);refine cSR fun K3 hK3=>sMv F rfl rfl rfl ?_;clear F a;intro a F;refine sCall call100 F rfl rfl rfl (ptoken_any hc hp H) ?_;rintro e w ⟨rfl, H⟩;refine ⟨_, rfl, ?_⟩;clear F a; intro a F;refine sAl H zeroValue140 F rfl rfl ?_;clear F a H; intro b3 a w F H
  refine sSr H 0 ?si F rfl rfl rfl ?s1 rfl rfl ?_
  case si => exact info_size sizeOf140
  case s1 => first | rfl | (repeat (first | exact one_nil | (apply one_cons; · first | rfl | assumption | exact one_bif rfl rfl)))
  clear H; intro w H;refine nK hK3 (cSR fun K4 hK4=>sFa (f := 0) (k := 0) underlying140 rfl sizeOf138 rfl rfl F rfl rfl rfl (qLd isAgg138 rfl rfl rfl (H.cell 0 rfl rfl) (qBin rfl rfl rfl rfl bEql (qNK hK4 ?_))));clear hK3 hK4;clear F a;intro a F
  refine cIf F rfl (fun h8 => ?_) (fun h8 => ?_)
  ·
   replace h8 := beqT h8
   have hk : c.kind s.pos = 1 := by omega
   refine cSR fun K5 hK5=>sFa (f := 1) (k := 1) underlying140 rfl sizeOf9 rfl rfl F rfl rfl rfl (qLd isAgg9 rfl rfl rfl (H.cell 0 rfl rfl) (qAs rfl rfl rfl (qNK hK5 ?_)));clear hK5;clear F a;intro a F;refine wp_ret ?_;simp only [Exit.then];refine bRet results54 F rfl ?_
   first | exact ⟨by unfold PX.word; rw [if_pos hk], H.tail⟩ | exact ⟨by unfold PX.word; rw [if_neg hk]; rfl, H.tail⟩
  replace h8 := beqF h8
  have hk : ¬ c.kind s.pos = 1 := by omega
  refine wp_skip (hK2 _ _ (cSR fun K6 hK6=>sAs F rfl rfl rfl (qNK hK6 ?_)));clear hK2 hK6;clear F a;intro a F;refine wp_ret ?_;refine bRet results54 F rfl ?_
  first | exact ⟨by unfold PX.word; rw [if_pos hk], H.tail⟩ | exact ⟨by unfold PX.word; rw [if_neg hk]; rfl, H.tail⟩
theorem pends_any {W w0 : World} {rs : List Res} {c : PX} (hc : c.Ok) {A : Option Addr} {C bp : Nat} {S : Nat → Prop} {s : PS} {Y : List Value} (hp : s.pos ≤ 1000000) (H : Own W none w0 (.blk bp (curC c A C s Y) 66 :: .held S A 3 (rowsT c.ts) :: rs)) :
    Calls Tryz.prog 101 #[.pointer (some ⟨bp, 0, none⟩)] w0 fun e w' => e = .returned (.bool (decide (c.kind s.pos = 4))) ∧ Own W none w' (.blk bp (curC c A C s Y) 66 :: .held S A 3 (rowsT c.ts) :: rs) := by
  refine enterF func101 rfl ntmps101 rfl (fun a F => ?_);refine cSR fun K1 hK1=>sAs F rfl rfl rfl (qNK hK1 (qSR fun K2 hK2=>qMv rfl rfl rfl ?_));clear hK1;clear F a;intro a F;refine sCall call100 F rfl rfl rfl (ptoken_any hc hp H) ?_;rintro e w ⟨rfl, H⟩;refine ⟨_, rfl, ?_⟩;clear F a; intro a F;refine sFd (f := 0) underlying140 rfl isAgg138 F rfl rfl rfl rfl (qBin rfl rfl rfl rfl bEql (qAs rfl rfl rfl (qNK hK2 ?_)));clear hK2;clear F a;intro a F;refine wp_ret ?_;refine bRet results101 F rfl ?_
  exact ⟨retB (by rw [Bool.eq_iff_iff, beq_iff_eq, decide_eq_true_eq]; omega), H⟩
theorem pis_any (str : List UInt8) {W w0 : World} {rs : List Res} {c : PX} (hc : c.Ok) {A : Option Addr} {C bp : Nat} {S : Nat → Prop} {s : PS} {Y : List Value} (hp : s.pos ≤ 1000000) (H : Own W none w0 (.blk bp (curC c A C s Y) 66 :: .held S A 3 (rowsT c.ts) :: rs)) :
    Calls Tryz.prog 145 #[.pointer (some ⟨bp, 0, none⟩), .string ⟨str.toArray⟩] w0 fun e w' => e = .returned (.bool (c.is s.pos str)) ∧ Own W none w' (.blk bp (curC c A C s Y) 66 :: .held S A 3 (rowsT c.ts) :: rs) := by
  refine enterF func145 rfl ntmps145 rfl (fun a F => ?_);refine cSR fun K1 hK1=>sAs F rfl rfl rfl (qNK hK1 (qSR fun K2 hK2=>qMv rfl rfl rfl ?_));clear hK1;clear F a;intro a F;refine sCall call100 F rfl rfl rfl (ptoken_any hc hp H) ?_;rintro e w ⟨rfl, H⟩;refine ⟨_, rfl, ?_⟩;clear F a; intro a F;refine sAl H zeroValue140 F rfl rfl ?_;clear F a H; intro b5 a w F H
  refine sSr H 0 ?si F rfl rfl rfl ?s1 rfl rfl ?_
  case si => exact info_size sizeOf140
  case s1 => first | rfl | (repeat (first | exact one_nil | (apply one_cons; · first | rfl | assumption | exact one_bif rfl rfl)))
  clear H; intro w H;refine nK hK2 (cSR fun K3 hK3=>sFa (f := 0) (k := 0) underlying140 rfl sizeOf138 rfl rfl F rfl rfl rfl (qLd isAgg138 rfl rfl rfl (H.cell 0 rfl rfl) (qBin rfl rfl rfl rfl bEql (qMv rfl rfl rfl ?_))));clear hK2;clear F a;intro a F
  refine F.split 11 rfl ?_ ?_ <;> (clear F; intro h11 F)
  ·
   replace h11 := beqT h11
   have hk : c.kind s.pos = 3 := by omega
   refine sFa (f := 1) (k := 1) underlying140 rfl sizeOf9 rfl rfl F rfl rfl rfl (qLd isAgg9 rfl rfl rfl (H.cell 0 rfl rfl) (qMv rfl rfl rfl (qBin rfl rfl rfl rfl bStrEq (qPk rfl rfl rfl rfl (qAs rfl rfl rfl (qNK hK3 ?_))))));clear hK3;clear F a;intro a F;refine wp_ret ?_;refine bRet results145 F rfl ?_
   first | exact ⟨by rw [lit_toList str]; unfold PX.is; rw [hk]; rfl, H.tail⟩ | exact ⟨by unfold PX.is; rw [beq_eq_false_iff_ne.2 hk]; rfl, H.tail⟩
  replace h11 := beqF h11
  have hk : ¬ c.kind s.pos = 3 := by omega
  refine sSk F rfl rfl (qSk rfl rfl (qSk rfl rfl (qSk rfl rfl (qPk rfl rfl rfl rfl (qAs rfl rfl rfl (qNK hK3 ?_))))));clear hK3;clear F a;intro a F;refine wp_ret ?_;refine bRet results145 F rfl ?_
  first | exact ⟨by rw [lit_toList str]; unfold PX.is; rw [hk]; rfl, H.tail⟩ | exact ⟨by unfold PX.is; rw [beq_eq_false_iff_ne.2 hk]; rfl, H.tail⟩
theorem ptakes_any (str : List UInt8) {W w0 : World} {rs : List Res} {c : PX} (hc : c.Ok) {A : Option Addr} {C bp : Nat} {S : Nat → Prop} {s : PS} {Y : List Value} (hp : s.pos ≤ 1000000) (H : Own W none w0 (.blk bp (curC c A C s Y) 66 :: .held S A 3 (rowsT c.ts) :: rs)) :
    Calls Tryz.prog 139 #[.pointer (some ⟨bp, 0, none⟩), .string ⟨str.toArray⟩] w0 fun e w' => e = .returned (.bool (c.kw s.pos str)) ∧ Own W none w' (.blk bp (curC c A C (if c.kw s.pos str = true then s.next else s) Y) 66 :: .held S A 3 (rowsT c.ts) :: rs) := by
  refine enterF func139 rfl ntmps139 rfl (fun a F => ?_);refine cSR fun K1 hK1=>sAs F rfl rfl rfl (qNK hK1 ?_);clear hK1;clear F a;intro a F;refine cSeq (fun K2 hK2 => ?_);refine cSR fun K3 hK3=>sMv F rfl rfl rfl ?_;clear F a;intro a F;refine sCall call54 F rfl rfl rfl (pword_any hc hp H) ?_;rintro e w ⟨rfl, H⟩;refine ⟨_, rfl, ?_⟩;clear F a; intro a F;refine sMv F rfl rfl rfl (qBin rfl rfl rfl rfl bStrNe (qNK hK3 ?_));clear hK3;clear F a;intro a F
  refine cIf F rfl (fun h8 => ?_) (fun h8 => ?_)
  ·
   replace h8 := nbeqT h8
   have hk : c.kw s.pos str = false := by unfold PX.kw; rw [lit_toList str] at h8; exact beq_eq_false_iff_ne.2 h8
   refine cSR fun K4 hK4=>sAs F rfl rfl rfl (qNK hK4 ?_);clear hK4;clear F a;intro a F;refine wp_ret ?_;simp only [Exit.then];refine bRet results139 F rfl ?_
   first | exact ⟨by rw [hk], by rw [hk]; exact H⟩
  replace h8 := nbeqF h8
  have hk : c.kw s.pos str = true := by unfold PX.kw; rw [lit_toList str] at h8; rw [h8]; exact beq_self_eq_true _
  refine wp_skip (hK2 _ _ (cSR fun K5 hK5=>sMv F rfl rfl rfl ?_));clear hK2;clear F a;intro a F;refine sCall call102 F rfl rfl rfl (pstep_any hc hp H) ?_;rintro e w ⟨rfl, H⟩;refine ⟨_, rfl, ?_⟩;clear F a; intro a F;refine nK hK5 (cSR fun K6 hK6=>sAs F rfl rfl rfl (qNK hK6 ?_));clear hK5 hK6;clear F a;intro a F;refine wp_ret ?_;refine bRet results139 F rfl ?_
  first | exact ⟨by rw [hk], by rw [hk]; exact H⟩
theorem fail_any (p e : Nat) {W w0 : World} {rs : List Res} (H : Own W none w0 rs) : Calls Tryz.prog 59 #[.int .i64 (p : Int), .int .i64 (e : Int)] w0 fun q w' => q = .panicked (flt p e) ∧ Own W none w' rs := by
  refine enterF func59 rfl ntmps59 rfl (fun a F => ?_);refine cReg (sMv F rfl rfl rfl (qMv rfl rfl rfl (qBd (places := [(0, 1), (1, 1)]) zeroValue101 underlying101 (by kernel_rfl) rfl rfl rfl rfl (qMi underlying101 rfl rfl rfl ?_))));clear F a;intro a F;refine sPanic F rfl rfl ?_
  exact And.intro F.nod ⟨rfl, H⟩
-- PrF
theorem nameOk_nil : nameOk ByteArray.empty = false := by decide +kernel
theorem regOk_nil : regOk ByteArray.empty = false := by decide +kernel
theorem regV_lt {s : ByteArray} (h : regOk s = true) : (regV s).toNat < 8 := by
  unfold regV
  unfold regOk at h
  split at h
  next hs =>
    rw [dif_pos hs]
    simp only [Bool.and_eq_true, beq_iff_eq, decide_eq_true_eq] at h
    split <;> omega
  next => cases h
def Rs.All {α : Type} (r : Rs α) (P : α → PS → Prop) : Prop := ∀ v t, r = .ok v t → P v t
theorem Rs.All.bind {α β : Type} {r : Rs α} {f : α → PS → Rs β} {P : α → PS → Prop} {Q : β → PS → Prop} (h : r.All P) (hf : ∀ v t, r = .ok v t → P v t → (f v t).All Q) : (r.bind f).All Q := by
  cases r with
  | ok v s => exact hf v s rfl (h v s rfl)
  | no p e => intro v t h; cases h
theorem Rs.All.no {α : Type} {p e : Nat} {P : α → PS → Prop} : (Rs.no p e : Rs α).All P := fun v t h => by cases h
theorem Rs.All.ok {α : Type} {v : α} {s : PS} {P : α → PS → Prop} (h : P v s) : (Rs.ok v s).All P := fun v' t h' => by cases h'; exact h
theorem Rs.All.ite {α : Type} {p : Prop} [Decidable p] {a b : Rs α} {P : α → PS → Prop} (h1 : p → a.All P) (h2 : ¬ p → b.All P) : (if p then a else b).All P := by
  split
  · exact h1 ‹_›
  · exact h2 ‹_›
theorem Rs.All.imp {α : Type} {r : Rs α} {P Q : α → PS → Prop} (h : r.All P) (f : ∀ v t, P v t → Q v t) : r.All Q := fun v t hr => f v t (h v t hr)
section
variable {c : PX}
theorem kind_lt {i : Nat} (h : c.kind i ≠ 0) : i < c.ts.length := by
  rcases Nat.lt_or_ge i c.ts.length with h1 | h1
  · exact h1
  · refine absurd ?_ h
    unfold PX.kind
    rw [List.getElem?_eq_none h1]
theorem is_lt {i : Nat} {str : List UInt8} (h : c.is i str = true) : i < c.ts.length := by
  unfold PX.is at h
  rw [Bool.and_eq_true, beq_iff_eq] at h
  exact kind_lt (by omega)
theorem word_lt {i : Nat} (h : c.word i ≠ ByteArray.empty) : i < c.ts.length := by
  unfold PX.word at h
  split at h
  · exact kind_lt (by omega)
  · exact absurd rfl h
theorem kw_lt {i : Nat} {x : UInt8} {r : List UInt8} (h : c.kw i (x :: r) = true) : i < c.ts.length := by
  refine word_lt fun e => ?_
  unfold PX.kw at h
  rw [e] at h
  simp at h
theorem name_lt {i : Nat} (h : nameOk (c.word i) = true) : i < c.ts.length := word_lt fun e => by rw [e, nameOk_nil] at h; cases h
theorem reg_lt {i : Nat} (h : regOk (c.word i) = true) : i < c.ts.length := word_lt fun e => by rw [e, regOk_nil] at h; cases h
structure NmOk (l : List ByteArray) : Prop where
  ok : ∀ x ∈ l, nameOk x = true
  apart : l.Pairwise (fun a b => a.toList ≠ b.toList)
  few : l.length ≤ 6
structure Gs (c : PX) (s t : PS) : Prop where
  lt : s.pos < t.pos
  le : t.pos ≤ c.ts.length
  more : s.names.length ≤ t.names.length
  names : NmOk s.names → NmOk t.names
  keep : c.fixed = true → t.names = s.names
theorem Gs.trans {s t u : PS} (h : Gs c s t) (k : Gs c t u) : Gs c s u := ⟨Nat.lt_trans h.lt k.lt, k.le, Nat.le_trans h.more k.more, fun hn => k.names (h.names hn), fun hf => (k.keep hf).trans (h.keep hf)⟩
theorem Gs.next {s : PS} (h : s.pos < c.ts.length) : Gs c s s.next := ⟨Nat.lt_succ_self _, h, Nat.le_refl _, id, fun _ => rfl⟩
theorem idxOf_none {w : ByteArray} : ∀ {l : List ByteArray} {k : Nat}, idxOf w l k = none → ∀ x ∈ l, x.toList ≠ w.toList
  | [], _, _, x, hx => absurd hx List.not_mem_nil
  | y :: r, k, h, x, hx => by
    unfold idxOf at h
    split at h
    · cases h
    next hne =>
      rcases List.mem_cons.1 hx with rfl | hx
      · intro e; exact hne (by rw [e]; exact beq_self_eq_true _)
      · exact idxOf_none h x hx
theorem idxOf_some {w : ByteArray} : ∀ {l : List ByteArray} {k j : Nat}, idxOf w l k = some j → k ≤ j ∧ j < k + l.length
  | [], _, _, h => by cases h
  | y :: r, k, j, h => by
    unfold idxOf at h
    split at h
    · cases h; simp
    · obtain ⟨h1, h2⟩ := idxOf_some h
      rw [List.length_cons]; omega
theorem signP_all {str : List UInt8} {s : PS} : (signP c str s).All fun _ t => Gs c s t ∧ t = s.next := by
  unfold signP failP
  exact .ite (fun h => .ok ⟨Gs.next (is_lt h), rfl⟩) (fun _ => .no)
theorem endP_all {s : PS} : (endP c s).All fun _ t => Gs c s t ∧ t = s.next := by
  unfold endP failP
  exact .ite (fun h => .ok ⟨Gs.next (kind_lt (by omega)), rfl⟩) (fun _ => .no)
theorem numQ_all {s : PS} : (numQ c s).All fun _ t => Gs c s t ∧ t = s.next := by
  unfold numQ failP
  exact .ite (fun h => .ok ⟨Gs.next (kind_lt (by omega)), rfl⟩) (fun _ => .no)
theorem regQ_all {s : PS} : (regQ c s).All fun v t => Gs c s t ∧ t = s.next ∧ v.toNat < 8 := by
  unfold regQ failP
  exact .ite (fun h => .ok ⟨Gs.next (reg_lt h), rfl, by have := regV_lt h; rw [UInt8.toNat_ofNat']; omega⟩) (fun _ => .no)
theorem argP_all {s : PS} : (argP' c s).All fun v t => Gs c s t ∧ t = s.next ∧ (v.1 = true → v.2.toNat < 8) := by
  unfold argP'
  exact .ite (fun h => numQ_all.bind fun v t _ hv => .ok ⟨hv.1, hv.2, fun e => by cases e⟩) (fun _ => regQ_all.bind fun v t _ hv => .ok ⟨hv.1, hv.2.1, fun _ => hv.2.2⟩)
theorem locP_all {s : PS} : (locP c s).All fun v t => Gs c s t ∧ t.pos = s.pos + 1 ∧ (s.names.length ≤ 6 → v.toNat < t.names.length) ∧ (idxOf (c.word s.pos) s.names 0 = none → t.names.length = s.names.length + 1) := by
  unfold locP failP
  refine .ite (fun h => ?_) (fun _ => .no)
  have hl := name_lt h
  cases hi : idxOf (c.word s.pos) s.names 0 with
  | some k =>
    have hk := idxOf_some hi
    refine .ok ⟨Gs.next hl, rfl, fun h6 => ?_, fun e => by cases e⟩
    show (UInt8.ofNat k).toNat < s.names.length
    rw [UInt8.toNat_ofNat']; omega
  | none =>
    refine .ite (fun _ => .no) (fun hf => .ite (fun _ => .no) (fun h6 => .ok ⟨⟨Nat.lt_succ_self _, hl, ?_, fun hn => ⟨fun x hx => ?_, ?_, ?_⟩, fun h => absurd h hf⟩, rfl, fun h7 => ?_, fun _ => ?_⟩))
    · show s.names.length ≤ (s.names ++ [c.word s.pos]).length
      rw [List.length_append]; omega
    · rcases List.mem_append.1 hx with hx | hx
      · exact hn.ok x hx
      · rw [List.mem_singleton.1 hx]; exact h
    · refine List.pairwise_append.2 ⟨hn.apart, List.pairwise_singleton _ _, fun a ha b hb => ?_⟩
      rw [List.mem_singleton.1 hb]
      exact idxOf_none hi a ha
    · show (s.names ++ [c.word s.pos]).length ≤ 6
      have := hn.few
      rw [List.length_append, List.length_singleton]; omega
    · show (UInt8.ofNat s.names.length).toNat < (s.names ++ [c.word s.pos]).length
      rw [UInt8.toNat_ofNat', List.length_append, List.length_singleton]; omega
    · show (s.names ++ [c.word s.pos]).length = _
      rw [List.length_append, List.length_singleton]
structure InFit (n : Nat) (x : Ins) : Prop where
  op : 1 ≤ x.op.toNat ∧ x.op.toNat ≤ 8
  dst : x.dst.toNat < 8
  a : x.aR = true → x.aN.toNat < 8
  b : x.bR = true → x.bN.toNat < 8
  loc : 0 < x.loc.toNat → x.loc.toNat < n
theorem InFit.more {n m : Nat} {x : Ins} (h : InFit n x) (hm : n ≤ m) : InFit m x := ⟨h.op, h.dst, h.a, h.b, fun h0 => Nat.lt_of_lt_of_le (h.loc h0) hm⟩
theorem fenceP_all {s : PS} (hs : s.pos < c.ts.length) : (fenceP c s).All fun x t => Gs c s t ∧ InFit t.names.length x := by
  unfold fenceP
  refine .ite (fun h => .ok ⟨(Gs.next hs).trans (Gs.next (kw_lt h)), ?_⟩) (fun _ => .ite (fun h => .ok ⟨(Gs.next hs).trans (Gs.next (kw_lt h)), ?_⟩) (fun _ => .ok ⟨Gs.next hs, ?_⟩))
  all_goals exact ⟨⟨Nat.le_of_ble_eq_true rfl, Nat.le_of_ble_eq_true rfl⟩, Nat.le_of_ble_eq_true rfl, (fun h => absurd h Bool.false_ne_true), (fun h => absurd h Bool.false_ne_true), (fun h => (Nat.lt_irrefl 0 h).elim)⟩
theorem testP_lt {s : PS} {f : UInt8} (h : testP c s = some f) : s.pos < c.ts.length := by
  unfold testP at h
  split at h
  · exact is_lt ‹_›
  · split at h
    · exact is_lt ‹_›
    · split at h
      · exact is_lt ‹_›
      · cases h
theorem fnP_lt {s : PS} {f : UInt8} (h : fnP c s = some f) : s.pos < c.ts.length := by
  unfold fnP at h
  split at h
  · exact is_lt ‹_›
  · split at h
    · exact is_lt ‹_›
    · split at h
      · exact is_lt ‹_›
      · cases h
theorem skipP_all {s : PS} (hs : s.pos < c.ts.length) : (skipP c s).All fun x t => Gs c s t ∧ InFit t.names.length x := by
  unfold skipP failP
  refine numQ_all.bind fun n s1 _ h1 => .ite (fun hk => argP_all.bind fun x s2 _ h2 => ?_) (fun _ => .no)
  cases hf : testP c s2 with
  | none => exact .no
  | some f =>
    refine argP_all.bind fun y s3 _ h3 => .ok ⟨(((((Gs.next hs).trans h1.1).trans (Gs.next (kw_lt hk))).trans h2.1).trans (Gs.next (testP_lt hf))).trans h3.1, ?_⟩
    exact ⟨⟨Nat.le_of_ble_eq_true rfl, Nat.le_of_ble_eq_true rfl⟩, Nat.le_of_ble_eq_true rfl, h2.2.2, h3.2.2, (fun h => (Nat.lt_irrefl 0 h).elim)⟩
theorem storeP_all {s : PS} (h6 : s.names.length ≤ 6) : (storeP c s).All fun x t => Gs c s t ∧ InFit t.names.length x := by
  unfold storeP
  refine locP_all.bind fun k s1 _ h1 => signP_all.bind fun _ s2 _ h2 => argP_all.bind fun x s3 _ h3 => ?_
  have hg := (h1.1.trans h2.1).trans h3.1
  have hk : k.toNat < s3.names.length := Nat.lt_of_lt_of_le (h1.2.2.1 h6) (h2.1.trans h3.1).more
  refine .ite (fun h => .ok ⟨hg.trans (Gs.next (kw_lt h)), ?_⟩) (fun _ => .ok ⟨hg, ?_⟩)
  all_goals exact ⟨⟨Nat.le_of_ble_eq_true rfl, Nat.le_of_ble_eq_true rfl⟩, Nat.le_of_ble_eq_true rfl, h3.2.2, (fun h => absurd h Bool.false_ne_true), fun _ => hk⟩
theorem moveP_all {d : UInt8} {s : PS} (hd : d.toNat < 8) : (moveP' c d s).All fun x t => Gs c s t ∧ InFit t.names.length x := by
  unfold moveP' failP
  refine argP_all.bind fun x s1 _ h1 => ?_
  cases hf : fnP c s1 with
  | none => exact .no
  | some f => exact argP_all.bind fun y s2 _ h2 => .ok ⟨(h1.1.trans (Gs.next (fnP_lt hf))).trans h2.1, ⟨Nat.le_of_ble_eq_true rfl, Nat.le_of_ble_eq_true rfl⟩, hd, h1.2.2, h2.2.2, (fun h => (Nat.lt_irrefl 0 h).elim)⟩
theorem assignP_all {s : PS} (h6 : s.names.length ≤ 6) : (assignP c s).All fun x t => Gs c s t ∧ InFit t.names.length x := by
  unfold assignP
  refine regQ_all.bind fun d s1 _ h1 => signP_all.bind fun _ s2 _ h2 => ?_
  have hg := h1.1.trans h2.1
  have hd := h1.2.2
  have e2 : s2.names = s.names := by rw [h2.2, h1.2.1]; rfl
  have hn : ∀ s3 : PS, s2.names = s3.names → s3.names.length ≤ 6 := fun s3 e => by rw [← e, e2]; exact h6
  refine .ite (fun hk => locP_all.bind fun k s3 _ h3 => argP_all.bind fun x s4 _ h4 => .ok ⟨((hg.trans (Gs.next (kw_lt hk))).trans h3.1).trans h4.1, ?_⟩) (fun _ => ?_)
  · exact ⟨⟨Nat.le_of_ble_eq_true rfl, Nat.le_of_ble_eq_true rfl⟩, hd, h4.2.2, (fun h => absurd h Bool.false_ne_true), fun _ => Nat.lt_of_lt_of_le (h3.2.2.1 (hn _ rfl)) h4.1.more⟩
  refine .ite (fun hk => locP_all.bind fun k s3 _ h3 => argP_all.bind fun x s4 _ h4 => .ok ⟨((hg.trans (Gs.next (kw_lt hk))).trans h3.1).trans h4.1, ?_⟩) (fun _ => ?_)
  · exact ⟨⟨Nat.le_of_ble_eq_true rfl, Nat.le_of_ble_eq_true rfl⟩, hd, h4.2.2, (fun h => absurd h Bool.false_ne_true), fun _ => Nat.lt_of_lt_of_le (h3.2.2.1 (hn _ rfl)) h4.1.more⟩
  refine .ite (fun hk => locP_all.bind fun k s3 _ h3 => argP_all.bind fun x s4 _ h4 => argP_all.bind fun y s5 _ h5 => .ok ⟨(((hg.trans (Gs.next (kw_lt hk))).trans h3.1).trans h4.1).trans h5.1, ?_⟩) (fun _ => ?_)
  · exact ⟨⟨Nat.le_of_ble_eq_true rfl, Nat.le_of_ble_eq_true rfl⟩, hd, h4.2.2, h5.2.2, fun _ => Nat.lt_of_lt_of_le (h3.2.2.1 (hn _ rfl)) (h4.1.trans h5.1).more⟩
  refine .ite (fun hk => locP_all.bind fun k s3 _ h3 => ?_) (fun _ => ?_)
  · have hl : k.toNat < s3.names.length := h3.2.2.1 (hn _ rfl)
    refine .ite (fun h => .ok ⟨(hg.trans h3.1).trans (Gs.next (kw_lt h)), ?_⟩) (fun _ => .ok ⟨hg.trans h3.1, ?_⟩)
    all_goals exact ⟨⟨Nat.le_of_ble_eq_true rfl, Nat.le_of_ble_eq_true rfl⟩, hd, (fun h => absurd h Bool.false_ne_true), (fun h => absurd h Bool.false_ne_true), fun _ => hl⟩
  · exact (moveP_all hd).imp fun x t h => ⟨hg.trans h.1, h.2⟩
theorem insP_all {k : Nat} {s : PS} (hs : s.pos < c.ts.length) (h6 : s.names.length ≤ 6) : (insP c k s).All fun x t => Gs c s t ∧ InFit t.names.length x := by
  unfold insP
  exact .ite (fun _ => fenceP_all hs) (fun _ => .ite (fun _ => skipP_all hs) (fun _ => .ite (fun _ => assignP_all h6) (fun _ => storeP_all h6)))
theorem sevL_all {part : PS → Rs Cnd} {str : List UInt8} (hp : ∀ s, (part s).All fun _ t => Gs c s t) : ∀ (f : Nat) (ks : List Cnd) (s : PS), (sevL c part str f ks s).All fun _ t => s.pos ≤ t.pos ∧ (s.pos ≤ c.ts.length → t.pos ≤ c.ts.length) ∧ s.names.length ≤ t.names.length ∧ (NmOk s.names → NmOk t.names) ∧ (c.fixed = true → t.names = s.names)
  | 0, ks, s => .no
  | f + 1, ks, s => by
    unfold sevL
    refine .ite (fun h => (hp s.next).bind fun k t _ hk => (sevL_all hp f (ks ++ [k]) t).imp fun v u hu => ?_) (fun _ => .ok ⟨Nat.le_refl _, id, Nat.le_refl _, id, fun _ => rfl⟩)
    have hg := (Gs.next (is_lt h)).trans hk
    exact ⟨Nat.le_of_lt (Nat.lt_of_lt_of_le hg.lt hu.1), fun _ => hu.2.1 hg.le, Nat.le_trans hg.more hu.2.2.1, fun hn => hu.2.2.2.1 (hg.names hn), fun hf => (hu.2.2.2.2 hf).trans (hg.keep hf)⟩
theorem sevP_all {part : PS → Rs Cnd} {kind : UInt8} {str : List UInt8} (hp : ∀ s, (part s).All fun _ t => Gs c s t) (s : PS) : (sevP c kind str part s).All fun _ t => Gs c s t := by
  unfold sevP
  refine (hp s).bind fun k t _ hk => .ite (fun _ => (sevL_all hp _ _ _).bind fun ks u _ hu => .ok ?_) (fun _ => .ok hk)
  exact ⟨Nat.lt_of_lt_of_le hk.lt hu.1, hu.2.1 hk.le, Nat.le_trans hk.more hu.2.2.1, fun hn => hu.2.2.2.1 (hk.names hn), fun hf => (hu.2.2.2.2 hf).trans (hk.keep hf)⟩
theorem factP_all : ∀ (n : Nat) (s : PS), (factP c n s).All fun _ t => Gs c s t
  | 0, s => .no
  | n + 1, s => by
    unfold factP
    refine .ite (fun h => (factP_all n s.next).bind fun k t _ hk => .ok ((Gs.next (is_lt h)).trans hk)) (fun _ => ?_);refine .ite (fun h => (sevP_all (sevP_all (factP_all n)) s.next).bind fun k t _ hk => signP_all.bind fun _ u _ hu => .ok (((Gs.next (is_lt h)).trans hk).trans hu.1)) (fun _ => ?_);refine .ite (fun h => .ok (Gs.next (kw_lt h))) (fun _ => ?_);refine .ite (fun h => numQ_all.bind fun t s1 _ h1 => signP_all.bind fun _ s2 _ h2 => regQ_all.bind fun n s3 _ h3 => signP_all.bind fun _ s4 _ h4 => numQ_all.bind fun v s5 _ h5 => .ok ((((h1.1.trans h2.1).trans h3.1).trans h4.1).trans h5.1)) (fun _ => ?_)
    exact locP_all.bind fun k s1 _ h1 => signP_all.bind fun _ s2 _ h2 => numQ_all.bind fun v s3 _ h3 => .ok ((h1.1.trans h2.1).trans h3.1)
theorem conjP_all (n : Nat) (s : PS) : (conjP c n s).All fun _ t => Gs c s t := by unfold conjP; exact sevP_all (factP_all n) s
theorem disjP_all (n : Nat) (s : PS) : (disjP c n s).All fun _ t => Gs c s t := by unfold disjP; exact sevP_all (conjP_all n) s
end
end Go.Proofs.YtkchaoajegkadaaGreatDoor
