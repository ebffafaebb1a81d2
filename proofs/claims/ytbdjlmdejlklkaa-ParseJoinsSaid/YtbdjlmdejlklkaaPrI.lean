/-
  WALK2. Package parse: starts, start. Conditions: the parser and its tokens lie in memory.
-/
import Derived.Test.YtbdjlmdejlklkaaPrD
set_option linter.unusedSimpArgs false
set_option linter.unusedVariables false
namespace Go.Proofs.Ytbdjlmdejlklkaa
open Go.RowKit
set_option maxRecDepth 100000
theorem baEq (a b : ByteArray) : (a == b) = (a.toList == b.toList) := by
  have e : (a == b) = (a.data == b.data) := rfl
  rw [e, Bool.eq_iff_iff, beq_iff_eq, beq_iff_eq]
  exact ⟨fun h => by rw [toList_data, toList_data, h], fun h => congrArg ByteArray.data (eq_of_toList h)⟩
def startsM : List (ByteArray × Value) := [(⟨#[102, 101, 110, 99, 101]⟩, .func (.func 84) #[] #[]), (⟨#[115, 107, 105, 112]⟩, .func (.func 85) #[] #[])]
/-- What parses an instruction, as a value. -/
def insF (k : Nat) : Value := if k = 0 then .func (.func 84) #[] #[] else if k = 1 then .func (.func 85) #[] #[] else if k = 2 then .func (.func 76) #[] #[] else .func (.func 77) #[] #[]
theorem find_cons (w u : ByteArray) (v : Value) (r : List (ByteArray × Value)) : findT w ((u, v) :: r) = if (w.toList == u.toList) = true then some (u, v) else findT w r := by
  unfold findT
  rw [List.find?_cons, baEq]
  cases w.toList == u.toList <;> rfl
theorem start_fnc {c : PX} {i : Nat} (h : c.kw i [102, 101, 110, 99, 101] = true) : (findT (c.word i) startsM).map (·.2) = some (insF (startP c i)) ∧ mayP c i = true := by
  have h2 := h
  rw [← kw_lit] at h2
  refine ⟨?_, ?_⟩
  · unfold startsM startP
    rw [find_cons, if_pos h2, if_pos h]; rfl
  · unfold mayP; rw [h]; rfl
theorem start_skp {c : PX} {i : Nat} (h0 : c.kw i [102, 101, 110, 99, 101] = false) (h : c.kw i [115, 107, 105, 112] = true) : (findT (c.word i) startsM).map (·.2) = some (insF (startP c i)) ∧ mayP c i = true := by
  have h2 := h
  have h3 := h0
  rw [← kw_lit] at h2 h3
  refine ⟨?_, ?_⟩
  · unfold startsM startP
    rw [find_cons, h3, if_neg Bool.false_ne_true, find_cons, if_pos h2, h0, if_neg Bool.false_ne_true, if_pos h]; rfl
  · unfold mayP; rw [h0, h]; rfl
theorem start_els {c : PX} {i : Nat} (h0 : c.kw i [102, 101, 110, 99, 101] = false) (h : c.kw i [115, 107, 105, 112] = false) : findT (c.word i) startsM = none := by
  rw [← kw_lit] at h0 h
  unfold startsM
  rw [find_cons, h0, if_neg Bool.false_ne_true, find_cons, h, if_neg Bool.false_ne_true]; rfl
theorem start_asg {c : PX} {i : Nat} (h0 : c.kw i [102, 101, 110, 99, 101] = false) (h : c.kw i [115, 107, 105, 112] = false) (hr : regOk (c.word i) = true) : startP c i = 2 ∧ mayP c i = true := by
  unfold startP mayP
  rw [h0, h, hr]; exact ⟨rfl, rfl⟩
theorem start_sto {c : PX} {i : Nat} (h0 : c.kw i [102, 101, 110, 99, 101] = false) (h : c.kw i [115, 107, 105, 112] = false) (hr : regOk (c.word i) = false) : startP c i = 3 ∧ mayP c i = nameOk (c.word i) := by
  unfold startP mayP
  rw [h0, h, hr]; exact ⟨rfl, rfl⟩
theorem pstarts_any {W w0 : World} {rs : List Res} (H : Own W none w0 rs) : Calls Try.prog 74 #[] w0 fun e w' => ∃ b, e = .returned (.map (some b)) ∧ Own W none w' (.mpT b startsM :: rs) := by
  refine enterF Try.func74 rfl Try.ntmps74 rfl (fun a F => ?_)
  refine cSeq (fun K1 hK1 => ?_)
  refine cReg ?_
  refine sAs F rfl rfl rfl ?_;clear F a;intro a F
  refine sNil ?_
  refine hK1 _ _ ?_; clear hK1
  refine cSeq (fun K2 hK2 => ?_)
  refine cReg ?_
  refine sMkT H F rfl rfl ?_
  clear F a H; intro b1 a w F H
  refine sInsT H 0 Try.underlying123 Try.underlying9 F rfl rfl rfl rfl rfl (by kernel_rfl) ?_
  clear H; intro w H
  refine sInsT H 0 Try.underlying123 Try.underlying9 F rfl rfl rfl rfl rfl (by kernel_rfl) ?_
  clear H; intro w H
  refine sMv F rfl rfl rfl ?_;clear F a;intro a F
  refine sAs F rfl rfl rfl ?_;clear F a;intro a F
  refine sNil ?_
  refine hK2 _ _ ?_; clear hK2
  refine wp_ret ?_
  refine bRet Try.results74 F rfl ?_
  exact ⟨_, rfl, H⟩
theorem pstart_any {W w0 : World} {rs : List Res} {c : PX} (hc : c.Ok) {A : Option Addr} {C bp : Nat} {S : Nat → Prop} {s : PS} {Y : List Value} (hp : s.pos ≤ 1000000) (H : Own W none w0 (.blk bp (curC c A C s Y) 59 :: .held S A 3 (rowsT c.ts) :: rs)) :
    Calls Try.prog 61 #[.pointer (some ⟨bp, 0, none⟩)] w0 fun e w' => e = .returned (.tuple #[insF (startP c s.pos), .bool (mayP c s.pos)]) ∧ Own W none w' (.blk bp (curC c A C s Y) 59 :: .held S A 3 (rowsT c.ts) :: rs) := by
  refine enterF Try.func61 rfl Try.ntmps61 rfl (fun a F => ?_)
  refine cSeq (fun K1 hK1 => ?_)
  refine cReg ?_
  refine sAs F rfl rfl rfl ?_;clear F a;intro a F
  refine sAs F rfl rfl rfl ?_;clear F a;intro a F
  refine sNil ?_
  refine hK1 _ _ ?_; clear hK1
  refine cSeq (fun K2 hK2 => ?_)
  refine cReg ?_
  refine sMv F rfl rfl rfl ?_;clear F a;intro a F
  refine sNc F rfl rfl rfl ?_;clear F a;intro a F
  refine sFa (f := 0) (k := 0) Try.underlying59 rfl Try.sizeOf57 rfl rfl F rfl rfl rfl ?_;clear F a;intro a F
  refine sCall Try.call43 F rfl rfl rfl (pword_any hc hp H) ?_
  rintro e w ⟨rfl, H⟩
  refine ⟨_, rfl, ?_⟩
  clear F a; intro a F
  refine sAs F rfl rfl rfl ?_;clear F a;intro a F
  refine sNil ?_
  refine hK2 _ _ ?_; clear hK2
  refine cSeq (fun K3 hK3 => ?_)
  refine cSeq (fun K4 hK4 => ?_)
  refine cReg ?_
  refine sCall Try.call74 F rfl rfl rfl (pstarts_any H) ?_
  rintro e w ⟨b14, rfl, H⟩
  refine ⟨_, rfl, ?_⟩
  clear F a; intro a F
  refine sMv F rfl rfl rfl ?_;clear F a;intro a F
  refine stepV F rfl rfl rfl (rLkT H 0 Try.underlying123 Try.underlying9 Try.zeroValue111 F rfl rfl rfl) ?_;clear F a;intro a F
  refine sMv F rfl rfl rfl ?_;clear F a;intro a F
  refine sExt F rfl rfl rfl rfl ?_;clear F a;intro a F
  refine sExt F rfl rfl rfl rfl ?_;clear F a;intro a F
  refine sAs F rfl rfl rfl ?_;clear F a;intro a F
  refine sAs F rfl rfl rfl ?_;clear F a;intro a F
  refine sNil ?_
  refine hK4 _ _ ?_; clear hK4
  refine cSeq (fun K5 hK5 => ?_)
  refine cReg ?_
  refine sMv F rfl rfl rfl ?_;clear F a;intro a F
  refine sNil ?_
  refine hK5 _ _ ?_; clear hK5
  refine cIf F rfl (fun h19 => ?_) (fun h19 => ?_)
  ·
   obtain ⟨hf, hm⟩ : (findT (c.word s.pos) startsM).map (·.2) = some (insF (startP c s.pos)) ∧ mayP c s.pos = true := by
     cases k0 : c.kw s.pos [102, 101, 110, 99, 101] with
     | true => exact start_fnc k0
     | false =>
       cases k1 : c.kw s.pos [115, 107, 105, 112] with
       | true => exact start_skp k0 k1
       | false => rw [start_els k0 k1] at h19; cases h19
   refine cSeq (fun K6 hK6 => ?_)
   refine cReg ?_
   refine sMv F rfl rfl rfl ?_;clear F a;intro a F
   refine sAs F rfl rfl rfl ?_;clear F a;intro a F
   refine sAs F rfl rfl rfl ?_;clear F a;intro a F
   refine sNil ?_
   refine hK6 _ _ ?_; clear hK6
   refine wp_ret ?_
   simp only [Exit.then]
   refine bRet2 Try.results61 F rfl rfl ?_
   first
   | exact ⟨by rw [hm]; show Ending.returned (.tuple #[((findT (c.word s.pos) startsM).map (·.2)).getD _, .bool true]) = _; rw [hf]; rfl, H.tail⟩
   | exact ⟨by rw [e1, e2]; rfl, H.tail⟩
  have k0 : c.kw s.pos [102, 101, 110, 99, 101] = false := by
    cases k0 : c.kw s.pos [102, 101, 110, 99, 101] with
    | true => have := (start_fnc k0).1; rw [Option.map_eq_some_iff] at this; obtain ⟨x, hx, _⟩ := this; rw [hx] at h19; cases h19
    | false => rfl
  have k1 : c.kw s.pos [115, 107, 105, 112] = false := by
    cases k1 : c.kw s.pos [115, 107, 105, 112] with
    | true => have := (start_skp k0 k1).1; rw [Option.map_eq_some_iff] at this; obtain ⟨x, hx, _⟩ := this; rw [hx] at h19; cases h19
    | false => rfl
  refine wp_skip ?_
  refine hK3 _ _ ?_; clear hK3
  refine cSeq (fun K7 hK7 => ?_)
  refine cSeq (fun K8 hK8 => ?_)
  refine cReg ?_
  refine sMv F rfl rfl rfl ?_;clear F a;intro a F
  refine sCall Try.call75 F rfl rfl rfl (reg_any (c.word s.pos) _ _ rfl) ?_
  rintro e w ⟨rfl, rfl⟩
  refine ⟨_, rfl, ?_⟩
  clear F a; intro a F
  refine sMv F rfl rfl rfl ?_;clear F a;intro a F
  refine sExt F rfl rfl rfl rfl ?_;clear F a;intro a F
  refine sExt F rfl rfl rfl rfl ?_;clear F a;intro a F
  refine sAs F rfl rfl rfl ?_;clear F a;intro a F
  refine sAs F rfl rfl rfl ?_;clear F a;intro a F
  refine sNil ?_
  refine hK8 _ _ ?_; clear hK8
  refine cSeq (fun K9 hK9 => ?_)
  refine cReg ?_
  refine sMv F rfl rfl rfl ?_;clear F a;intro a F
  refine sNil ?_
  refine hK9 _ _ ?_; clear hK9
  refine cIf F rfl (fun h26 => ?_) (fun h26 => ?_)
  ·
   obtain ⟨e1, e2⟩ := start_asg k0 k1 h26
   refine cSeq (fun K10 hK10 => ?_)
   refine cReg ?_
   refine sAs F rfl rfl rfl ?_;clear F a;intro a F
   refine sAs F rfl rfl rfl ?_;clear F a;intro a F
   refine sNil ?_
   refine hK10 _ _ ?_; clear hK10
   refine wp_ret ?_
   simp only [Exit.then]
   refine bRet2 Try.results61 F rfl rfl ?_
   first
   | exact ⟨by rw [hm]; show Ending.returned (.tuple #[((findT (c.word s.pos) startsM).map (·.2)).getD _, .bool true]) = _; rw [hf]; rfl, H.tail⟩
   | exact ⟨by rw [e1, e2]; rfl, H.tail⟩
  obtain ⟨e1, e2⟩ := start_sto k0 k1 h26
  refine wp_skip ?_
  refine hK7 _ _ ?_; clear hK7
  refine cSeq (fun K11 hK11 => ?_)
  refine cReg ?_
  refine sMv F rfl rfl rfl ?_;clear F a;intro a F
  refine sCall Try.call12 F rfl rfl rfl (name_any (c.word s.pos) _ (hc.wordLe _) _ rfl) ?_
  rintro e w ⟨rfl, rfl⟩
  refine ⟨_, rfl, ?_⟩
  clear F a; intro a F
  refine sAs F rfl rfl rfl ?_;clear F a;intro a F
  refine sAs F rfl rfl rfl ?_;clear F a;intro a F
  refine sNil ?_
  refine hK11 _ _ ?_; clear hK11
  refine wp_ret ?_
  refine bRet2 Try.results61 F rfl rfl ?_
  first
  | exact ⟨by rw [hm]; show Ending.returned (.tuple #[((findT (c.word s.pos) startsM).map (·.2)).getD _, .bool true]) = _; rw [hf]; rfl, H.tail⟩
  | exact ⟨by rw [e1, e2]; rfl, H.tail⟩
end Go.Proofs.Ytbdjlmdejlklkaa
