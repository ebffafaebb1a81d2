/-
  WALK2. slices.Clone, at rows of one cell. Conditions: the rows lie in memory.
-/
import Derived.Test.YtmfdpnjgljlkbaaDoorFoE
import Derived.Test.YtmfdpnjgljlkbaaDoorTrQ
set_option linter.unusedSimpArgs false
set_option linter.unusedVariables false
namespace Go.Proofs.YtmfdpnjgljlkbaaDoor
open Go.RowKit
set_option maxRecDepth 100000

set_option maxHeartbeats 2000000 in
theorem cloneS_any (A : Option Addr) (C : Nat) (rows : List (List Value)) (w0 : World) (hR : RowsAt w0 A 1 rows) (hr : ∀ r ∈ rows, r.length = 1) (h1 : ∀ r ∈ rows, r.all (·.oneCell') = true) (hn : rows.length ≤ 1099511627776) :
    Calls Tryd.prog 39 #[.slice A rows.length C] w0 fun e w' => ∃ A2 c2 S, e = .returned (.slice A2 rows.length c2) ∧ rows.length ≤ c2 ∧ Own w0 none w' [.held S A2 1 rows] := by
  have H := Own.start w0 none
  refine enterF Tryd.func39 rfl Tryd.ntmps39 rfl (fun a F => ?_)
  refine cSeq (fun K1 hK1 => ?_)
  refine cReg ?_
  refine sAs F rfl rfl rfl ?_;clear F a;intro a F
  refine sNil ?_
  refine hK1 _ _ ?_; clear hK1
  refine cSeq (fun K2 hK2 => ?_)
  refine cSeq (fun K3 hK3 => ?_)
  refine cReg ?_
  refine sMv F rfl rfl rfl ?_;clear F a;intro a F
  refine sBin F rfl rfl rfl rfl (bNil Tryd.underlying33) ?_;clear F a;intro a F
  refine sNil ?_
  refine hK3 _ _ ?_; clear hK3
  refine cIf F rfl (fun h4 => ?_) (fun h4 => ?_)
  ·
   obtain rfl : A = none := by cases A with | none => rfl | some a => cases h4
   obtain rfl : rows = [] := by
    cases rows with
    | nil => rfl
    | cons r rs =>
     obtain ⟨b, o, he, _⟩ := hR 0 r rfl
     cases he
   refine cSeq (fun K4 hK4 => ?_)
   refine cReg ?_
   refine sAs F rfl rfl rfl ?_;clear F a;intro a F
   refine sNil ?_
   refine hK4 _ _ ?_; clear hK4
   refine wp_ret ?_
   simp only [Exit.then]
   refine bRet Tryd.results39 F rfl ?_
   first
     | exact ⟨none, 0, fun _ => False, rfl, Nat.le_refl _, H.void (.held (fun _ => False) none 1 []) (show ∀ (j : Nat) (cs : List Value), ([] : List (List Value))[j]? = some cs → _ from fun j cs h => by simp at h) (fun _ hb => hb)⟩
     | (have hq := H.rwsLen 0 rfl
        simp only [List.nil_append] at H hq
        exact ⟨_, _, _, rfl, hq.2.1, ((H.pick 0 rfl).toHeld hr Nat.zero_lt_one)⟩)
  obtain ⟨a0, rfl⟩ : ∃ a0, A = some a0 := by cases A with | none => cases h4 | some a => exact ⟨a, rfl⟩
  refine wp_skip ?_
  refine hK2 _ _ ?_; clear hK2
  refine cSeq (fun K5 hK5 => ?_)
  refine cReg ?_
  refine sBs (cs := []) H Tryd.underlying33 Tryd.sizeOf9 Tryd.zeroValue9 rfl F rfl rfl rfl rfl rfl ?_
  clear F a H; intro b5 a w F H
  replace H := H.emptyRws 1
  refine sMv F rfl rfl rfl ?_;clear F a;intro a F
  refine sAppM (bytes := 16) H 0 Tryd.underlying33 Tryd.typeInfo9 rfl rfl rfl rfl rfl rfl F rfl rfl rfl rfl rfl (by first | rfl | simp) (((hR.own H).flat hr)) (hr) (h1) ((by simp only [List.length_nil]; omega)) ?_
  clear F a H; intro A7 c7 a w F H
  refine sAs F rfl rfl rfl ?_;clear F a;intro a F
  refine sNil ?_
  refine hK5 _ _ ?_; clear hK5
  refine wp_ret ?_
  refine bRet Tryd.results39 F rfl ?_
  first
    | exact ⟨none, 0, fun _ => False, rfl, Nat.le_refl _, H.void (.held (fun _ => False) none 1 []) (show ∀ (j : Nat) (cs : List Value), ([] : List (List Value))[j]? = some cs → _ from fun j cs h => by simp at h) (fun _ hb => hb)⟩
    | (have hq := H.rwsLen 0 rfl
       simp only [List.nil_append] at H hq
       exact ⟨_, _, _, rfl, hq.2.1, ((H.pick 0 rfl).toHeld hr Nat.zero_lt_one)⟩)
set_option maxHeartbeats 2000000 in
theorem cloneB_any (A : Option Addr) (C : Nat) (rows : List (List Value)) (w0 : World) (hR : RowsAt w0 A 1 rows) (hr : ∀ r ∈ rows, r.length = 1) (h1 : ∀ r ∈ rows, r.all (·.oneCell') = true) (hn : rows.length ≤ 1099511627776) :
    Calls Tryd.prog 40 #[.slice A rows.length C] w0 fun e w' => ∃ A2 c2 S, e = .returned (.slice A2 rows.length c2) ∧ rows.length ≤ c2 ∧ Own w0 none w' [.held S A2 1 rows] := by
  have H := Own.start w0 none
  refine enterF Tryd.func40 rfl Tryd.ntmps40 rfl (fun a F => ?_)
  refine cSeq (fun K1 hK1 => ?_)
  refine cReg ?_
  refine sAs F rfl rfl rfl ?_;clear F a;intro a F
  refine sNil ?_
  refine hK1 _ _ ?_; clear hK1
  refine cSeq (fun K2 hK2 => ?_)
  refine cSeq (fun K3 hK3 => ?_)
  refine cReg ?_
  refine sMv F rfl rfl rfl ?_;clear F a;intro a F
  refine sBin F rfl rfl rfl rfl (bNil Tryd.underlying34) ?_;clear F a;intro a F
  refine sNil ?_
  refine hK3 _ _ ?_; clear hK3
  refine cIf F rfl (fun h4 => ?_) (fun h4 => ?_)
  ·
   obtain rfl : A = none := by cases A with | none => rfl | some a => cases h4
   obtain rfl : rows = [] := by
    cases rows with
    | nil => rfl
    | cons r rs =>
     obtain ⟨b, o, he, _⟩ := hR 0 r rfl
     cases he
   refine cSeq (fun K4 hK4 => ?_)
   refine cReg ?_
   refine sAs F rfl rfl rfl ?_;clear F a;intro a F
   refine sNil ?_
   refine hK4 _ _ ?_; clear hK4
   refine wp_ret ?_
   simp only [Exit.then]
   refine bRet Tryd.results40 F rfl ?_
   first
     | exact ⟨none, 0, fun _ => False, rfl, Nat.le_refl _, H.void (.held (fun _ => False) none 1 []) (show ∀ (j : Nat) (cs : List Value), ([] : List (List Value))[j]? = some cs → _ from fun j cs h => by simp at h) (fun _ hb => hb)⟩
     | (have hq := H.rwsLen 0 rfl
        simp only [List.nil_append] at H hq
        exact ⟨_, _, _, rfl, hq.2.1, ((H.pick 0 rfl).toHeld hr Nat.zero_lt_one)⟩)
  obtain ⟨a0, rfl⟩ : ∃ a0, A = some a0 := by cases A with | none => cases h4 | some a => exact ⟨a, rfl⟩
  refine wp_skip ?_
  refine hK2 _ _ ?_; clear hK2
  refine cSeq (fun K5 hK5 => ?_)
  refine cReg ?_
  refine sBs (cs := []) H Tryd.underlying34 Tryd.sizeOf5 Tryd.zeroValue5 rfl F rfl rfl rfl rfl rfl ?_
  clear F a H; intro b5 a w F H
  replace H := H.emptyRws 1
  refine sMv F rfl rfl rfl ?_;clear F a;intro a F
  refine sAppM (bytes := 1) H 0 Tryd.underlying34 Tryd.typeInfo5 rfl rfl rfl rfl rfl rfl F rfl rfl rfl rfl rfl (by first | rfl | simp) (((hR.own H).flat hr)) (hr) (h1) ((by simp only [List.length_nil]; omega)) ?_
  clear F a H; intro A7 c7 a w F H
  refine sAs F rfl rfl rfl ?_;clear F a;intro a F
  refine sNil ?_
  refine hK5 _ _ ?_; clear hK5
  refine wp_ret ?_
  refine bRet Tryd.results40 F rfl ?_
  first
    | exact ⟨none, 0, fun _ => False, rfl, Nat.le_refl _, H.void (.held (fun _ => False) none 1 []) (show ∀ (j : Nat) (cs : List Value), ([] : List (List Value))[j]? = some cs → _ from fun j cs h => by simp at h) (fun _ hb => hb)⟩
    | (have hq := H.rwsLen 0 rfl
       simp only [List.nil_append] at H hq
       exact ⟨_, _, _, rfl, hq.2.1, ((H.pick 0 rfl).toHeld hr Nat.zero_lt_one)⟩)
end Go.Proofs.YtmfdpnjgljlkbaaDoor
