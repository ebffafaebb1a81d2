/-
  WALK2. slices.Clone, at rows of one cell. Conditions: the rows lie in memory.
-/
import Derived.Test.YtfcidfljidkcaaaDoorFoE
set_option linter.unusedSimpArgs false
set_option linter.unusedVariables false
namespace Go.Proofs.YtfcidfljidkcaaaDoor
open Go.RowKit
set_option maxRecDepth 100000

/-- A slice's rows, in the blocks S. -/
def Res.held (S : Nat → Prop) (A : Option Addr) (sz : Nat) (rows : List (List Value)) : Res :=
  ⟨S, fun w => ∀ (j : Nat) (cs : List Value), rows[j]? = some cs → ∃ b off, A = some ⟨b, off, none⟩ ∧ S b ∧ w.rangeAt b (off + j * sz) cs, fun _ _ hb hp j cs h => by
    obtain ⟨b, off, h1, h2, h3⟩ := hp j cs h
    exact ⟨b, off, h1, h2, range_same (hb b h2) h3⟩⟩
theorem Own.held {w0 w : World} {row : Option Nat} {S : Nat → Prop} {A : Option Addr} {sz : Nat} {rows : List (List Value)} {rs : List Res} (H : Own w0 row w rs) (i : Nat) (hi : rs[i]? = some (.held S A sz rows)) : RowsAt w A sz rows := fun j cs h => by
  obtain ⟨b, off, h1, _, h3⟩ := (H.pred i _ hi : ∀ (j : Nat) (cs : List Value), rows[j]? = some cs → ∃ b off, A = some ⟨b, off, .none⟩ ∧ S b ∧ w.rangeAt b (off + j * sz) cs) j cs h
  exact ⟨b, off, h1, h3⟩
theorem Own.toHeld {w0 w : World} {row : Option Nat} {e : TypeId} {n c sz : Nat} {A : Option Addr} {rows : List (List Value)} {rs : List Res} (H : Own w0 row w (.rws e sz (.slice A n c) rows :: rs)) (hr : ∀ r ∈ rows, r.length = sz) (hsz : 0 < sz) :
    Own w0 row w (.held (fun b => (Value.slice A n c).ownBlock = some b) A sz rows :: rs) := by
  have h := H.rowsAt 0 rfl hr hsz
  refine H.seen (.held (fun b => (Value.slice A n c).ownBlock = some b) A sz rows) (show ∀ (j : Nat) (cs : List Value), rows[j]? = some cs → ∃ b off, A = some ⟨b, off, .none⟩ ∧ (Value.slice A n c).ownBlock = some b ∧ w.rangeAt b (off + j * sz) cs from fun j cs hj => ?_) (fun b hb => hb)
  obtain ⟨b, off, h1, h2⟩ := h j cs hj
  exact ⟨b, off, h1, by rw [h1]; rfl, h2⟩
set_option maxHeartbeats 2000000 in
theorem cloneS_any (A : Option Addr) (C : Nat) (rows : List (List Value)) (w0 : World) (hR : RowsAt w0 A 1 rows) (hr : ∀ r ∈ rows, r.length = 1) (h1 : ∀ r ∈ rows, r.all (·.oneCell') = true) (hn : rows.length ≤ 1099511627776) :
    Calls Tryd.prog 43 #[.slice A rows.length C] w0 fun e w' => ∃ A2 c2 S, e = .returned (.slice A2 rows.length c2) ∧ rows.length ≤ c2 ∧ Own w0 none w' [.held S A2 1 rows] := by
  have H := Own.start w0 none
  refine enterF Tryd.func43 rfl Tryd.ntmps43 rfl (fun a F => ?_)
  refine cSeq (fun K1 hK1 => ?_)
  refine cReg ?_
  refine sAs F rfl rfl rfl ?_;clear F a;intro a F
  refine sNil ?_
  refine hK1 _ _ ?_; clear hK1
  refine cSeq (fun K2 hK2 => ?_)
  refine cSeq (fun K3 hK3 => ?_)
  refine cReg ?_
  refine sMv F rfl rfl rfl ?_;clear F a;intro a F
  refine sBin F rfl rfl rfl rfl (bNil Tryd.underlying22) ?_;clear F a;intro a F
  refine sNil ?_
  refine hK3 _ _ ?_; clear hK3
  refine cIf F rfl (fun h4 => ?_) (fun h4 => ?_)
  ·
   obtain rfl : A = none := by cases A with | none => rfl | some a => cases h4
   obtain rfl : rows = [] := by
    cases rows with
    | nil => rfl
    | cons r rs =>
     obtain ⟨b, o, he, _⟩ := hR 0 r rfl
     cases he
   refine cSeq (fun K4 hK4 => ?_)
   refine cReg ?_
   refine sAs F rfl rfl rfl ?_;clear F a;intro a F
   refine sNil ?_
   refine hK4 _ _ ?_; clear hK4
   refine wp_ret ?_
   simp only [Exit.then]
   refine bRet Tryd.results43 F rfl ?_
   first
     | exact ⟨none, 0, fun _ => False, rfl, Nat.le_refl _, H.void (.held (fun _ => False) none 1 []) (show ∀ (j : Nat) (cs : List Value), ([] : List (List Value))[j]? = some cs → _ from fun j cs h => by simp at h) (fun _ hb => hb)⟩
     | (have hq := H.rwsLen 0 rfl
        simp only [List.nil_append] at H hq
        exact ⟨_, _, _, rfl, hq.2.1, ((H.pick 0 rfl).toHeld hr Nat.zero_lt_one)⟩)
  obtain ⟨a0, rfl⟩ : ∃ a0, A = some a0 := by cases A with | none => cases h4 | some a => exact ⟨a, rfl⟩
  refine wp_skip ?_
  refine hK2 _ _ ?_; clear hK2
  refine cSeq (fun K5 hK5 => ?_)
  refine cReg ?_
  refine sBs (cs := []) H Tryd.underlying22 Tryd.sizeOf9 Tryd.zeroValue9 rfl F rfl rfl rfl rfl rfl ?_
  clear F a H; intro b5 a w F H
  replace H := H.emptyRws 1
  refine sMv F rfl rfl rfl ?_;clear F a;intro a F
  refine sAppM (bytes := 16) H 0 Tryd.underlying22 Tryd.typeInfo9 rfl rfl rfl rfl rfl rfl F rfl rfl rfl rfl rfl (by first | rfl | simp) (((hR.own H).flat hr)) (hr) (h1) ((by simp only [List.length_nil]; omega)) ?_
  clear F a H; intro A7 c7 a w F H
  refine sAs F rfl rfl rfl ?_;clear F a;intro a F
  refine sNil ?_
  refine hK5 _ _ ?_; clear hK5
  refine wp_ret ?_
  refine bRet Tryd.results43 F rfl ?_
  first
    | exact ⟨none, 0, fun _ => False, rfl, Nat.le_refl _, H.void (.held (fun _ => False) none 1 []) (show ∀ (j : Nat) (cs : List Value), ([] : List (List Value))[j]? = some cs → _ from fun j cs h => by simp at h) (fun _ hb => hb)⟩
    | (have hq := H.rwsLen 0 rfl
       simp only [List.nil_append] at H hq
       exact ⟨_, _, _, rfl, hq.2.1, ((H.pick 0 rfl).toHeld hr Nat.zero_lt_one)⟩)
set_option maxHeartbeats 2000000 in
theorem cloneB_any (A : Option Addr) (C : Nat) (rows : List (List Value)) (w0 : World) (hR : RowsAt w0 A 1 rows) (hr : ∀ r ∈ rows, r.length = 1) (h1 : ∀ r ∈ rows, r.all (·.oneCell') = true) (hn : rows.length ≤ 1099511627776) :
    Calls Tryd.prog 44 #[.slice A rows.length C] w0 fun e w' => ∃ A2 c2 S, e = .returned (.slice A2 rows.length c2) ∧ rows.length ≤ c2 ∧ Own w0 none w' [.held S A2 1 rows] := by
  have H := Own.start w0 none
  refine enterF Tryd.func44 rfl Tryd.ntmps44 rfl (fun a F => ?_)
  refine cSeq (fun K1 hK1 => ?_)
  refine cReg ?_
  refine sAs F rfl rfl rfl ?_;clear F a;intro a F
  refine sNil ?_
  refine hK1 _ _ ?_; clear hK1
  refine cSeq (fun K2 hK2 => ?_)
  refine cSeq (fun K3 hK3 => ?_)
  refine cReg ?_
  refine sMv F rfl rfl rfl ?_;clear F a;intro a F
  refine sBin F rfl rfl rfl rfl (bNil Tryd.underlying23) ?_;clear F a;intro a F
  refine sNil ?_
  refine hK3 _ _ ?_; clear hK3
  refine cIf F rfl (fun h4 => ?_) (fun h4 => ?_)
  ·
   obtain rfl : A = none := by cases A with | none => rfl | some a => cases h4
   obtain rfl : rows = [] := by
    cases rows with
    | nil => rfl
    | cons r rs =>
     obtain ⟨b, o, he, _⟩ := hR 0 r rfl
     cases he
   refine cSeq (fun K4 hK4 => ?_)
   refine cReg ?_
   refine sAs F rfl rfl rfl ?_;clear F a;intro a F
   refine sNil ?_
   refine hK4 _ _ ?_; clear hK4
   refine wp_ret ?_
   simp only [Exit.then]
   refine bRet Tryd.results44 F rfl ?_
   first
     | exact ⟨none, 0, fun _ => False, rfl, Nat.le_refl _, H.void (.held (fun _ => False) none 1 []) (show ∀ (j : Nat) (cs : List Value), ([] : List (List Value))[j]? = some cs → _ from fun j cs h => by simp at h) (fun _ hb => hb)⟩
     | (have hq := H.rwsLen 0 rfl
        simp only [List.nil_append] at H hq
        exact ⟨_, _, _, rfl, hq.2.1, ((H.pick 0 rfl).toHeld hr Nat.zero_lt_one)⟩)
  obtain ⟨a0, rfl⟩ : ∃ a0, A = some a0 := by cases A with | none => cases h4 | some a => exact ⟨a, rfl⟩
  refine wp_skip ?_
  refine hK2 _ _ ?_; clear hK2
  refine cSeq (fun K5 hK5 => ?_)
  refine cReg ?_
  refine sBs (cs := []) H Tryd.underlying23 Tryd.sizeOf5 Tryd.zeroValue5 rfl F rfl rfl rfl rfl rfl ?_
  clear F a H; intro b5 a w F H
  replace H := H.emptyRws 1
  refine sMv F rfl rfl rfl ?_;clear F a;intro a F
  refine sAppM (bytes := 1) H 0 Tryd.underlying23 Tryd.typeInfo5 rfl rfl rfl rfl rfl rfl F rfl rfl rfl rfl rfl (by first | rfl | simp) (((hR.own H).flat hr)) (hr) (h1) ((by simp only [List.length_nil]; omega)) ?_
  clear F a H; intro A7 c7 a w F H
  refine sAs F rfl rfl rfl ?_;clear F a;intro a F
  refine sNil ?_
  refine hK5 _ _ ?_; clear hK5
  refine wp_ret ?_
  refine bRet Tryd.results44 F rfl ?_
  first
    | exact ⟨none, 0, fun _ => False, rfl, Nat.le_refl _, H.void (.held (fun _ => False) none 1 []) (show ∀ (j : Nat) (cs : List Value), ([] : List (List Value))[j]? = some cs → _ from fun j cs h => by simp at h) (fun _ hb => hb)⟩
    | (have hq := H.rwsLen 0 rfl
       simp only [List.nil_append] at H hq
       exact ⟨_, _, _, rfl, hq.2.1, ((H.pick 0 rfl).toHeld hr Nat.zero_lt_one)⟩)
end Go.Proofs.YtfcidfljidkcaaaDoor
