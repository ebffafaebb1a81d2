/-
  WALK2. Package check: what Turn needs: slices.Clone of instructions, inverse with its two answers in one form, a thread half renumbered. Conditions: what is handed over lies in memory.
-/
import Derived.Test.YtfcidfljidkcaaaDoorTuC
import Derived.Test.YtfcidfljidkcaaaDoorFoG
import Derived.Test.YtfcidfljidkcaaaDoorVcO
set_option linter.unusedSimpArgs false
set_option linter.unusedVariables false
namespace Go.Proofs.YtfcidfljidkcaaaDoor
open Go.RowKit
set_option maxRecDepth 100000
theorem Own.rwsAddr {w0 w : World} {row : Option Nat} {rs : List Res} (H : Own w0 row w rs) (i : Nat) {e : TypeId} {sz n c : Nat} {A : Option Addr} {rows : List (List Value)} (hi : rs[i]? = some (.rws e sz (.slice A n c) rows)) (hne : 0 < rows.length) : ∃ g, A = some ⟨g, 0, .none⟩ := by
  have h := H.arr i hi
  rcases h.2 with ⟨h1, h2⟩ | ⟨g, cap, cur, h1, _⟩
  · omega
  · cases h1; exact ⟨g, rfl⟩
theorem Own.rwsCell {w0 w : World} {row : Option Nat} {rs : List Res} (H : Own w0 row w rs) (i : Nat) {e : TypeId} {sz n c g j k : Nat} {rows : List (List Value)} {r : List Value} {v : Value} (hi : rs[i]? = some (.rws e sz (.slice (some ⟨g, 0, .none⟩) n c) rows)) (hl : ∀ r ∈ rows, r.length = sz) (hsz : 0 < sz) (hj : rows[j]? = some r) (hk : r[k]? = some v) : w.cell? ⟨g, 0 + j * sz + k, .none⟩ = some v := by
  obtain ⟨b, off, h1, h2⟩ := H.rowsAt i hi hl hsz j r hj
  cases h1
  exact h2 k v hk
section
variable {f : Ins → Ins}
/-- A thread whose first k instructions are changed. -/
def halfI (f : Ins → Ins) (l : List Ins) (k : Nat) : List (List Value) := ((l.take k).map f ++ l.drop k).map Ins.cells
theorem halfI_zero (l : List Ins) : halfI f l 0 = l.map Ins.cells := rfl
theorem halfI_len (l : List Ins) (k : Nat) : (halfI f l k).length = l.length := by unfold halfI; rw [List.length_map, List.length_append, List.length_map, List.length_take, List.length_drop]; omega
theorem halfI_rows (l : List Ins) (k : Nat) : ∀ r ∈ halfI f l k, r.length = 10 := fun r hr => by
  obtain ⟨x, _, rfl⟩ := List.mem_map.1 hr
  rfl
theorem halfI_at {l : List Ins} {k : Nat} {x : Ins} (h : l[k]? = some x) : (halfI f l k)[k]? = some x.cells := by
  have hk := (List.getElem?_eq_some_iff.1 h).1
  unfold halfI
  rw [List.getElem?_map, List.getElem?_append_right (by rw [List.length_map, List.length_take]; omega), List.getElem?_drop, List.length_map, List.length_take, show k + (k - min k l.length) = k by omega, h]
  rfl
theorem halfI_set {l : List Ins} {k : Nat} {x : Ins} (h : l[k]? = some x) : (halfI f l k).set k (f x).cells = halfI f l (k + 1) := by
  have hk := (List.getElem?_eq_some_iff.1 h).1
  have hl : ((l.take k).map f).length = k := by rw [List.length_map, List.length_take]; omega
  have hx : l.drop k = x :: l.drop (k + 1) := by
    rw [List.drop_eq_getElem_cons hk]
    rw [List.getElem?_eq_getElem hk] at h
    rw [Option.some.inj h]
  unfold halfI
  rw [hx, List.take_add_one, h, List.map_append, List.map_append, List.map_append, List.map_append, List.set_append_right _ _ (by rw [List.length_map]; omega), List.length_map, hl, Nat.sub_self]
  simp
theorem halfI_keep {l : List Ins} {k : Nat} {x : Ins} (h : l[k]? = some x) (hf : f x = x) : halfI f l k = halfI f l (k + 1) := by
  rw [← halfI_set (f := f) h, hf]
  refine (List.ext_getElem? fun i => ?_)
  rw [List.getElem?_set]
  by_cases e : k = i
  · subst e
    rw [if_pos rfl, if_pos (by rw [halfI_len]; exact (List.getElem?_eq_some_iff.1 h).1), halfI_at h]
  · rw [if_neg e]
theorem halfI_done (l : List Ins) : halfI f l l.length = (l.map f).map Ins.cells := by
  unfold halfI
  rw [List.take_length, List.drop_length, List.append_nil]
end
theorem cloneI_any (A : Option Addr) (C : Nat) (rows : List (List Value)) (w0 : World) (hR : RowsAt w0 A 10 rows) (hr : ∀ r ∈ rows, r.length = 10) (h1 : ∀ r ∈ rows, r.all (·.oneCell') = true) (hn : rows.length ≤ 1000000) :
    Calls Tryd.prog 18 #[.slice A rows.length C] w0 fun e w' => ∃ A2 c2, e = .returned (.slice A2 rows.length c2) ∧ Own w0 none w' [.rws 53 10 (.slice A2 rows.length c2) rows] := by
  have H := Own.start w0 none
  refine enterF Tryd.func18 rfl Tryd.ntmps18 rfl (fun a F => ?_)
  refine cSeq (fun K1 hK1 => ?_)
  refine cReg ?_
  refine sAs F rfl rfl rfl ?_;clear F a;intro a F
  refine sNil ?_
  refine hK1 _ _ ?_; clear hK1
  refine cSeq (fun K2 hK2 => ?_)
  refine cSeq (fun K3 hK3 => ?_)
  refine cReg ?_
  refine sMv F rfl rfl rfl ?_;clear F a;intro a F
  refine sBin F rfl rfl rfl rfl (bNil Tryd.underlying46) ?_;clear F a;intro a F
  refine sNil ?_
  refine hK3 _ _ ?_; clear hK3
  refine cIf F rfl (fun h4 => ?_) (fun h4 => ?_)
  ·
   obtain rfl : A = none := by cases A with | none => rfl | some a => cases h4
   obtain rfl : rows = [] := by
    cases rows with
    | nil => rfl
    | cons r rs =>
     obtain ⟨b, o, he, _⟩ := hR 0 r rfl
     cases he
   refine cSeq (fun K4 hK4 => ?_)
   refine cReg ?_
   refine sAs F rfl rfl rfl ?_;clear F a;intro a F
   refine sNil ?_
   refine hK4 _ _ ?_; clear hK4
   refine wp_ret ?_
   simp only [Exit.then]
   refine bRet Tryd.results18 F rfl ?_
   first
     | exact ⟨none, 0, rfl, H.nilRws 53 10⟩
     | (simp only [List.nil_append] at H
        exact ⟨_, _, rfl, H.pick 0 rfl⟩)
  obtain ⟨a0, rfl⟩ : ∃ a0, A = some a0 := by cases A with | none => cases h4 | some a => exact ⟨a, rfl⟩
  refine wp_skip ?_
  refine hK2 _ _ ?_; clear hK2
  refine cSeq (fun K5 hK5 => ?_)
  refine cReg ?_
  refine sBs (cs := []) H Tryd.underlying46 Tryd.sizeOf53 Tryd.zeroValue53 rfl F rfl rfl rfl rfl rfl ?_
  clear F a H; intro b5 a w F H
  replace H := H.emptyRws 10
  refine sMv F rfl rfl rfl ?_;clear F a;intro a F
  refine sAppM (bytes := 10) H 0 Tryd.underlying46 Tryd.typeInfo53 rfl rfl rfl rfl rfl rfl F rfl rfl rfl rfl rfl (by first | rfl | simp) (((hR.own H).flat hr)) (hr) (h1) ((by simp only [List.length_nil]; omega)) ?_
  clear F a H; intro A7 c7 a w F H
  refine sAs F rfl rfl rfl ?_;clear F a;intro a F
  refine sNil ?_
  refine hK5 _ _ ?_; clear hK5
  refine wp_ret ?_
  refine bRet Tryd.results18 F rfl ?_
  first
    | exact ⟨none, 0, rfl, H.nilRws 53 10⟩
    | (simp only [List.nil_append] at H
       exact ⟨_, _, rfl, H.pick 0 rfl⟩)
theorem inverse_two (A : Option Addr) (C : Nat) (l : List Int) (n : Nat) (w0 : World) (hA : RowsAt w0 A 1 (intsZ l)) (hn : n ≤ 1000) (hl : l.length ≤ 9223372036854775807) :
    Calls Tryd.prog 17 #[.slice A l.length C, .int .i64 (n : Int)] w0 fun e w' => ∃ A2 n2 c2 o R, e = .returned (.tuple #[.slice A2 n2 c2, .bool o]) ∧ (o = true → IsPerm n l ∧ ∃ b cells, A2 = some ⟨b, 0, none⟩ ∧ n2 = n ∧ c2 = n ∧ InvOut n l cells ∧ R = .blk b cells 5) ∧ (o = false → ¬ IsPerm n l) ∧ Own w0 none w' [R] := by
  refine (inverse_any A C l n w0 hA hn hl).mono ?_
  rintro e w' (⟨h1, b, cells, rfl, h3, h4⟩ | ⟨h1, rfl, h3⟩)
  · exact ⟨_, _, _, _, _, rfl, fun _ => ⟨h1, b, cells, rfl, rfl, rfl, h3, rfl⟩, fun h => (by cases h), h4⟩
  · exact ⟨_, _, _, _, .held (fun _ => False) none 1 [], rfl, fun h => (by cases h), fun _ => h1, ((Own.start w0 none).grow h3).void _ (show ∀ (j : Nat) (cs : List Value), ([] : List (List Value))[j]? = some cs → _ from fun j cs h => by simp at h) (fun _ hb => hb)⟩
end Go.Proofs.YtfcidfljidkcaaaDoor
