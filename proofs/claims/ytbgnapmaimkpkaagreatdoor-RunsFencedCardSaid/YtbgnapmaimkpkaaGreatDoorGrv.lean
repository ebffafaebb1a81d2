/-
  Threads built anew: a slice of slices of instructions in blocks of its own. Conditions: none.
-/
import Derived.Test.YtbgnapmaimkpkaaGreatDoorVcU1
import Derived.Test.YtbgnapmaimkpkaaGreatDoorCkK
set_option linter.unusedSimpArgs false
set_option linter.unusedVariables false
namespace Go.Proofs.YtbgnapmaimkpkaaGreatDoor
open Go.RowKit
set_option maxRecDepth 100000

theorem range_same {w w' : World} {b o : Nat} {cs : List Value} (h : w'.heap[b]? = w.heap[b]?) (hr : w.rangeAt b o cs) : w'.rangeAt b o cs := fun k v hk => by
  have := hr k v hk
  unfold World.cell? at this ⊢
  rw [h]; exact this
def heldP (S : Nat → Prop) (w : World) (A : Option Addr) (sz : Nat) (rows : List (List Value)) : Prop := ∀ (j : Nat) (cs : List Value), rows[j]? = some cs → ∃ b off, A = some ⟨b, off, none⟩ ∧ S b ∧ w.rangeAt b (off + j * sz) cs
theorem heldP.loc {S T : Nat → Prop} {w w' : World} {A : Option Addr} {sz : Nat} {rows : List (List Value)} (h : heldP S w A sz rows) (hs : ∀ b, S b → w'.heap[b]? = w.heap[b]?) (hT : ∀ b, S b → T b) : heldP T w' A sz rows := fun j cs hj => by
  obtain ⟨b, off, h1, h2, h3⟩ := h j cs hj
  exact ⟨b, off, h1, hT b h2, range_same (hs b h2) h3⟩
def Res.held (S : Nat → Prop) (A : Option Addr) (sz : Nat) (rows : List (List Value)) : Res :=
  ⟨S, fun w => heldP S w A sz rows, fun _ _ hb hp => hp.loc hb (fun _ h => h)⟩
theorem Own.toHeld {w0 w : World} {row : Option Nat} {e : TypeId} {n c sz : Nat} {A : Option Addr} {rows : List (List Value)} {rs : List Res} (H : Own w0 row w (.rws e sz (.slice A n c) rows :: rs)) (hr : ∀ r ∈ rows, r.length = sz) (hsz : 0 < sz) :
    Own w0 row w (.held (fun b => (Value.slice A n c).ownBlock = some b) A sz rows :: rs) := by
  have h := H.rowsAt 0 rfl hr hsz
  refine H.seen (.held (fun b => (Value.slice A n c).ownBlock = some b) A sz rows) (show heldP _ _ _ _ _ from fun j cs hj => ?_) (fun b hb => hb)
  obtain ⟨b, off, h1, h2⟩ := h j cs hj
  exact ⟨b, off, h1, by rw [h1]; rfl, h2⟩
def groveP (S : Nat → Prop) (w : World) (rows : List (List Value)) (ts : List (List Ins)) : Prop := ∀ (j : Nat) (r : List Value) (t : List Ins), rows[j]? = some r → ts[j]? = some t → ∃ B C, r = [.slice B t.length C] ∧ heldP S w B 10 (t.map Ins.cells)
def Res.grove (S : Nat → Prop) (rows : List (List Value)) (ts : List (List Ins)) : Res := ⟨S, fun w => groveP S w rows ts, fun _ _ hb hp j r t h1 h2 => by
  obtain ⟨B, C, h3, h4⟩ := hp j r t h1 h2
  exact ⟨B, C, h3, h4.loc hb (fun _ h => h)⟩⟩
theorem Own.plantG {w0 w : World} {row : Option Nat} {S T : Nat → Prop} {A : Option Addr} {n c : Nat} {t : List Ins} {rows : List (List Value)} {ts : List (List Ins)} {rs : List Res} (H : Own w0 row w (.held T A 10 (t.map Ins.cells) :: .grove S rows ts :: rs)) (hk : ts[rows.length]? = some t) (hn : n = t.length) :
    Own w0 row w (.grove (fun b => T b ∨ S b) (rows ++ [[Value.slice A n c]]) ts :: rs) := by
  subst hn
  have hT : heldP T w A 10 (t.map Ins.cells) := H.pred 0 _ rfl
  have hS : groveP S w rows ts := H.pred 1 _ rfl
  refine H.fuse (Res.grove (fun b => T b ∨ S b) (rows ++ [[Value.slice A t.length c]]) ts) (show groveP (fun b => T b ∨ S b) w (rows ++ [[Value.slice A t.length c]]) ts from fun j r u h1 h2 => ?_) (fun b hb => hb)
  rcases Nat.lt_or_ge j rows.length with hj | hj
  · rw [List.getElem?_append_left hj] at h1
    obtain ⟨B, C, h3, h4⟩ := hS j r u h1 h2
    exact ⟨B, C, h3, h4.loc (fun _ _ => rfl) (fun _ h => .inr h)⟩
  · rw [List.getElem?_append_right hj] at h1
    obtain e : j - rows.length = 0 := by
      rcases Nat.eq_zero_or_pos (j - rows.length) with e | e
      · exact e
      · rw [List.getElem?_eq_none (by simp; omega)] at h1; cases h1
    rw [e] at h1
    obtain rfl : j = rows.length := by omega
    rw [hk] at h2
    cases h1; cases h2
    exact ⟨A, c, rfl, hT.loc (fun _ _ => rfl) (fun _ h => .inl h)⟩
theorem Own.threadsAt {w0 w : World} {row : Option Nat} {rs : List Res} (H : Own w0 row w rs) (i k : Nat) {e : TypeId} {n c : Nat} {A : Option Addr} {S : Nat → Prop} {rows : List (List Value)} {ts : List (List Ins)}
    (hi : rs[i]? = some (.rws e 1 (.slice A n c) rows)) (hk : rs[k]? = some (.grove S rows ts)) (hl : rows.length = ts.length) (h1 : ∀ r ∈ rows, r.length = 1) (hs : ∀ t ∈ ts, t.length ≤ 9223372036854775807) : ThreadsAt w A ts := fun j t hj => by
  have hjl := (List.getElem?_eq_some_iff.1 hj).1
  obtain ⟨r, hr⟩ : ∃ r, rows[j]? = some r := ⟨_, List.getElem?_eq_getElem (by omega)⟩
  obtain ⟨b, off, e1, e2⟩ := H.rowsAt i hi h1 (by decide) j r hr
  obtain ⟨B, C, rfl, h4⟩ := (H.pred k _ hk : groveP S w rows ts) j r t hr hj
  refine ⟨b, off, B, C, e1, e2 0 _ rfl, fun q cs hq => ?_, hs t (List.mem_of_getElem? hj)⟩
  obtain ⟨b', o', f1, _, f3⟩ := h4 q cs hq
  exact ⟨b', o', f1, f3⟩
theorem condShape {w : World} : ∀ {h : Nat} {cs : List Value} {c : Cnd}, CondAt w h cs c → ∃ k t n v A m C, cs = [b8 k, b8 t, b8 n, b8 v, .slice A m C]
  | 0, _, _, h => h.elim
  | _ + 1, cs, .mk _ _ _ _ _, h => by obtain ⟨A, C, rfl, _⟩ := h; exact ⟨_, _, _, _, _, _, _, rfl⟩
def ThreadsCap (w : World) (A : Option Addr) (l : List (List Ins)) : Prop := ∀ (j : Nat) (t : List Ins), l[j]? = some t → ∃ b off B C, A = some ⟨b, off, none⟩ ∧ w.cell? ⟨b, off + j * 1, none⟩ = some (.slice B t.length C) ∧ RowsAt w B 10 (t.map Ins.cells) ∧ t.length ≤ C ∧ C ≤ 9223372036854775807
theorem ThreadsCap.at {w : World} {A : Option Addr} {l : List (List Ins)} (h : ThreadsCap w A l) : ThreadsAt w A l := fun j t hj => by
  obtain ⟨b, off, B, C, h1, h2, h3, h4, h5⟩ := h j t hj
  exact ⟨b, off, B, C, h1, h2, h3, by omega⟩
def ProgT (w : World) (cs : List Value) (p : Prg) : Prop := ∃ LA LC IA IC TA TC h ccs, ProgIn w cs p LA LC IA IC TA TC h ccs ∧ ThreadsCap w TA p.threads
end Go.Proofs.YtbgnapmaimkpkaaGreatDoor
