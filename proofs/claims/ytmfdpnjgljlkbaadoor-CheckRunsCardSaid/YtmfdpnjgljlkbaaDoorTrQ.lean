/-
  WALK2. Conditions and rows held in blocks of a function's own. Conditions: none.
-/
import Derived.Test.YtmfdpnjgljlkbaaDoorVcZ
import Derived.Test.YtmfdpnjgljlkbaaDoorCkK
set_option linter.unusedSimpArgs false
set_option linter.unusedVariables false
namespace Go.Proofs.YtmfdpnjgljlkbaaDoor
open Go.RowKit
set_option maxRecDepth 100000

/-- The cells are a condition's, h deep at most, its rows in the blocks S. -/
def TreeIn (S : Nat → Prop) (w : World) : Nat → List Value → Cnd → Prop
  | 0, _, _ => False
  | h + 1, cs, .mk k t n v kids => ∃ A C, cs = [b8 k, b8 t, b8 n, b8 v, .slice A kids.length C] ∧ kids.length ≤ 9223372036854775807 ∧
      ∀ j kid, kids[j]? = some kid → ∃ b off cs', A = some ⟨b, off, none⟩ ∧ S b ∧ w.rangeAt b (off + j * 5) cs' ∧ TreeIn S w h cs' kid
theorem TreeIn.at {S : Nat → Prop} {w : World} : ∀ {h : Nat} {cs : List Value} {c : Cnd}, TreeIn S w h cs c → CondAt w h cs c
  | 0, _, _, hc => hc
  | h + 1, cs, .mk k t n v kids, ⟨A, C, h1, h2, h3⟩ => ⟨A, C, h1, h2, fun j kid hj => by
    obtain ⟨b, off, cs', h4, _, h6, h7⟩ := h3 j kid hj
    exact ⟨b, off, cs', h4, h6, h7.at⟩⟩
theorem range_same {w w' : World} {b o : Nat} {cs : List Value} (h : w'.heap[b]? = w.heap[b]?) (hr : w.rangeAt b o cs) : w'.rangeAt b o cs := fun k v hk => by
  have := hr k v hk
  unfold World.cell? at this ⊢
  simp only [h]
  exact this
theorem TreeIn.loc {S T : Nat → Prop} {w w' : World} (hs : ∀ b, S b → w'.heap[b]? = w.heap[b]?) (hT : ∀ b, S b → T b) : ∀ {h : Nat} {cs : List Value} {c : Cnd}, TreeIn S w h cs c → TreeIn T w' h cs c
  | 0, _, _, hc => hc
  | h + 1, cs, .mk k t n v kids, ⟨A, C, h1, h2, h3⟩ => ⟨A, C, h1, h2, fun j kid hj => by
    obtain ⟨b, off, cs', h4, h5, h6, h7⟩ := h3 j kid hj
    exact ⟨b, off, cs', h4, hT b h5, range_same (hs b h5) h6, h7.loc hs hT⟩⟩
def Res.tree (S : Nat → Prop) (h : Nat) (cs : List Value) (c : Cnd) : Res := ⟨S, fun w => TreeIn S w h cs c, fun _ _ hb hp => hp.loc hb (fun _ h => h)⟩
def Res.forest (S : Nat → Prop) (h : Nat) (rows : List (List Value)) (kids : List Cnd) : Res :=
  ⟨S, fun w => ∀ (j : Nat) (r : List Value) (kid : Cnd), rows[j]? = some r → kids[j]? = some kid → TreeIn S w h r kid, fun _ _ hb hp j r kid h1 h2 => (hp j r kid h1 h2).loc hb (fun _ h => h)⟩
theorem condShape {w : World} : ∀ {h : Nat} {cs : List Value} {c : Cnd}, CondAt w h cs c → ∃ k t n v A m C, cs = [b8 k, b8 t, b8 n, b8 v, .slice A m C]
  | 0, _, _, h => h.elim
  | _ + 1, cs, .mk _ _ _ _ _, h => by obtain ⟨A, C, rfl, _⟩ := h; exact ⟨_, _, _, _, _, _, _, rfl⟩
/-- A tree more in the forest. -/
theorem Own.plant {w0 w : World} {row : Option Nat} {S T : Nat → Prop} {h : Nat} {cs : List Value} {c : Cnd} {rows : List (List Value)} {kids : List Cnd} {rs : List Res} (H : Own w0 row w (.tree T h cs c :: .forest S h rows kids :: rs)) (hk : kids[rows.length]? = some c) :
    Own w0 row w (.forest (fun b => T b ∨ S b) h (rows ++ [cs]) kids :: rs) := by
  have hT : TreeIn T w h cs c := H.pred 0 _ rfl
  have hS : ∀ (j : Nat) (r : List Value) (kid : Cnd), rows[j]? = some r → kids[j]? = some kid → TreeIn S w h r kid := H.pred 1 _ rfl
  refine H.fuse (.forest (fun b => T b ∨ S b) h (rows ++ [cs]) kids) (show ∀ (j : Nat) (r : List Value) (kid : Cnd), (rows ++ [cs])[j]? = some r → kids[j]? = some kid → TreeIn (fun b => T b ∨ S b) w h r kid from fun j r kid h1 h2 => ?_) (fun b hb => hb)
  rcases Nat.lt_or_ge j rows.length with hj | hj
  · rw [List.getElem?_append_left hj] at h1
    exact (hS j r kid h1 h2).loc (fun _ _ => rfl) (fun _ h => .inr h)
  · rw [List.getElem?_append_right hj] at h1
    obtain e : j - rows.length = 0 := by
      rcases Nat.eq_zero_or_pos (j - rows.length) with e | e
      · exact e
      · rw [List.getElem?_eq_none (by simp; omega)] at h1; cases h1
    rw [e] at h1
    obtain rfl : j = rows.length := by omega
    rw [hk] at h2
    cases h1; cases h2
    exact hT.loc (fun _ _ => rfl) (fun _ h => .inl h)
/-- A row of trees is a tree. -/
theorem Own.grown1 {w0 w : World} {row : Option Nat} {S : Nat → Prop} {h c : Nat} {e : TypeId} {A : Option Addr} {rows : List (List Value)} {kids : List Cnd} {rs : List Res} (k t n v : UInt8) (H : Own w0 row w (.forest S h rows kids :: .rws e 5 (.slice A rows.length c) rows :: rs)) (hl : rows.length = kids.length)
    (hr : ∀ r ∈ rows, r.length = 5) (hm : kids.length ≤ 9223372036854775807) :
    Own w0 row w (.tree (fun b => S b ∨ (Value.slice A rows.length c).ownBlock = some b) (h + 1) [b8 k, b8 t, b8 n, b8 v, .slice A rows.length c] (.mk k t n v kids) :: rs) := by
  have hS : ∀ (j : Nat) (r : List Value) (kid : Cnd), rows[j]? = some r → kids[j]? = some kid → TreeIn S w h r kid := H.pred 0 _ rfl
  refine H.fuse (.tree (fun b => S b ∨ (Value.slice A rows.length c).ownBlock = some b) (h + 1) [b8 k, b8 t, b8 n, b8 v, .slice A rows.length c] (.mk k t n v kids)) (show TreeIn (fun b => S b ∨ (Value.slice A rows.length c).ownBlock = some b) w (h + 1) [b8 k, b8 t, b8 n, b8 v, .slice A rows.length c] (.mk k t n v kids) from ⟨A, c, by rw [hl], hm, fun j kid hj => ?_⟩) (fun b hb => hb)
  have hjl : j < rows.length := by rw [hl]; exact (List.getElem?_eq_some_iff.1 hj).1
  obtain ⟨r, hrj⟩ : ∃ r, rows[j]? = some r := ⟨_, List.getElem?_eq_getElem hjl⟩
  obtain ⟨b, off, rfl, h2⟩ := H.rowsAt 1 rfl hr (by omega) j r hrj
  exact ⟨b, off, r, rfl, .inr rfl, h2, (hS j r kid hrj hj).loc (fun _ _ => rfl) (fun _ h => .inl h)⟩
theorem TreeIn.deeper {S : Nat → Prop} {w : World} : ∀ {h : Nat} (m : Nat) {cs : List Value} {c : Cnd}, TreeIn S w h cs c → TreeIn S w (h + m) cs c
  | 0, _, _, _, hc => hc.elim
  | h + 1, m, cs, .mk k t n v kids, ⟨A, C, h1, h2, h3⟩ => by
    rw [show h + 1 + m = (h + m) + 1 by omega]
    exact ⟨A, C, h1, h2, fun j kid hj => by
      obtain ⟨b, off, cs', h4, h5, h6, h7⟩ := h3 j kid hj
      exact ⟨b, off, cs', h4, h5, h6, h7.deeper m⟩⟩
theorem Own.deeper {w0 w : World} {row : Option Nat} {S : Nat → Prop} {h : Nat} {cs : List Value} {c : Cnd} {rs : List Res} (m : Nat) (H : Own w0 row w (.tree S h cs c :: rs)) : Own w0 row w (.tree S (h + m) cs c :: rs) :=
  H.seen (.tree S (h + m) cs c) ((H.pred 0 _ rfl : TreeIn S w h cs c).deeper m) (fun _ hb => hb)
/-- A slice's rows, in the blocks S. -/
def Res.held (S : Nat → Prop) (A : Option Addr) (sz : Nat) (rows : List (List Value)) : Res :=
  ⟨S, fun w => ∀ (j : Nat) (cs : List Value), rows[j]? = some cs → ∃ b off, A = some ⟨b, off, none⟩ ∧ S b ∧ w.rangeAt b (off + j * sz) cs, fun _ _ hb hp j cs h => by
    obtain ⟨b, off, h1, h2, h3⟩ := hp j cs h
    exact ⟨b, off, h1, h2, range_same (hb b h2) h3⟩⟩
theorem Own.held {w0 w : World} {row : Option Nat} {S : Nat → Prop} {A : Option Addr} {sz : Nat} {rows : List (List Value)} {rs : List Res} (H : Own w0 row w rs) (i : Nat) (hi : rs[i]? = some (.held S A sz rows)) : RowsAt w A sz rows := fun j cs h => by
  obtain ⟨b, off, h1, _, h3⟩ := (H.pred i _ hi : ∀ (j : Nat) (cs : List Value), rows[j]? = some cs → ∃ b off, A = some ⟨b, off, .none⟩ ∧ S b ∧ w.rangeAt b (off + j * sz) cs) j cs h
  exact ⟨b, off, h1, h3⟩
theorem Own.toHeld {w0 w : World} {row : Option Nat} {e : TypeId} {n c sz : Nat} {A : Option Addr} {rows : List (List Value)} {rs : List Res} (H : Own w0 row w (.rws e sz (.slice A n c) rows :: rs)) (hr : ∀ r ∈ rows, r.length = sz) (hsz : 0 < sz) :
    Own w0 row w (.held (fun b => (Value.slice A n c).ownBlock = some b) A sz rows :: rs) := by
  have h := H.rowsAt 0 rfl hr hsz
  refine H.seen (.held (fun b => (Value.slice A n c).ownBlock = some b) A sz rows) (show ∀ (j : Nat) (cs : List Value), rows[j]? = some cs → ∃ b off, A = some ⟨b, off, .none⟩ ∧ (Value.slice A n c).ownBlock = some b ∧ w.rangeAt b (off + j * sz) cs from fun j cs hj => ?_) (fun b hb => hb)
  obtain ⟨b, off, h1, h2⟩ := h j cs hj
  exact ⟨b, off, h1, by rw [h1]; rfl, h2⟩

end Go.Proofs.YtmfdpnjgljlkbaaDoor
