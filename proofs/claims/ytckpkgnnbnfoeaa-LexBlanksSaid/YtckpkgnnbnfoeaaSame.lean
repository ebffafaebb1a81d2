/-
  The law of layer 4: same. Conditions: both slices read as the same tokens, of which there are at most a million, each with a kind that fits a byte.
-/
import Derived.Test.YtckpkgnnbnfoeaaLexed
import Derived.Test.YtckpkgnnbnfoeaaRefC
import Derived.Test.YtckpkgnnbnfoeaaRefD
namespace Go.Proofs.Ytckpkgnnbnfoeaa
open Go.RowKit

def AT.rcells (t : AT) : List Value := [.int .i64 t.kind, .string t.text, .int .i64 t.pos]
theorem flat3_get {α : Type} (f : α → List Value) (hf : ∀ t, (f t).length = 3) (ts : List α) : ∀ (j : Nat) (t : α), ts[j]? = some t → ∀ i, i < 3 → (ts.flatMap f)[j * 3 + i]? = (f t)[i]? := by
  induction ts with
  | nil => simp
  | cons u r ih =>
    intro j t hj i hi
    have hl := hf u
    rw [List.flatMap_cons]
    cases j with
    | zero =>
      simp only [List.getElem?_cons_zero, Option.some.injEq] at hj
      subst hj
      rw [List.getElem?_append_left (by rw [hl]; omega)]; simp
    | succ j =>
      rw [List.getElem?_append_right (by rw [hl]; omega), hl]
      rw [show (j + 1) * 3 + i - 3 = j * 3 + i from by omega]
      exact ih j t (by simpa using hj) i hi
theorem owns_split {w : World} {base n : Nat} {e : TypeId} {sv : Value} {xs : List Value} (h : w.ownsRow base e 3 sv n xs) : (n = 0 ∧ ∃ a c, sv = .slice a 0 c) ∨ ∃ g cap, sv = .slice (some ⟨g, 0, none⟩) n cap := by
  rcases h.2 with ⟨h1, h2⟩ | ⟨g, cap, cur, h2, _⟩
  · exact .inl ⟨h2, none, 0, h1⟩
  · exact .inr ⟨g, cap, h2⟩
theorem rtokRead_owns {w : World} {base n : Nat} {sv : Value} {ts : List AT} (hn : ts.length = n) (h : w.ownsRow base 59 3 sv n (ts.flatMap AT.rcells)) : RTokRead w sv ts := by
  subst hn
  rcases owns_split h with ⟨h0, ha⟩ | ⟨g, cap, hv⟩
  · exact .inl ⟨List.length_eq_zero_iff.1 h0, ha⟩
  · subst hv
    refine .inr ⟨g, 0, cap, rfl, ?_⟩
    intro j t ht
    have hj : j < ts.length := (List.getElem?_eq_some_iff.1 ht).1
    have c := fun i (hi : i < 3) => (h.cellAt (j * 3 + i) (by omega)).trans (flat3_get AT.rcells (fun _ => rfl) ts j t ht i hi)
    simp only [Nat.zero_add]
    exact ⟨c 0 (by omega), c 1 (by omega), c 2 (by omega)⟩
theorem rcells_ups (ts : List Tok) : rcellsOf ts = (ups ts).flatMap AT.rcells := by
  unfold rcellsOf ups; rw [List.flatMap_map]; rfl

def KindsOk (ts : List AT) : Prop := ∀ t ∈ ts, 0 ≤ t.kind ∧ t.kind ≤ 255
set_option maxHeartbeats 4000000 in
theorem same_any (sa : Option Addr) (sn sc : Nat) (ra : Option Addr) (rn rc : Nat) (ts : List AT) (w : World) (hA : TokRead w (.slice sa sn sc) ts) (hB : RTokRead w (.slice ra rn rc) ts) (hk : KindsOk ts) (hlen : ts.length ≤ 1000000) :
    Calls Try.prog 17 #[.slice sa sn sc, .slice ra rn rc] w fun e w' => e = .returned (.bool true) ∧ ∃ d, w' = w.drewN d := by
  rcases hA with ⟨rfl, a, c, h⟩ | ⟨b, off, cap, h, hcs⟩
  · rcases hB with ⟨_, a', c', h'⟩ | ⟨b', off', cap', h', _⟩
    · cases h; cases h'
      go_enter Try.func17, Try.ntmps17
      go_wp2
      go_loopg [4, 5] 0 (fun m f i wr => w = wr ∧ f = .bool false ∧ i = .int .i64 0)
      case atStart => exact ⟨rfl, rfl, rfl⟩
      case round =>
        obtain ⟨rfl, rfl, rfl⟩ := hrel
        go_wp2
        go_returns
        exact ⟨rfl, 0, rfl⟩
    · cases h; cases h'
      go_enter Try.func17, Try.ntmps17
      go_wp2
      go_loopg [4, 5] 0 (fun m f i wr => w = wr ∧ f = .bool false ∧ i = .int .i64 0)
      case atStart => exact ⟨rfl, rfl, rfl⟩
      case round =>
        obtain ⟨rfl, rfl, rfl⟩ := hrel
        go_wp2
        go_returns
        exact ⟨rfl, 0, rfl⟩
  · rcases hB with ⟨rfl, a', c', h'⟩ | ⟨b', off', cap', h', hds⟩
    · cases h; cases h'
      go_enter Try.func17, Try.ntmps17
      go_wp2
      go_loopg [4, 5] 0 (fun m f i wr => w = wr ∧ f = .bool false ∧ i = .int .i64 0)
      case atStart => exact ⟨rfl, rfl, rfl⟩
      case round =>
        obtain ⟨rfl, rfl, rfl⟩ := hrel
        go_wp2
        go_returns
        exact ⟨rfl, 0, rfl⟩
    · cases h; cases h'
      have Hcs := Lib.hid hcs
      have Hds := Lib.hid hds
      have Hk := Lib.hid hk
      clear hcs hds hk
      go_enter Try.func17, Try.ntmps17
      go_wp2
      go_loopg [4, 5] ts.length (fun m f i wr => ∃ j : Nat, Hid (m = ts.length - j) ∧ f = .bool false ∧ j ≤ ts.length ∧ (∃ d, wr = w.drewN d) ∧ i = .int .i64 j)
      case atStart => exact ⟨0, Lib.hid rfl, rfl, Nat.zero_le _, ⟨0, rfl⟩, rfl⟩
      case round =>
        obtain ⟨j, hm, rfl, hj, ⟨d, rfl⟩, rfl⟩ := hrel
        by_cases hlt : j < ts.length
        · obtain ⟨t, ht⟩ : ∃ t, ts[j]? = some t := ⟨_, List.getElem?_eq_getElem hlt⟩
          obtain ⟨c0, c1, c2⟩ := Hcs.out j t ht
          obtain ⟨d0, d1, d2⟩ := Hds.out j t ht
          obtain ⟨k1, k2⟩ := Hk.out t (List.mem_of_getElem? ht)
          clear ht
          obtain ⟨kd, tx, ps⟩ := t
          simp only at c0 c1 c2 d0 d1 d2 k1 k2
          go_wp2
          go_quiet (fail)
          go_wp2
          go_roundg (ts.length - (j + 1))
          case measure => rw [hm.out]; omega
          case rel => exact ⟨j + 1, Lib.hid rfl, rfl, by omega, ⟨_, by first | rw [World.drewN_drewN] | rfl⟩, by go_num⟩
        · have hjl : j = ts.length := by omega
          clear hjl
          go_wp2
          go_returns
          exact ⟨rfl, d, rfl⟩
end Go.Proofs.Ytckpkgnnbnfoeaa
