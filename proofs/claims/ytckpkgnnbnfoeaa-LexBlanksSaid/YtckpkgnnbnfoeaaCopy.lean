/-
  The laws of layer 4: theirs, kinds. Conditions: the slice holds at most a million tokens, each with a kind that fits a byte.
-/
import Derived.Test.YtckpkgnnbnfoeaaLawJoins
import Derived.Deep.RegionHeld3
import Derived.Deep.AppendLies
namespace Go.Proofs.Ytckpkgnnbnfoeaa
open Go.RowKit

theorem ownsRow_drew {w : World} {base size n : Nat} {e : TypeId} {v : Value} {xs : List Value} (h : w.ownsRow base e size v n xs) : w.drew.ownsRow base e size v n xs := h
theorem take_snoc {α : Type} {l : List α} {j : Nat} {t : α} (h : l[j]? = some t) : l.take (j + 1) = l.take j ++ [t] := by
  obtain ⟨h1, h2⟩ := List.getElem?_eq_some_iff.1 h
  rw [List.take_succ_eq_append_getElem h1, h2]

set_option maxRecDepth 100000 in
set_option maxHeartbeats 4000000 in
theorem theirs_any (A : Option Addr) (n C : Nat) (ts : List AT) (w : World) (hA : TokGen w A n ts) (hk : KindsOk ts) (hlen : ts.length ≤ 1000000) :
    Calls Try.prog 16 #[.slice A n C] w fun e w' => Below w.heap.size w w' ∧ ∃ sv, e = .returned sv ∧ w'.ownsRow w.heap.size 59 3 sv ts.length (ts.flatMap AT.rcells) := by
  obtain ⟨i0, hi, hz0, hz1, hz2⟩ := info_parts rtok_info
  have hn := hA.1
  have hn6 : n ≤ 1000000 := by omega
  have Hn := Lib.hid hn
  have HA := Lib.hid hA
  have Hk := Lib.hid hk
  clear hA hk hn hlen
  go_enter Try.func16, Try.ntmps16
  go_wp2
  go_loopg [3, 4] n (fun m l i wr => ∃ (j : Nat) (sv : Value), Hid (m = n - j) ∧ sv = l ∧ i = .int .i64 j ∧ j ≤ n ∧ Below w.heap.size w wr ∧ wr.ownsRow w.heap.size 59 3 sv j ((ts.take j).flatMap AT.rcells))
  case atStart => exact ⟨0, _, Lib.hid rfl, rfl, rfl, Nat.zero_le _, Below.refl _ _, World.ownsRow_nil _ _ _ _⟩
  case round =>
    obtain ⟨j, sv, hm, rfl, rfl, hj, hbw, hown⟩ := hrel
    by_cases hlt : j < n
    · obtain ⟨⟨kd, tx, ps⟩, ht⟩ : ∃ t, ts[j]? = some t := ⟨_, List.getElem?_eq_getElem (by rw [← Hn.out]; exact hlt)⟩
      obtain ⟨b, o, rfl, l1, c0', c1', c2'⟩ := HA.out.2 j _ ht
      have c0 := (hbw.cell (p := ⟨b, o + j * 3, none⟩) l1).trans c0'
      have c1 := (hbw.cell (p := ⟨b, o + j * 3 + 1, none⟩) l1).trans c1'
      have c2 := (hbw.cell (p := ⟨b, o + j * 3 + 2, none⟩) l1).trans c2'
      have hfar : sv.ownBlock ≠ some b := fun h => by have := (hown.lt b h).1; omega
      clear c0' c1' c2'
      obtain ⟨k1, k2⟩ := Hk.out _ (List.mem_of_getElem? ht)
      simp only at c0 c1 c2 k1 k2
      have Ht := Lib.hid ht
      have How := Lib.hid hown
      have hbz := hbw.size
      have kw : IntKind.i64.wrap kd = kd := by rw [IntKind.wrap_i64]; omega
      have j0 : (0 : Int) ≤ (j : Int) := Int.natCast_nonneg _
      have j1 : (j : Int) < (n : Int) := by omega
      clear ht hown
      go_wp2
      go_region_held3 (fun w' => w'.cell? ⟨b, o + j * 3, none⟩ = some (.int .u8 kd) ∧ w'.cell? ⟨b, o + j * 3 + 1, none⟩ = some (.string tx) ∧ w'.cell? ⟨b, o + j * 3 + 2, none⟩ = some (.int .i64 ps))
        (first
          | go_keep
          | (go_split_ands
             refine ⟨?_, ?_, ?_⟩
             · (rw [hgrow.cell_far _ (by simp; omega) (Ne.symm hfar)]; assumption)
             · (rw [hgrow.cell_far _ (by simp; omega) (Ne.symm hfar)]; assumption)
             · (rw [hgrow.cell_far _ (by simp; omega) (Ne.symm hfar)]; assumption)))
        ((refine step_append_lies _ (by rfl) _ _ _ (by rfl) w.heap.size 59 i0 _ 3 32 Try.underlying30 hi hz0 hz1 hz2 rfl (by omega) _ j _ (by rfl) ((How.out.alloc _).drew)
            ⟨wr.heap.size, 0, none⟩ 1 1 [.int .i64 kd, .string tx, .int .i64 ps] (by rfl) (by rfl) (World.news_of_block (cs := #[.int .i64 kd, .string tx, .int .i64 ps]) (t := 59) (fr := (0, 0)) (heap_alloc_new wr _)) (by simp [Value.oneCell'])
            (by omega) (by unfold maxLen; omega) (by omega) (by simp; omega) (wr.heap.size + 1) (by simp) ?_; intro g' cap' w1 hown' hgrow hat hlt2))
      go_wp2
      go_roundg (n - (j + 1))
      case measure => rw [hm.out]; omega
      case rel => exact ⟨j + 1, _, Lib.hid rfl, rfl, by go_num, by omega, ((hbw.alloc hbz _).drew).grown hgrow (by simp; omega) (fun k hk => (How.out.lt k hk).1), by rw [take_snoc Ht.out, List.flatMap_append]; exact hown'⟩
    · have hjn : j = n := by omega
      subst hjn
      go_wp2
      go_returns
      refine ⟨hbw, _, rfl, ?_⟩
      rw [← Hn.out] 
      rw [List.take_of_length_le (by rw [← Hn.out]; exact Nat.le_refl _)] at hown
      exact hown
/-- The cells of a token without its place. -/
def AT.bare (t : AT) : List Value := [.int .u8 t.kind, .string t.text, .int .i64 0]
set_option maxRecDepth 100000 in
set_option maxHeartbeats 4000000 in
theorem kinds_any (A : Option Addr) (n C : Nat) (ts : List AT) (w : World) (hA : TokGen w A n ts) (hk : KindsOk ts) (hlen : ts.length ≤ 1000000) :
    Calls Try.prog 22 #[.slice A n C] w fun e w' => Below w.heap.size w w' ∧ ∃ sv, e = .returned sv ∧ w'.ownsRow w.heap.size 27 3 sv ts.length (ts.flatMap AT.bare) := by
  obtain ⟨i0, hi, hz0, hz1, hz2⟩ := info_parts tok_info
  have hn := hA.1
  have hn6 : n ≤ 1000000 := by omega
  have Hn := Lib.hid hn
  have HA := Lib.hid hA
  have Hk := Lib.hid hk
  clear hA hk hn hlen
  go_enter Try.func22, Try.ntmps22
  go_wp2
  go_loopg [3, 4] n (fun m l i wr => ∃ (j : Nat) (sv : Value), Hid (m = n - j) ∧ sv = l ∧ i = .int .i64 j ∧ j ≤ n ∧ Below w.heap.size w wr ∧ wr.ownsRow w.heap.size 27 3 sv j ((ts.take j).flatMap AT.bare))
  case atStart => exact ⟨0, _, Lib.hid rfl, rfl, rfl, Nat.zero_le _, Below.refl _ _, World.ownsRow_nil _ _ _ _⟩
  case round =>
    obtain ⟨j, sv, hm, rfl, rfl, hj, hbw, hown⟩ := hrel
    by_cases hlt : j < n
    · obtain ⟨⟨kd, tx, ps⟩, ht⟩ : ∃ t, ts[j]? = some t := ⟨_, List.getElem?_eq_getElem (by rw [← Hn.out]; exact hlt)⟩
      obtain ⟨b, o, rfl, l1, c0', c1', c2'⟩ := HA.out.2 j _ ht
      have c0 := (hbw.cell (p := ⟨b, o + j * 3, none⟩) l1).trans c0'
      have c1 := (hbw.cell (p := ⟨b, o + j * 3 + 1, none⟩) l1).trans c1'
      have hfar : sv.ownBlock ≠ some b := fun h => by have := (hown.lt b h).1; omega
      clear c0' c1' c2'
      obtain ⟨k1, k2⟩ := Hk.out _ (List.mem_of_getElem? ht)
      simp only at c0 c1 k1 k2
      have Ht := Lib.hid ht
      have How := Lib.hid hown
      have hbz := hbw.size
      have j0 : (0 : Int) ≤ (j : Int) := Int.natCast_nonneg _
      have j1 : (j : Int) < (n : Int) := by omega
      clear ht hown
      go_wp2
      go_region_held3 (fun w' => w'.cell? ⟨b, o + j * 3, none⟩ = some (.int .u8 kd) ∧ w'.cell? ⟨b, o + j * 3 + 1, none⟩ = some (.string tx))
        (first
          | go_keep
          | (go_split_ands
             refine ⟨?_, ?_⟩
             · (rw [hgrow.cell_far _ (by simp; omega) (Ne.symm hfar)]; assumption)
             · (rw [hgrow.cell_far _ (by simp; omega) (Ne.symm hfar)]; assumption)))
        ((refine step_append_lies _ (by rfl) _ _ _ (by rfl) w.heap.size 27 i0 _ 3 32 Try.underlying24 hi hz0 hz1 hz2 rfl (by omega) _ j _ (by rfl) ((How.out.alloc _).drew)
            ⟨wr.heap.size, 0, none⟩ 1 1 [.int .u8 kd, .string tx, .int .i64 0] (by rfl) (by rfl) (World.news_of_block (cs := #[.int .u8 kd, .string tx, .int .i64 0]) (t := 27) (fr := (0, 0)) (heap_alloc_new wr _)) (by simp [Value.oneCell'])
            (by omega) (by unfold maxLen; omega) (by omega) (by simp; omega) (wr.heap.size + 1) (by simp) ?_; intro g' cap' w1 hown' hgrow hat hlt2))
      go_wp2
      go_roundg (n - (j + 1))
      case measure => rw [hm.out]; omega
      case rel => exact ⟨j + 1, _, Lib.hid rfl, rfl, by go_num, by omega, ((hbw.alloc hbz _).drew).grown hgrow (by simp; omega) (fun k hk => (How.out.lt k hk).1), by rw [take_snoc Ht.out, List.flatMap_append]; exact hown'⟩
    · have hjn : j = n := by omega
      subst hjn
      go_wp2
      go_returns
      refine ⟨hbw, _, rfl, ?_⟩
      rw [← Hn.out] 
      rw [List.take_of_length_le (by rw [← Hn.out]; exact Nat.le_refl _)] at hown
      exact hown

theorem tokGen_owns {w : World} {base n : Nat} {sv : Value} {ts : List AT} (hn : ts.length = n) (h : w.ownsRow base 27 3 sv n (ts.flatMap AT.bare)) :
    ∃ A C, sv = .slice A n C ∧ TokGen w A n (ts.map fun t => ⟨t.kind, t.text, 0⟩) := by
  subst hn
  rcases owns_split h with ⟨h0, a, c, hv⟩ | ⟨g, cap, hv⟩
  · have : ts = [] := List.length_eq_zero_iff.1 h0
    subst this
    exact ⟨a, c, hv, rfl, fun j t ht => by simp at ht⟩
  · subst hv
    refine ⟨_, cap, rfl, by simp, fun j t ht => ?_⟩
    rw [List.getElem?_map] at ht
    obtain ⟨u, hu, rfl⟩ := Option.map_eq_some_iff.1 ht
    have hj : j < ts.length := (List.getElem?_eq_some_iff.1 hu).1
    have c := fun i (hi : i < 3) => (h.cellAt (j * 3 + i) (by omega)).trans (flat3_get AT.bare (fun _ => rfl) ts j u hu i hi)
    refine ⟨g, 0, rfl, (h.lt g rfl).2, ?_⟩
    simp only [Nat.zero_add]
    exact ⟨c 0 (by omega), c 1 (by omega), c 2 (by omega)⟩
end Go.Proofs.Ytckpkgnnbnfoeaa
