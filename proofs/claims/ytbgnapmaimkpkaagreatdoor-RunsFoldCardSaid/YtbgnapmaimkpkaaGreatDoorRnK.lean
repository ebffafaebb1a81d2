/-
  slices.SortFunc of outcomes. Conditions: there is one.
-/
import Derived.Test.YtbgnapmaimkpkaaGreatDoorRnJ
import Derived.Test.YtbgnapmaimkpkaaGreatDoorRnZ
set_option linter.unusedSimpArgs false
set_option linter.unusedVariables false
namespace Go.Proofs.YtbgnapmaimkpkaaGreatDoor
open Go.RowKit Go.Sort
set_option maxRecDepth 100000
def cfF (x y : By) : Int := lexC (toL 38 x) (toL 38 y)
theorem lt_cf (x y : By) : ltOf cfF x y = decide (lexC (toL 38 x) (toL 38 y) < 0) := rfl
theorem lex_le {a b c : List UInt8} (h1 : ¬ lexC a b < 0) (h2 : ¬ lexC b c < 0) : ¬ lexC a c < 0 := by
  have e1 := lex_neg a b
  have e2 := lex_neg b c
  have e3 := lex_neg a c
  by_cases z1 : lexC a b = 0
  · rw [lex_eq z1]; exact h2
  · by_cases z2 : lexC b c = 0
    · rw [← lex_eq z2]; exact h1
    · have := lex_trans (l := c) (q := b) (s := a) (by omega) (by omega)
      omega
theorem swoF : SWO (ltOf cfF) where
  irrefl x := by rw [lt_cf, lex_self]; rfl
  trans x y z h1 h2 := by
    rw [lt_cf] at h1 h2 ⊢
    simp only [decide_eq_true_eq] at h1 h2 ⊢
    exact lex_trans h1 h2
  ntrans x y z h1 h2 := by
    rw [lt_cf] at h1 h2 ⊢
    simp only [decide_eq_false_iff_not] at h1 h2 ⊢
    exact lex_le h1 h2
theorem one38 (x : By) : ∀ v ∈ bs 38 x, v.oneCell' = true := fun v hv => by
  have := bs38_one [x] (bs 38 x) (by simp)
  exact List.all_eq_true.1 this v hv
theorem sort_own {w0 w : World} {row : Option Nat} {rs : List Res} {A : Option Addr} {c : Nat} {l : List By} (H : Own w0 row w rs) (i : Nat) (hi : rs[i]? = some (.rws 47 38 (.slice A l.length c) (l.map (bs 38)))) (hn : l.length ≤ 65536) (h0 : l ≠ []) :
    Calls Tryz.prog 98 #[.slice A l.length c, .func (.func 99) #[] #[]] w fun e w' => e = .returned (.tuple #[]) ∧ ∃ l' : List By, l'.length = l.length ∧ (∀ x, x ∈ l' ↔ x ∈ l) ∧ (l'.Pairwise fun x y => ¬ lexC (toL 38 y) (toL 38 x) < 0) ∧ Own w0 row w' (rs.set i (.rws 47 38 (.slice A l'.length c) (l'.map (bs 38)))) := by
  have hw : w.ownsRow 0 47 38 (.slice A l.length c) (l.map (bs 38)).length (l.map (bs 38)).flatten := H.pred i _ hi
  rw [List.length_map] at hw
  have hw2 := hw
  obtain ⟨_, ⟨h1, h2⟩ | ⟨g, cap, cur, h1, _, hg, _⟩⟩ := hw2
  · exact absurd (List.eq_nil_of_length_eq_zero h2) h0
  · have hA : A = some ⟨g, 0, none⟩ := by simp only [Value.slice.injEq] at h1; exact h1.1
    subst hA
    have hk : ∀ x : By, (bs 38 x).length = 38 := fun x => bs_length _ _
    have hH := holdsOf (enc := bs 38) hk (d := l.toArray) (by simpa using hw)
    have hb : g < w.heap.size := (Array.getElem?_eq_some_iff.1 hg).1
    have eg : ∀ args w, (callFunc 99 args).run Tryz.prog w = .ok (.enter 99 args) w := Tryz.call99
    have hcon := AnyQ.slices_SortFunc sortFin 38 Tryz.isAgg47 Tryz.sizeOf47 (bs 38) hk one38 cfF swoF 99 #[] g 0 c l.toArray w eg (fun m os dk hs x y => by simpa [cfF] using order_any x y _) hH hb (by simp; omega)
    change Calls Tryz.prog 98 _ _ _ at hcon
    rw [List.size_toArray] at hcon;refine hcon.mono ?_;rintro e w' ⟨rfl, d', n, os, hp, hs, rfl⟩
    obtain ⟨p1, _, p3⟩ := hp
    have p1 : d'.size = l.length := by simpa using p1
    have hperm : d'.toList.Perm l := by
      have e1 : d'.extract 0 l.length = d' := by rw [← p1]; simp
      have e2 : l.toArray.extract 0 l.length = l.toArray := by simp
      rw [e1, e2] at p3
      simpa using p3
    have hp := putOf (enc := bs 38) hk (d := l.toArray) (d' := d') (by simpa using hw) (by rw [List.size_toArray]; exact p1) n os
    refine ⟨rfl, d'.toList, by simpa using p1, fun x => hperm.mem_iff, ?_, turnedRow H i hi (sort_grown (bs 38) 38 w g n d' os) (by simpa using hp)⟩
    rw [List.pairwise_iff_getElem]
    intro i j hi hj hij
    have hi' : i < d'.size := by simpa using hi
    have hj' : j < d'.size := by simpa using hj
    have := hs i j (Nat.zero_le _) hij (by omega)
    rw [getElem!_pos d' j hj', getElem!_pos d' i hi', lt_cf] at this
    simp only [decide_eq_false_iff_not] at this
    simpa using this
end Go.Proofs.YtbgnapmaimkpkaaGreatDoor
