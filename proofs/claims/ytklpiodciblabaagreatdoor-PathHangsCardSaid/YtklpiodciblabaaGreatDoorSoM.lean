/-
  WALK2. Package path: distinct. Conditions: the slice lies in memory.
-/
import Derived.Test.YtklpiodciblabaaGreatDoorSoL
import Derived.Test.YtklpiodciblabaaGreatDoorCkK
set_option linter.unusedSimpArgs false
set_option linter.unusedVariables false
namespace Go.Proofs.YtklpiodciblabaaGreatDoor
open Go.RowKit
set_option maxRecDepth 100000
theorem Own.rwsAddr {w0 w : World} {row : Option Nat} {rs : List Res} (H : Own w0 row w rs) (i : Nat) {e : TypeId} {sz n c : Nat} {A : Option Addr} {rows : List (List Value)} (hi : rs[i]? = some (.rws e sz (.slice A n c) rows)) (hne : 0 < rows.length) : ∃ g, A = some ⟨g, 0, .none⟩ := by
  have h := H.arr i hi
  rcases h.2 with ⟨h1, h2⟩ | ⟨g, cap, cur, h1, _⟩
  · omega
  · cases h1; exact ⟨g, rfl⟩
theorem inc_unique : ∀ {l m : List UInt8}, l.Pairwise (fun x y => x.toNat < y.toNat) → m.Pairwise (fun x y => x.toNat < y.toNat) → (∀ x, x ∈ l ↔ x ∈ m) → l = m
  | [], [], _, _, _ => rfl
  | [], y :: m, _, _, h => absurd ((h y).2 (by simp)) (by simp)
  | x :: l, [], _, _, h => absurd ((h x).1 (by simp)) (by simp)
  | x :: l, y :: m, hl, hm, h => by
    have h1 := List.pairwise_cons.1 hl
    have h2 := List.pairwise_cons.1 hm
    have e : x = y := by
      apply Decidable.byContradiction
      intro hne
      have hx : x ∈ m := by
        have := (h x).1 (by simp)
        rcases List.mem_cons.1 this with e | e
        · exact absurd e hne
        · exact e
      have hy : y ∈ l := by
        have := (h y).2 (by simp)
        rcases List.mem_cons.1 this with e | e
        · exact absurd e.symm hne
        · exact e
      have := h1.1 y hy
      have := h2.1 x hx
      omega
    subst e
    congr 1
    refine inc_unique h1.2 h2.2 fun z => ⟨fun hz => ?_, fun hz => ?_⟩
    · rcases List.mem_cons.1 ((h z).1 (by simp [hz])) with e | e
      · rw [e] at hz; have := h1.1 x hz; omega
      · exact e
    · rcases List.mem_cons.1 ((h z).2 (by simp [hz])) with e | e
      · rw [e] at hz; have := h2.1 x hz; omega
      · exact e
def distL (l : List UInt8) : List UInt8 := ((List.range 256).map UInt8.ofNat).filter fun v => l.contains v
theorem dist_inc (l : List UInt8) : (distL l).Pairwise (fun x y => x.toNat < y.toNat) := by
  refine List.Pairwise.filter _ (List.pairwise_map.2 ?_)
  refine List.pairwise_iff_getElem.2 fun i j hi hj hij => ?_
  rw [List.length_range] at hi hj;rw [List.getElem_range, List.getElem_range, UInt8.toNat_ofNat', UInt8.toNat_ofNat']
  omega
theorem dist_mem (l : List UInt8) (x : UInt8) : x ∈ distL l ↔ x ∈ l := by
  unfold distL
  rw [List.mem_filter, List.contains_iff_mem]
  refine ⟨fun h => h.2, fun h => ⟨List.mem_map.2 ⟨x.toNat, List.mem_range.2 x.toNat_lt, by simp⟩, h⟩⟩
theorem dist_of {l m : List UInt8} (hm : m.Pairwise (fun x y => x.toNat < y.toNat)) (h : ∀ x, x ∈ m ↔ x ∈ l) : m = distL l := inc_unique hm (dist_inc l) fun x => (h x).trans (dist_mem l x).symm
theorem dist_nil : distL [] = [] := by unfold distL; exact List.filter_eq_nil_iff.2 fun x _ => by simp
def lstB (k : Nat) (d : By) : List UInt8 := (List.range k).map d
theorem lstB_len (k : Nat) (d : By) : (lstB k d).length = k := by unfold lstB; rw [List.length_map, List.length_range]
theorem lstB_rows (k : Nat) (d : By) : rowsB k d = (lstB k d).map fun x => [b8 x] := by unfold rowsB lstB; rw [List.map_map]; rfl
theorem inc_lt {k : Nat} {d : By} (h : Inc k d) : ∀ {j i : Nat}, i < j → j < k → (d i).toNat < (d j).toNat
  | 0, _, h1, _ => by omega
  | j + 1, i, h1, h2 => by
    have h3 := h j h2
    rcases Nat.lt_or_ge i j with h4 | h4
    · have := inc_lt h h4 (by omega); omega
    · rw [show i = j by omega]; exact h3
theorem lstB_dist {k n : Nat} {d d1 : By} {l : List UInt8} (hi : Inc k d) (ha : Alk k d n d1) (hs : Sm 0 n (ofL l) d1) (hn : n = l.length) : lstB k d = distL l := by
  have hof : ∀ j, j < l.length → ofL l j ∈ l ∧ l[j]? = some (ofL l j) := fun j hj => by
    unfold ofL
    rw [List.getD_eq_getElem?_getD, List.getElem?_eq_getElem hj]
    exact ⟨List.getElem_mem hj, rfl⟩
  refine dist_of ?_ fun x => ⟨fun hx => ?_, fun hx => ?_⟩
  · unfold lstB
    refine List.pairwise_map.2 (List.pairwise_iff_getElem.2 fun i j h1 h2 h3 => ?_);rw [List.length_range] at h1 h2;rw [List.getElem_range, List.getElem_range]
    exact inc_lt hi h3 h2
  · obtain ⟨i, h1, rfl⟩ := List.mem_map.1 hx
    obtain ⟨j, h2, h3⟩ := ha.1 i (List.mem_range.1 h1)
    obtain ⟨q, _, h4, h5⟩ := hs.to j (Nat.zero_le _) h2
    rw [h3, h5]
    exact (hof q (by omega)).1
  · obtain ⟨q, hq⟩ := List.mem_iff_getElem?.1 hx
    have hql := (List.getElem?_eq_some_iff.1 hq).1
    have e : ofL l q = x := Option.some.inj ((hof q hql).2.symm.trans hq)
    obtain ⟨j, _, h4, h5⟩ := hs.fro q (Nat.zero_le _) (by omega)
    obtain ⟨i, h1, h2⟩ := ha.2 j h4
    exact List.mem_map.2 ⟨i, List.mem_range.2 h1, by rw [h2, h5, e]⟩
theorem cloneY_any (A : Option Addr) (C : Nat) (l : List UInt8) (w0 : World) (hR : RowsAt w0 A 1 (l.map fun x => [Go.Proofs.YtklpiodciblabaaGreatDoor.b8 x])) (hn : l.length ≤ 1000000) :
    Calls Tryz.prog 32 #[.slice A l.length C] w0 fun e w' => ∃ A2 c2, e = .returned (.slice A2 l.length c2) ∧ Own w0 none w' [.rws 5 1 (.slice A2 l.length c2) (l.map fun x => [Go.Proofs.YtklpiodciblabaaGreatDoor.b8 x])] := by
  have H := Own.start w0 none
  have hr : ∀ r ∈ (l.map fun x => [Go.Proofs.YtklpiodciblabaaGreatDoor.b8 x]), r.length = 1 := by simp
  have h1 : ∀ r ∈ (l.map fun x => [Go.Proofs.YtklpiodciblabaaGreatDoor.b8 x]), r.all (·.oneCell') = true := by simp [Go.Proofs.YtklpiodciblabaaGreatDoor.b8, Value.oneCell']
  refine enterF Tryz.func32 rfl Tryz.ntmps32 rfl (fun a F => ?_);refine cSR fun K1 hK1=>sAs F rfl rfl rfl (qNK hK1 ?_);clear hK1;clear F a;intro a F;refine cSeq (fun K2 hK2 => ?_);refine cSR fun K3 hK3=>sMv F rfl rfl rfl (qBin rfl rfl rfl rfl (bNil Tryz.underlying23) (qNK hK3 ?_));clear hK3;clear F a;intro a F
  refine cIf F rfl (fun h4 => ?_) (fun h4 => ?_)
  ·
   obtain rfl : A = none := by cases A with | none => rfl | some a => cases h4
   obtain rfl : l = [] := by
    cases l with
    | nil => rfl
    | cons r rs =>
     obtain ⟨b, o, he, _⟩ := hR 0 _ rfl
     cases he
   refine cSR fun K4 hK4=>sAs F rfl rfl rfl (qNK hK4 ?_);clear hK4;clear F a;intro a F;refine wp_ret ?_;simp only [Exit.then];refine bRet Tryz.results32 F rfl ?_
   first
     | exact ⟨none, 0, rfl, H.nilRws 5 1⟩
     | (simp only [List.nil_append, List.length_map] at H
        exact ⟨_, _, by simp only [List.nil_append, List.length_map], H.pick 0 rfl⟩)
  obtain ⟨a0, rfl⟩ : ∃ a0, A = some a0 := by cases A with | none => cases h4 | some a => exact ⟨a, rfl⟩
  refine wp_skip (hK2 _ _ (cSR fun K5 hK5=>?_));clear hK2;refine sBs (cs := []) H Tryz.underlying23 Tryz.sizeOf5 Tryz.zeroValue5 rfl F rfl rfl rfl rfl rfl ?_;clear F a H; intro b5 a w F H
  replace H := H.emptyRws 1
  refine sMv F rfl rfl rfl ?_;clear F a;intro a F;refine sAppM (bytes := 1) H 0 Tryz.underlying23 Tryz.typeInfo5 rfl rfl rfl rfl rfl rfl F rfl rfl rfl rfl rfl (by first | rfl | simp) (((hR.own H).flat hr)) (hr) (h1) ((by simp only [List.length_nil, List.length_map]; omega)) ?_;clear F a H; intro A7 c7 a w F H;refine sAs F rfl rfl rfl (qNK hK5 ?_);clear hK5;clear F a;intro a F;refine wp_ret ?_;refine bRet Tryz.results32 F rfl ?_
  first
    | exact ⟨none, 0, rfl, H.nilRws 5 1⟩
    | (simp only [List.nil_append, List.length_map] at H
       exact ⟨_, _, by simp only [List.nil_append, List.length_map], H.pick 0 rfl⟩)
theorem compact0_any (A : Option Addr) (c : Nat) (w0 : World) : Calls Tryz.prog 46 #[.slice A 0 c] w0 fun e w' => e = .returned (.slice A 0 c) ∧ Below w0.heap.size w0 w' := by
  have H := Own.start w0 none
  refine enterF Tryz.func46 rfl Tryz.ntmps46 rfl (fun a F => ?_);refine cSR fun K1 hK1=>sAs F rfl rfl rfl (qNK hK1 ?_);clear hK1;clear F a;intro a F;refine cSeq (fun K2 hK2 => ?_);refine cSR fun K3 hK3=>sMv F rfl rfl rfl (qLen Tryz.underlying23 rfl rfl rfl (qBin rfl rfl rfl rfl bLss (qNK hK3 ?_)));clear hK3;clear F a;intro a F
  refine cIf F rfl (fun h8 => ?_) (fun h8 => ?_)
  ·
   replace h8 := of_decide_eq_true h8;refine cSR fun K4 hK4=>sMv F rfl rfl rfl (qAs rfl rfl rfl (qNK hK4 ?_));clear hK4;clear F a;intro a F;refine wp_ret ?_;simp only [Exit.then];refine bRet Tryz.results46 F rfl ?_
   exact ⟨rfl, H.below⟩
  replace h8 := of_decide_eq_false h8
  omega
def DistOut (l : List UInt8) (w0 : World) (e : Ending) (w' : World) : Prop := ∃ A2 c2, e = .returned (.slice A2 (distL l).length c2) ∧ Own w0 none w' [.rws 5 1 (.slice A2 (distL l).length c2) ((distL l).map fun x => [Go.Proofs.YtklpiodciblabaaGreatDoor.b8 x])]
theorem distinct0_any (A : Option Addr) (C : Nat) (w0 : World) : Calls Tryz.prog 31 #[.slice A 0 C] w0 (DistOut [] w0) := by
  have H := Own.start w0 none
  refine enterF Tryz.func31 rfl Tryz.ntmps31 rfl (fun a F => ?_);refine cSR fun K1 hK1=>sAs F rfl rfl rfl (qNK hK1 (qSR fun K2 hK2=>qMv rfl rfl rfl ?_));clear hK1;clear F a;intro a F;refine sCall Tryz.call32 F rfl rfl rfl (cloneY_any A C [] _ (show RowsAt _ A 1 [] from fun j cs h => by simp at h) (Nat.zero_le _)) ?_;rintro e w ⟨A2, c2, rfl, H2⟩;replace H := H.join H2; clear H2;refine ⟨_, rfl, ?_⟩;clear F a; intro a F;refine sAs F rfl rfl rfl (qNK hK2 (qSR fun K3 hK3=>qMv rfl rfl rfl ?_));clear hK2;clear F a;intro a F;refine sCall Tryz.call45 F rfl rfl rfl (sort0_any A2 c2 _) ?_;rintro e w ⟨rfl, hb⟩;replace H := H.grow hb; clear hb;refine ⟨_, rfl, ?_⟩;clear F a; intro a F;refine nK hK3 (cSR fun K4 hK4=>sMv F rfl rfl rfl ?_);clear hK3;clear F a;intro a F;refine sCall Tryz.call46 F rfl rfl rfl (compact0_any A2 c2 _) ?_;rintro e w ⟨rfl, hb⟩;replace H := H.grow hb; clear hb;refine ⟨_, rfl, ?_⟩;clear F a; intro a F;refine sAs F rfl rfl rfl (qNK hK4 ?_);clear hK4;clear F a;intro a F;refine wp_ret ?_;refine bRet Tryz.results31 F rfl ?_
  exact ⟨A2, c2, by rw [dist_nil]; rfl, by rw [dist_nil]; exact H.sel [0] rfl rfl⟩
theorem distinct1_any (A : Option Addr) (C : Nat) (l : List UInt8) (w0 : World) (hR : RowsAt w0 A 1 (l.map fun x => [Go.Proofs.YtklpiodciblabaaGreatDoor.b8 x])) (hn : l.length ≤ 1000000) (h0 : 0 < l.length) : Calls Tryz.prog 31 #[.slice A l.length C] w0 (DistOut l w0) := by
  have H := Own.start w0 none
  refine enterF Tryz.func31 rfl Tryz.ntmps31 rfl (fun a F => ?_);refine cSR fun K1 hK1=>sAs F rfl rfl rfl (qNK hK1 (qSR fun K2 hK2=>qMv rfl rfl rfl ?_));clear hK1;clear F a;intro a F;refine sCall Tryz.call32 F rfl rfl rfl (cloneY_any A C l _ (hR.own H) hn) ?_;rintro e w ⟨A2, c2, rfl, H2⟩;replace H := H.join H2
  clear H2
  obtain ⟨g, rfl⟩ := H.rwsAddr 0 rfl (by rw [List.length_map]; exact h0)
  rw [rowsB_of] at H;refine ⟨_, rfl, ?_⟩;clear F a; intro a F;refine sAs F rfl rfl rfl (qNK hK2 (qSR fun K3 hK3=>qMv rfl rfl rfl ?_));clear hK2;clear F a;intro a F;refine sCall Tryz.call45 F rfl rfl rfl (sortB_any g l.length c2 _ w0 none [] _ H hn) ?_;rintro e w ⟨rfl, d1, hs1, hr1, H2⟩
  replace H := H2; clear H2
  refine ⟨_, rfl, ?_⟩;clear F a; intro a F;refine nK hK3 (cSR fun K4 hK4=>sMv F rfl rfl rfl ?_);clear hK3;clear F a;intro a F;refine sCall Tryz.call46 F rfl rfl rfl (compactB_any g l.length c2 _ w0 none [] _ H hn h0 hr1) ?_;rintro e w ⟨k, d2, rfl, hk0, hkn, hinc, halk, H2⟩
  replace H := H2; clear H2
  refine ⟨_, rfl, ?_⟩;clear F a; intro a F;refine sAs F rfl rfl rfl (qNK hK4 ?_);clear hK4;clear F a;intro a F;refine wp_ret ?_;refine bRet Tryz.results31 F rfl ?_
  have e := lstB_dist hinc halk hs1 rfl
  have el : k = (distL l).length := by rw [← e, lstB_len]
  refine ⟨some ⟨g, 0, none⟩, c2, by rw [← el], ?_⟩
  rw [← el, ← e, ← lstB_rows]
  exact H
theorem distinct_any (A : Option Addr) (C : Nat) (l : List UInt8) (w0 : World) (hR : RowsAt w0 A 1 (l.map fun x => [Go.Proofs.YtklpiodciblabaaGreatDoor.b8 x])) (hn : l.length ≤ 1000000) : Calls Tryz.prog 31 #[.slice A l.length C] w0 (DistOut l w0) := by
  rcases Nat.eq_zero_or_pos l.length with h0 | h0
  · obtain rfl := List.eq_nil_of_length_eq_zero h0
    exact distinct0_any A C w0
  · exact distinct1_any A C l w0 hR hn h0
end Go.Proofs.YtklpiodciblabaaGreatDoor
