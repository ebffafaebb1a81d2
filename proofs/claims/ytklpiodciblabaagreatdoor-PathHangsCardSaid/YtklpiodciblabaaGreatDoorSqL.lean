/-
  WALK2. The laws of chapter 08: awake. Conditions: block 0 holds the table of needs, block 1 the table of places.
-/
import Derived.Test.YtklpiodciblabaaGreatDoorSqK
set_option linter.unusedSimpArgs false
set_option linter.unusedVariables false
namespace Go.Proofs.YtklpiodciblabaaGreatDoor
open Go.Proofs.Tryz
open Go.RowKit
set_option maxRecDepth 100000
def copiesL : List Ins := [⟨1, 1, 0, false, 0, false, 0, 0, 0, 0⟩, ⟨2, 0, 1, true, 1, false, 0, 0, 0, 0⟩]
def casL : List Ins := [⟨6, 0, 0, false, 0, false, 1, 0, 0, 0⟩]
def addL : List Ins := [⟨5, 0, 0, false, 1, false, 0, 0, 0, 0⟩]
def st3L : List Ins := [⟨2, 0, 0, false, 3, false, 0, 0, 0, 0⟩]
def oneQ : Prg := ⟨⟨#[116]⟩, [⟨#[120]⟩], [0], [addL, addL], 1, .mk 0 0 0 0 []⟩
def twoQ : Prg := ⟨⟨#[116]⟩, [⟨#[120]⟩, ⟨#[121]⟩], [0, 0], [copiesL, st3L], 1, .mk 0 0 0 0 []⟩
theorem vals_one : valuesR oneQ 16 = ([], 5) := by kernel_rfl
theorem vals_two : valuesR twoQ 16 = ([0, 3], 0) := by kernel_rfl
theorem RowsAt.ofRange8 {w : World} {b sz : Nat} : ∀ {rows : List (List Value)} {o : Nat}, w.rangeAt b o rows.flatten → (∀ r ∈ rows, r.length = sz) → RowsAt w (some ⟨b, o, none⟩) sz rows := by
  intro rows o h hr j cs hj
  refine ⟨b, o, rfl, fun k v hk => ?_⟩
  have key : ∀ (rows : List (List Value)), (∀ r ∈ rows, r.length = sz) → ∀ j cs, rows[j]? = some cs → ∀ k v, cs[k]? = some v → rows.flatten[j * sz + k]? = some v := by
    intro rows hr
    induction rows with
    | nil => intro j cs hj; simp at hj
    | cons r0 rest ih =>
      intro j cs hj k v hk
      have h0 : r0.length = sz := hr r0 (by simp)
      cases j with
      | zero =>
        simp at hj; subst hj
        have : k < r0.length := (List.getElem?_eq_some_iff.1 hk).1
        rw [List.flatten_cons, List.getElem?_append_left (by omega)]; simpa using hk
      | succ j =>
        rw [List.flatten_cons, List.getElem?_append_right (by rw [h0, Nat.add_mul]; omega), h0]
        have e1 : (j + 1) * sz + k - sz = j * sz + k := by rw [Nat.add_mul]; omega
        rw [e1]
        exact ih (fun r hm => hr r (by simp [hm])) j cs (by simpa using hj) k v hk
  have := h (j * sz + k) v (key rows hr j cs hj k v hk)
  rwa [Nat.add_assoc]
theorem rows10 {l : List Ins} : ∀ r ∈ l.map Ins.cells, r.length = 10 := fun r hr => by obtain ⟨x, _, rfl⟩ := List.mem_map.1 hr; rfl
theorem insR_at {w : World} {b : Nat} {l : List Ins} (h : w.rangeAt b 0 (l.map Ins.cells).flatten) : RowsAt w (some ⟨b, 0, none⟩) 10 (l.map Ins.cells) := RowsAt.ofRange8 h rows10
theorem byt_at {w : World} {b : Nat} {l : List UInt8} (h : w.rangeAt b 0 (l.map fun x => [b8 x]).flatten) : RowsAt w (some ⟨b, 0, none⟩) 1 (l.map fun x => [b8 x]) := RowsAt.ofRange8 h (fun r hr => b8_one hr)
theorem nil_at {w : World} {A : Option Addr} {sz : Nat} : RowsAt w A sz [] := fun j cs h => by simp at h
theorem duo_prog {w : World} {b1 b2 b3 C1 C2 : Nat} {A1 A2 : Option Addr} {name : ByteArray} {locs : List ByteArray} {init : List UInt8} {l1 l2 : List Ins} {ask : UInt8} {nl ni n1 n2 : Nat} (hn : name.size ≤ maxLen) (hnl : nl = locs.length) (hni : ni = init.length) (hls : ∀ s ∈ locs, s.size ≤ maxLen) (hl : locs.length ≤ 100) (hi : init.length ≤ 100)
    (h1 : w.rangeAt b1 0 ((locs.map fun s => [Value.string s]).flatten)) (h2 : w.rangeAt b2 0 (init.map fun x => [b8 x]).flatten) (h3 : w.rangeAt b3 0 [.slice A1 n1 C1, .slice A2 n2 C2]) (e1 : n1 = l1.length) (e2 : n2 = l2.length) (hR1 : RowsAt w A1 10 (l1.map Ins.cells)) (hR2 : RowsAt w A2 10 (l2.map Ins.cells)) (m1 : l1.length ≤ 100) (m2 : l2.length ≤ 100) :
    ProgAt w [.string name, .slice (some ⟨b1, 0, none⟩) nl nl, .slice (some ⟨b2, 0, none⟩) ni ni, .slice (some ⟨b3, 0, none⟩) 2 2, b8 ask, b8 0, b8 0, b8 0, b8 0, .slice none 0 0] ⟨name, locs, init, [l1, l2], ask, .mk 0 0 0 0 []⟩ := by
  subst hnl hni e1 e2
  refine ⟨some ⟨b1, 0, none⟩, locs.length, some ⟨b2, 0, none⟩, init.length, some ⟨b3, 0, none⟩, 2, 1, [b8 0, b8 0, b8 0, b8 0, .slice none 0 0], ?_⟩
  refine ⟨rfl, hn, RowsAt.ofRange8 h1 (fun r hr => by obtain ⟨x, _, rfl⟩ := List.mem_map.1 hr; rfl), ?_, Nat.le_refl _, hls, byt_at h2, ?_, ?_, (by show 2 ≤ 9223372036854775807; omega), none, 0, rfl, by decide, fun j kid hj => by simp at hj⟩
  · show locs.length ≤ 9223372036854775807; omega
  · show init.length ≤ 9223372036854775807; omega
  · intro j t hj
    match j, hj with
    | 0, hj => cases hj; exact ⟨b3, 0, A1, C1, rfl, h3 0 _ rfl, hR1, by omega⟩
    | 1, hj => cases hj; exact ⟨b3, 0, A2, C2, rfl, h3 1 _ rfl, hR2, by omega⟩
    | n + 2, hj => simp at hj
theorem Follow_ev (A : Option Addr) (C n : Nat) (l : List Ins) (RA : Option Addr) (RC k : Nat) (reads : List UInt8) (w0 : World) (m : Bool) (er : Nat) (hm : (followR l reads).more = m) (he : (followR l reads).err = er) (hA : RowsAt w0 A 10 (l.map Ins.cells)) (hl : n = l.length) (hn : l.length ≤ 9223372036854775807) (hR : RowsAt w0 RA 1 (reads.map fun x => [b8 x])) (hk : k = reads.length) (hrn : reads.length ≤ 9223372036854775806) (hN : NeedsAt w0) (hT : TabAt w0) :
    Calls Tryz.prog 11 #[.slice A n C, .slice RA k RC] w0 fun e w' => ∃ q : PlP, q.path = (followR l reads).path ∧ e = .returned (.tuple #[.agg q.cells.toArray, .bool m, .int .i64 (er : Int)]) ∧ Own w0 none w' q.res := by
  subst hm he
  exact Follow_pl A C n l RA RC k reads w0 hA hl hn hR hk hrn hN hT
theorem Paths_n (A : Option Addr) (C n : Nat) (l : List Ins) (DA : Option Addr) (DC k : Nat) (dom : List UInt8) (most : Int) (w0 : World) (hA : RowsAt w0 A 10 (l.map Ins.cells)) (hl : n = l.length) (hn : l.length ≤ 9223372036854775807) (hD : BytesAt w0 DA dom) (hk : k = dom.length) (hdn : dom.length ≤ 1000000) (hN : NeedsAt w0) (hT : TabAt w0) :
    Calls Tryz.prog 17 #[.slice A n C, .slice DA k DC, .int .i64 most] w0 (PathsPost (pathsR l dom most) w0) := by
  subst hl hk
  exact Md.Paths_any A C l DA DC dom most w0 hA hn hD hdn hN hT
theorem two_of {ps : List PlP} {l : List PathP} (h : ps.map PlP.path = l) (hl : l.length = 2) : ∃ q1 q2, ps = [q1, q2] ∧ l[0]? = some q1.path ∧ l[1]? = some q2.path := by
  subst h
  match ps, hl with
  | [q1, q2], _ => exact ⟨q1, q2, rfl, rfl, rfl⟩
theorem cas_two : (pathsR casL [5, 0] 2).1.length = 2 := by kernel_rfl
theorem cas_err : (pathsR casL [5, 0] 2).2 = 0 := by kernel_rfl
theorem cas_same1 {q : PathP} (h : (pathsR casL [5, 0] 2).1[0]? = some q) : sameP q (followR casL [0]).path = true := by
  have h1 : ((pathsR casL [5, 0] 2).1[0]?.map fun q => sameP q (followR casL [0]).path) = some true := by kernel_rfl
  rw [h] at h1
  exact Option.some.inj h1
theorem cas_same2 {q : PathP} (h : (pathsR casL [5, 0] 2).1[1]? = some q) : sameP q (followR casL [5]).path = true := by
  have h1 : ((pathsR casL [5, 0] 2).1[1]?.map fun q => sameP q (followR casL [5]).path) = some true := by kernel_rfl
  rw [h] at h1
  exact Option.some.inj h1
theorem notEq8 {a : Bool} (h : a = true) (h2 : a = false) {G : Prop} : G := by rw [h] at h2; cases h2
def smallP (p : PathP) : Bool := decide (p.evs.length ≤ 1000000) && decide (p.data.length ≤ 1000000000000) && decide (p.ctrl.length ≤ 1000000000000) && decide (p.rmw.length ≤ 1000000000000)
theorem small_at {w0 w : World} {row : Option Nat} {q : PlP} (H : Own w0 row w q.res) (h : smallP q.path = true) : PathAt w q := by
  simp only [smallP, Bool.and_eq_true, decide_eq_true_eq] at h
  exact res_at H h.1.1.1 h.1.1.2 h.1.2 h.2
theorem cas_small {i : Nat} {q : PathP} (h : (pathsR casL [5, 0] 2).1[i]? = some q) : smallP q = true := by
  have h1 : (pathsR casL [5, 0] 2).1.all smallP = true := by kernel_rfl
  exact List.all_eq_true.1 h1 q (List.mem_of_getElem? h)
theorem own_rowAt {w0 w : World} {row : Option Nat} {rs : List Res} (H : Own w0 row w rs) (i : Nat) {e : TypeId} {sz n c : Nat} {A : Option Addr} {rows : List (List Value)} (hi : rs[i]? = some (.rws e sz (.slice A n c) rows)) (hr : ∀ r ∈ rows, r.length = sz) (hsz : 0 < sz) {b o j : Nat} {cs : List Value} (hA : A = some ⟨b, o, none⟩) (hj : rows[j]? = some cs) : w.rangeAt b (o + j * sz) cs := by
  obtain ⟨b', o', h1, h2⟩ := H.rowsAt i hi hr hsz j cs hj
  rw [hA] at h1
  cases h1
  exact h2
theorem ev7 {l : List Ev} : ∀ r ∈ l.map Ev.cells, r.length = 7 := fun r hr => by obtain ⟨x, _, rfl⟩ := List.mem_map.1 hr; rfl
theorem pr2 {l : List Pr} : ∀ r ∈ l.map prC, r.length = 2 := fun r hr => by obtain ⟨x, _, rfl⟩ := List.mem_map.1 hr; rfl
theorem pl12 {l : List PlP} : ∀ r ∈ l.map PlP.cells, r.length = 12 := fun r hr => by obtain ⟨x, _, rfl⟩ := List.mem_map.1 hr; rfl
theorem evAt {l : List Ev} {j : Nat} {x : Ev} (h : l[j]? = some x) : (l.map Ev.cells)[j]? = some x.cells := by rw [List.getElem?_map, h]; rfl
set_option maxHeartbeats 8000000 in
theorem awake8_any (w0 : World) (hN : NeedsAt w0) (hT : TabAt w0) : Calls Tryz.prog 12 #[] w0 fun e w' => e = .returned (.bool true) ∧ Below w0.heap.size w0 w' := by
  have H := Own.start w0 none
  refine enterF func12 rfl ntmps12 rfl (fun a F => ?_);refine cSR fun K1 hK1=>sAs F rfl rfl rfl (qNK hK1 (qSR fun K2 hK2=>qBd (places := [(0, 1), (1, 1), (2, 1), (3, 2), (5, 2), (7, 1), (8, 1), (9, 1)]) zeroValue59 underlying59 (by kernel_rfl) rfl rfl rfl rfl ?_));clear hK1;clear F a;intro a F;refine sCall call18 F rfl rfl rfl (reg_any 1 _) ?_;rintro e w ⟨rfl, hb⟩;replace H := H.grow hb; clear hb;refine ⟨_, rfl, ?_⟩;clear F a; intro a F;refine sBd (places := [(0, 1), (1, 1), (2, 1), (3, 2), (5, 2), (7, 1), (8, 1), (9, 1)]) zeroValue59 underlying59 (by kernel_rfl) F rfl rfl rfl rfl ?_;clear F a;intro a F;refine sBsR (rows := [(Ins.mk 1 1 0 false 0 false 0 0 0 0).cells, (Ins.mk 2 0 1 true 1 false 0 0 0 0).cells]) H underlying22 sizeOf59 zeroValue59 rfl F rfl rfl rfl rfl rfl ?_;clear F a H; intro b28 a w F H;refine sAs F rfl rfl rfl (qNK hK2 (qSR fun K3 hK3=>qMv rfl rfl rfl ?_));clear hK2;clear F a;intro a F;refine sBs1 H underlying23 sizeOf5 zeroValue5 rfl F rfl rfl rfl rfl ?_;clear F a H; intro b31 a w F H;refine sCall call11 F rfl rfl rfl (Follow_ev _ 2 2 copiesL _ 1 1 [7] _ false 0 (by kernel_rfl) (by kernel_rfl) (insR_at (H.whole 1 rfl)) rfl (by decide) (byt_at (H.whole 0 rfl)) rfl (by decide) (hN.own H) (hT.own H)) ?_;rintro e w ⟨qp, hqp, rfl, H2⟩;replace H := H.join H2
  clear H2
  have hpl2 : qp.path.evs.length = 2 := by rw [hqp]; kernel_rfl
  have he0 : qp.path.evs[0]? = some ⟨1, 0, 7, 0, 0, 0⟩ := by rw [hqp]; kernel_rfl
  have he1 : qp.path.evs[1]? = some ⟨2, 1, 7, 0, 1, 1⟩ := by rw [hqp]; kernel_rfl
  have hdat : qp.path.data = [(0, 1)] := by rw [hqp]; kernel_rfl
  have hrg : qp.path.regs 1 = 7 := by rw [hqp]; kernel_rfl
  refine ⟨_, rfl, ?_⟩;clear F a; intro a F;refine sMv F rfl rfl rfl (qExt rfl rfl rfl rfl (qExt rfl rfl rfl rfl (qExt rfl rfl rfl rfl ?_)));clear F a;intro a F;refine sAl H zeroValue28 F rfl rfl ?_;clear F a H; intro b2 a w F H
  refine sSr H 0 ?si F rfl rfl rfl ?s1 rfl rfl ?_
  case si => exact info_size sizeOf28
  case s1 => first | rfl | (repeat (first | exact one_nil | (apply one_cons; · first | rfl | assumption | exact one_bif rfl rfl)))
  clear H; intro w H;refine sAs F rfl rfl rfl (qAs rfl rfl rfl (qNK hK3 (qSR fun K4 hK4=>qMv rfl rfl rfl ?_)));clear hK3;clear F a;intro a F;refine sCall call11 F rfl rfl rfl (Follow_ev _ 2 2 copiesL none 0 0 [] _ true 0 (by kernel_rfl) (by kernel_rfl) (insR_at (H.whole 6 rfl)) rfl (by decide) nil_at rfl (by decide) (hN.own H) (hT.own H)) ?_;rintro e w ⟨qw, hqw, rfl, H2⟩;replace H := H.join H2; clear H2;refine ⟨_, rfl, ?_⟩;clear F a; intro a F;refine sMv F rfl rfl rfl (qExt rfl rfl rfl rfl (qExt rfl rfl rfl rfl (qExt rfl rfl rfl rfl ?_)));clear F a;intro a F;refine sAl H zeroValue28 F rfl rfl ?_;clear F a H; intro b5 a w F H
  refine sSr H 0 ?si F rfl rfl rfl ?s1 rfl rfl ?_
  case si => exact info_size sizeOf28
  case s1 => first | rfl | (repeat (first | exact one_nil | (apply one_cons; · first | rfl | assumption | exact one_bif rfl rfl)))
  clear H; intro w H;refine sAs F rfl rfl rfl (qAs rfl rfl rfl (qNK hK4 (qSR fun K5 hK5=>qMv rfl rfl rfl ?_)));clear hK4;clear F a;intro a F;refine sBs H underlying23 sizeOf5 zeroValue5 rfl F rfl rfl rfl rfl rfl ?_;clear F a H; intro b44 a w F H;refine sCall call11 F rfl rfl rfl (Follow_ev _ 2 2 copiesL _ 2 2 [7, 8] _ false 5 (by kernel_rfl) (by kernel_rfl) (insR_at (H.whole 12 rfl)) rfl (by decide) (byt_at (H.whole 0 rfl)) rfl (by decide) (hN.own H) (hT.own H)) ?_;rintro e w ⟨qm, hqm, rfl, H2⟩;replace H := H.join H2; clear H2;refine ⟨_, rfl, ?_⟩;clear F a; intro a F;refine sMv F rfl rfl rfl (qExt rfl rfl rfl rfl (qExt rfl rfl rfl rfl (qExt rfl rfl rfl rfl ?_)));clear F a;intro a F;refine sAl H zeroValue28 F rfl rfl ?_;clear F a H; intro b8 a w F H
  refine sSr H 0 ?si F rfl rfl rfl ?s1 rfl rfl ?_
  case si => exact info_size sizeOf28
  case s1 => first | rfl | (repeat (first | exact one_nil | (apply one_cons; · first | rfl | assumption | exact one_bif rfl rfl)))
  clear H; intro w H;refine sAs F rfl rfl rfl (qAs rfl rfl rfl (qNK hK5 (qSR fun K6 hK6=>?_)));clear hK5;clear F a;intro a F;refine sCall call20 F rfl rfl rfl (val_any 0 _) ?_;rintro e w ⟨rfl, hb⟩;replace H := H.grow hb; clear hb;refine ⟨_, rfl, ?_⟩;clear F a; intro a F;refine sCall call20 F rfl rfl rfl (val_any 1 _) ?_;rintro e w ⟨rfl, hb⟩;replace H := H.grow hb; clear hb;refine ⟨_, rfl, ?_⟩;clear F a; intro a F;refine sBd (places := [(0, 1), (1, 1), (2, 1), (3, 2), (5, 2), (7, 1), (8, 1), (9, 1)]) zeroValue59 underlying59 (by kernel_rfl) F rfl rfl rfl rfl ?_;clear F a;intro a F;refine sBsA H underlying22 sizeOf59 zeroValue59 rfl F rfl rfl rfl rfl rfl ?_;clear F a H; intro b52 a w F H;refine sAs F rfl rfl rfl (qNK hK6 (qSR fun K7 hK7=>qMv rfl rfl rfl ?_));clear hK6;clear F a;intro a F;refine sBs1 H underlying23 sizeOf5 zeroValue5 rfl F rfl rfl rfl rfl ?_;clear F a H; intro b55 a w F H;refine sCall call11 F rfl rfl rfl (Follow_ev _ 1 1 casL _ 1 1 [0] _ false 0 (by kernel_rfl) (by kernel_rfl) (insR_at (H.whole 1 rfl)) rfl (by decide) (byt_at (H.whole 0 rfl)) rfl (by decide) (hN.own H) (hT.own H)) ?_;rintro e w ⟨qa, hqa, rfl, H2⟩;replace H := H.join H2
  clear H2
  have har : qa.path.rmw = [(0, 1)] := by rw [hqa]; kernel_rfl
  have hac : qa.path.ctrl = [(0, 1)] := by rw [hqa]; kernel_rfl
  have has : smallP qa.path = true := by rw [hqa]; kernel_rfl
  refine ⟨_, rfl, ?_⟩;clear F a; intro a F;refine sMv F rfl rfl rfl (qExt rfl rfl rfl rfl (qExt rfl rfl rfl rfl (qExt rfl rfl rfl rfl ?_)));clear F a;intro a F;refine sAl H zeroValue28 F rfl rfl ?_;clear F a H; intro b12 a w F H
  refine sSr H 0 ?si F rfl rfl rfl ?s1 rfl rfl ?_
  case si => exact info_size sizeOf28
  case s1 => first | rfl | (repeat (first | exact one_nil | (apply one_cons; · first | rfl | assumption | exact one_bif rfl rfl)))
  clear H; intro w H;refine sAs F rfl rfl rfl (qAs rfl rfl rfl (qNK hK7 (qSR fun K8 hK8=>qMv rfl rfl rfl ?_)));clear hK7;clear F a;intro a F;refine sBs1 H underlying23 sizeOf5 zeroValue5 rfl F rfl rfl rfl rfl ?_;clear F a H; intro b62 a w F H;refine sCall call11 F rfl rfl rfl (Follow_ev _ 1 1 casL _ 1 1 [5] _ false 0 (by kernel_rfl) (by kernel_rfl) (insR_at (H.whole 7 rfl)) rfl (by decide) (byt_at (H.whole 0 rfl)) rfl (by decide) (hN.own H) (hT.own H)) ?_;rintro e w ⟨qb, hqb, rfl, H2⟩;replace H := H.join H2
  clear H2
  have hbl : qb.path.evs.length = 1 := by rw [hqb]; kernel_rfl
  have hbs : smallP qb.path = true := by rw [hqb]; kernel_rfl
  refine ⟨_, rfl, ?_⟩;clear F a; intro a F;refine sMv F rfl rfl rfl (qExt rfl rfl rfl rfl (qExt rfl rfl rfl rfl (qExt rfl rfl rfl rfl ?_)));clear F a;intro a F;refine sAl H zeroValue28 F rfl rfl ?_;clear F a H; intro b15 a w F H
  refine sSr H 0 ?si F rfl rfl rfl ?s1 rfl rfl ?_
  case si => exact info_size sizeOf28
  case s1 => first | rfl | (repeat (first | exact one_nil | (apply one_cons; · first | rfl | assumption | exact one_bif rfl rfl)))
  clear H; intro w H;refine sAs F rfl rfl rfl (qAs rfl rfl rfl (qNK hK8 (qSR fun K9 hK9=>qMv rfl rfl rfl ?_)));clear hK8;clear F a;intro a F;refine sBs H underlying23 sizeOf5 zeroValue5 rfl F rfl rfl rfl rfl rfl ?_;clear F a H; intro b69 a w F H;refine sCall call17 F rfl rfl rfl (Paths_n _ 1 1 casL _ 2 2 [5, 0] 2 _ (insR_at (H.whole 13 rfl)) rfl (by decide) (byt_at (H.whole 0 rfl)) rfl (by decide) (hN.own H) (hT.own H)) ?_;rintro e w ⟨ps, LA, LC, hps, rfl, H2⟩;replace H := H.join H2
  clear H2
  obtain ⟨q1, q2, rfl, hq1, hq2⟩ := two_of hps cas_two
  rw [cas_err];refine ⟨_, rfl, ?_⟩;clear F a; intro a F;refine sMv F rfl rfl rfl (qExt rfl rfl rfl rfl (qExt rfl rfl rfl rfl (qAs rfl rfl rfl (qAs rfl rfl rfl (qNK hK9 (qSR fun K10 hK10=>?_))))));clear hK9;clear F a;intro a F;refine sCall call20 F rfl rfl rfl (val_any 1 _) ?_;rintro e w ⟨rfl, hb⟩;replace H := H.grow hb; clear hb;refine ⟨_, rfl, ?_⟩;clear F a; intro a F;refine sBd (places := [(0, 1), (1, 1), (2, 1), (3, 2), (5, 2), (7, 1), (8, 1), (9, 1)]) zeroValue59 underlying59 (by kernel_rfl) F rfl rfl rfl rfl ?_;clear F a;intro a F;refine sBsA H underlying22 sizeOf59 zeroValue59 rfl F rfl rfl rfl rfl rfl ?_;clear F a H; intro b75 a w F H;refine sAs F rfl rfl rfl (qNK hK10 (qSR fun K11 hK11=>?_));clear hK10;clear F a;intro a F;refine sBs1 H underlying40 sizeOf9 zeroValue9 rfl F rfl rfl rfl rfl ?_;clear F a H; intro b77 a w F H;refine sBs1 H underlying23 sizeOf5 zeroValue5 rfl F rfl rfl rfl rfl ?_;clear F a H; intro b78 a w F H;refine sMv F rfl rfl rfl (qMv rfl rfl rfl ?_);clear F a;intro a F;refine sBs H underlying41 sizeOf22 zeroValue22 rfl F rfl rfl rfl rfl rfl ?_;clear F a H; intro b81 a w F H;refine sBd (places := [(0, 1), (1, 1), (2, 1), (3, 1), (4, 1), (5, 5)]) zeroValue46 underlying46 (by kernel_rfl) F rfl rfl rfl rfl ?_;clear F a;intro a F;refine sCall call15 F rfl rfl rfl (Values_any _ oneQ 16 _ (duo_prog (name := oneQ.name) (locs := oneQ.locs) (init := oneQ.init) (ask := 1) (l1 := addL) (l2 := addL) (by decide) rfl rfl (by decide) (by decide) (by decide) (H.whole 2 rfl) (H.whole 1 rfl) (show World.rangeAt _ b81 0 [_, _] from H.whole 0 rfl) rfl rfl (insR_at (H.whole 3 rfl)) (insR_at (H.whole 3 rfl)) (by decide) (by decide)) (hN.own H)) ?_
  rintro e w hV1
  obtain ⟨A9, C9, rfl, H2⟩ := (show ValuesPost ([], 5) _ _ _ from vals_one ▸ hV1); replace H := H.join H2; clear H2 hV1
  refine ⟨_, rfl, ?_⟩;clear F a; intro a F;refine sMv F rfl rfl rfl (qExt rfl rfl rfl rfl (qExt rfl rfl rfl rfl (qAs rfl rfl rfl (qAs rfl rfl rfl (qNK hK11 (qSR fun K12 hK12=>?_))))));clear hK11;clear F a;intro a F;refine sBs H underlying40 sizeOf9 zeroValue9 rfl F rfl rfl rfl rfl rfl ?_;clear F a H; intro b87 a w F H;refine sBs H underlying23 sizeOf5 zeroValue5 rfl F rfl rfl rfl rfl rfl ?_;clear F a H; intro b88 a w F H;refine sMv F rfl rfl rfl ?_;clear F a;intro a F;refine sCall call20 F rfl rfl rfl (val_any 3 _) ?_;rintro e w ⟨rfl, hb⟩;replace H := H.grow hb; clear hb;refine ⟨_, rfl, ?_⟩;clear F a; intro a F;refine sBd (places := [(0, 1), (1, 1), (2, 1), (3, 2), (5, 2), (7, 1), (8, 1), (9, 1)]) zeroValue59 underlying59 (by kernel_rfl) F rfl rfl rfl rfl ?_;clear F a;intro a F;refine sBsA H underlying22 sizeOf59 zeroValue59 rfl F rfl rfl rfl rfl rfl ?_;clear F a H; intro b92 a w F H;refine sBs H underlying41 sizeOf22 zeroValue22 rfl F rfl rfl rfl rfl rfl ?_;clear F a H; intro b93 a w F H;refine sBd (places := [(0, 1), (1, 1), (2, 1), (3, 1), (4, 1), (5, 5)]) zeroValue46 underlying46 (by kernel_rfl) F rfl rfl rfl rfl ?_;clear F a;intro a F;refine sCall call15 F rfl rfl rfl (Values_any _ twoQ 16 _ (duo_prog (name := twoQ.name) (locs := twoQ.locs) (init := twoQ.init) (ask := 1) (l1 := copiesL) (l2 := st3L) (by decide) rfl rfl (by decide) (by decide) (by decide) (H.whole 3 rfl) (H.whole 2 rfl) (show World.rangeAt _ b93 0 [_, _] from H.whole 0 rfl) rfl rfl (insR_at (H.whole 49 rfl)) (insR_at (H.whole 1 rfl)) (by decide) (by decide)) (hN.own H)) ?_
  rintro e w hV2
  obtain ⟨A8, C8, rfl, H2⟩ := (show ValuesPost ([0, 3], 0) _ _ _ from vals_two ▸ hV2); replace H := H.join H2; clear H2 hV2
  refine ⟨_, rfl, ?_⟩;clear F a; intro a F;refine sMv F rfl rfl rfl (qExt rfl rfl rfl rfl (qExt rfl rfl rfl rfl (qAs rfl rfl rfl (qAs rfl rfl rfl (qNK hK12 ?_)))));clear hK12;clear F a;intro a F;refine cSeq (fun K13 hK13 => ?_);refine cSR fun K14 hK14=>sMv F rfl rfl rfl (qMv rfl rfl rfl ?_);clear F a;intro a F
  refine sBin F rfl rfl rfl rfl (bAddI ?_) ?_
  focus omega
  clear F a; intro a F;refine sMv F rfl rfl rfl ?_;clear F a;intro a F
  refine sBin F rfl rfl rfl rfl (bAddI ?_) ?_
  focus omega
  clear F a; intro a F;refine sMv F rfl rfl rfl ?_;clear F a;intro a F
  refine sBin F rfl rfl rfl rfl (bAddI ?_) ?_
  focus omega
  clear F a; intro a F;refine sMv F rfl rfl rfl ?_;clear F a;intro a F
  refine sBin F rfl rfl rfl rfl (bAddI ?_) ?_
  focus omega
  clear F a; intro a F;refine sMv F rfl rfl rfl ?_;clear F a;intro a F
  refine sBin F rfl rfl rfl rfl (bAddI ?_) ?_
  focus omega
  clear F a; intro a F;refine sBin F rfl rfl rfl rfl bNeq (qMv rfl rfl rfl ?_);clear F a;intro a F
  refine F.split 110 rfl ?_ ?_ <;> (clear F; intro h110 F)
  ·
   replace h110 := bneT h110
   exact absurd rfl h110
  replace h110 := bneF h110;refine sMv F rfl rfl rfl (qBin rfl rfl rfl rfl bNeq (qPk rfl rfl rfl rfl (qMv rfl rfl rfl ?_)));clear F a;intro a F
  refine F.split 114 rfl ?_ ?_ <;> (clear F; intro h114 F)
  ·
   replace h114 := bneT h114
   exact absurd rfl h114
  replace h114 := bneF h114;refine sMv F rfl rfl rfl (qBin rfl rfl rfl rfl bNeq (qPk rfl rfl rfl rfl (qMv rfl rfl rfl ?_)));clear F a;intro a F
  refine F.split 118 rfl ?_ ?_ <;> (clear F; intro h118 F)
  ·
   replace h118 := bneT h118
   exact absurd rfl h118
  replace h118 := bneF h118;refine sMv F rfl rfl rfl (qPk rfl rfl rfl rfl (qMv rfl rfl rfl ?_));clear F a;intro a F
  refine F.split 121 rfl ?_ ?_ <;> (clear F; intro h121 F)
  ·
   cases h121
  refine sMv F rfl rfl rfl (qNot rfl rfl rfl (qPk rfl rfl rfl rfl (qMv rfl rfl rfl ?_)));clear F a;intro a F
  refine F.split 125 rfl ?_ ?_ <;> (clear F; intro h125 F)
  ·
   replace h125 := notT h125
   cases h125
  replace h125 := notF h125;refine sFa (f := 0) (k := 0) underlying28 rfl sizeOf24 rfl rfl F rfl rfl rfl (qLd isAgg24 rfl rfl rfl (H.cell 44 rfl rfl) (qLen underlying24 rfl rfl rfl (qBin rfl rfl rfl rfl bNeq (qPk rfl rfl rfl rfl (qMv rfl rfl rfl ?_)))));clear F a;intro a F
  refine F.split 131 rfl ?_ ?_ <;> (clear F; intro h131 F)
  ·
   replace h131 := bneT h131
   omega
  replace h131 := bneF h131;refine sMv F rfl rfl rfl (qLen underlying52 rfl rfl rfl (qBin rfl rfl rfl rfl bNeq (qPk rfl rfl rfl rfl (qNK hK14 ?_))));clear hK14;clear F a;intro a F
  refine cIf F rfl (fun h135 => ?_) (fun h135 => ?_)
  ·
   replace h135 := bneT h135
   exact absurd rfl h135
  replace h135 := bneF h135
  obtain ⟨bE, oE, hA1, hRE⟩ := H.rowsAt 45 rfl ev7 (by omega) 0 _ (evAt he0)
  obtain ⟨bL, oL, rfl, hRL⟩ := H.rowsAt 10 rfl pl12 (by omega) 0 _ rfl
  refine wp_skip (hK13 _ _ ?_);clear hK13;refine cSeq (fun K15 hK15 => ?_);refine cRegRO (by kernel_rfl) H ?_;replace H := H.drew;refine eTF 0 rfl (by kernel_rfl) F rfl rfl rfl (fun w=>rFa (f := 0) (k := 0) underlying28 rfl sizeOf24 rfl rfl F rfl) H qq0 ?_;clear F a;intro a F;refine eTake (k := 1) (i := 1) rfl (by kernel_rfl) F rfl rfl rfl rfl (fun w H => rLd isAgg24 F rfl (show World.cell? _ ⟨b2, 0, none⟩ = some (.slice (some ⟨bE, oE, none⟩) qp.path.evs.length qp.c1) by rw [← hA1]; exact H.cell 44 rfl rfl)) H (fun _ _ _ h => h) ?_;clear F a;intro a F
  refine eTakeF (k := 2) (i := 2) rfl (by kernel_rfl) F rfl rfl rfl (fun w => rIx (j := 0) underlying24 sizeOf34 F rfl rfl ?_) H (fun _ _ _ h => h) ?_
  focus (first | omega | decide | (simp; omega))
  clear F a; intro a F
  refine eTake (k := 3) (i := 3) rfl (by kernel_rfl) F rfl rfl rfl rfl (fun w H => rLr underlying34 rfl ?si F rfl (own_rowAt H 45 rfl ev7 (by omega) hA1 (evAt he0))) H (fun _ _ _ h => h) ?_
  case si => exact info_size sizeOf34
  clear F a; intro a F;refine eT 4 rfl (by kernel_rfl) F rfl rfl rfl rfl (fun w H=>rBd (places := [(0, 1), (1, 1), (2, 1), (3, 1), (4, 1), (5, 1), (6, 1)]) zeroValue34 underlying34 (by kernel_rfl) F rfl rfl) H qq0 (qTF 5 rfl (by kernel_rfl) rfl rfl rfl (fun a F w=>rBin F rfl rfl (bEqEv (v := ⟨1, 0, 7, 0, 0, 0⟩))) H qq0 (qTF 6 rfl (by kernel_rfl) rfl rfl rfl (fun a F w=>rMv F rfl) H qq0 ?_));clear F a;intro a F
  refine F.split 142 rfl ?_ ?_ <;> (clear F; intro h142 F)
  ·
   refine eTF 7 rfl (by kernel_rfl) F rfl rfl rfl (fun w=>rFa (f := 0) (k := 0) underlying28 rfl sizeOf24 rfl rfl F rfl) H qq0 ?_;clear F a;intro a F;refine eTake (k := 8) (i := 8) rfl (by kernel_rfl) F rfl rfl rfl rfl (fun w H => rLd isAgg24 F rfl (show World.cell? _ ⟨b2, 0, none⟩ = some (.slice (some ⟨bE, oE, none⟩) qp.path.evs.length qp.c1) by rw [← hA1]; exact H.cell 44 rfl rfl)) H (fun _ _ _ h => h) ?_;clear F a;intro a F
   refine eTakeF (k := 9) (i := 9) rfl (by kernel_rfl) F rfl rfl rfl (fun w => rIx (j := 1) underlying24 sizeOf34 F rfl rfl ?_) H (fun _ _ _ h => h) ?_
   focus (first | omega | decide | (simp; omega))
   clear F a; intro a F
   refine eTake (k := 10) (i := 10) rfl (by kernel_rfl) F rfl rfl rfl rfl (fun w H => rLr underlying34 rfl ?si F rfl (own_rowAt H 45 rfl ev7 (by omega) hA1 (evAt he1))) H (fun _ _ _ h => h) ?_
   case si => exact info_size sizeOf34
   clear F a; intro a F;refine eT 11 rfl (by kernel_rfl) F rfl rfl rfl rfl (fun w H=>rBd (places := [(0, 1), (1, 1), (2, 1), (3, 1), (4, 1), (5, 1), (6, 1)]) zeroValue34 underlying34 (by kernel_rfl) F rfl rfl) H qq0 (qTF 12 rfl (by kernel_rfl) rfl rfl rfl (fun a F w=>rBin F rfl rfl (bEqEv (v := ⟨2, 1, 7, 0, 1, 1⟩))) H qq0 (qTF 13 rfl (by kernel_rfl) rfl rfl rfl (fun a F w=>rPk F rfl rfl) H qq0 (qTF 14 rfl (by kernel_rfl) rfl rfl rfl (fun a F w=>rMv F rfl) H qq0 ?_)));clear F a;intro a F
   refine F.split 150 rfl ?_ ?_ <;> (clear F; intro h150 F)
   ·
    refine eTF 15 rfl (by kernel_rfl) F rfl rfl rfl (fun w=>rFa (f := 1) (k := 1) underlying28 rfl sizeOf25 rfl rfl F rfl) H qq0 (qT 16 rfl (by kernel_rfl) rfl rfl rfl rfl (fun a F w H=>rLd isAgg25 F rfl (H.cell 44 rfl rfl)) H qq0 (qT 17 rfl (by kernel_rfl) rfl rfl rfl rfl (fun a F w H=>rBaB zB38 underlying38 sizeOf5 F rfl (FillB.one (v := 0) rfl rfl (FillB.one (v := 1) rfl rfl FillB.nil))) H qq0 ?_));clear F a;intro a F;refine eOne (k := 18) (i := 18) rfl (by kernel_rfl) F rfl (oBsA H underlying25 sizeOf38 zeroValue38 rfl F rfl rfl rfl rfl ?_);clear F a H; intro b154 a w F H;refine eKeep (H.sel [1, 2, 3, 4, 5, 6, 7, 8, 9, 10, 11, 12, 13, 14, 15, 16, 17, 18, 19, 20, 21, 22, 23, 24, 25, 26, 27, 28, 29, 30, 31, 32, 33, 34, 35, 36, 37, 38, 39, 40, 41, 42, 43, 44, 45, 46, 47, 48, 49, 50, 51] rfl rfl) ?_;refine eOne (k := 19) (i := 19) rfl (by kernel_rfl) F rfl (oCall call19 F rfl rfl (pairs8_any qp.A2 _ qp.c2 1 qp.path.data [(0, 1)] _ (H.rowsAt 47 rfl pr2 (by omega)) (RowsAt.ofRange8 (sz := 2) (rows := [prC (0, 1)]) (H.whole 0 rfl) (pr2 (l := [(0, 1)]))) (by rw [hdat]; decide) (by decide)) ?_);rintro e w ⟨rfl, hb⟩;replace H := H.grow hb; clear hb;refine ⟨_, rfl, ?_⟩;clear F a; intro a F;refine ePartO (by kernel_rfl) H ?_;refine eTF 20 rfl (by kernel_rfl) F rfl rfl rfl (fun w=>rPk F rfl rfl) H qq0 (qTF 21 rfl (by kernel_rfl) rfl rfl rfl (fun a F w=>rMv F rfl) H qq0 ?_);clear F a;intro a F
    refine F.split 157 rfl ?_ ?_ <;> (clear F; intro h157 F)
    ·
     refine eTF 22 rfl (by kernel_rfl) F rfl rfl rfl (fun w=>rFa (f := 4) (k := 4) underlying28 rfl sizeOf26 rfl rfl F rfl) H qq0 ?_;clear F a;intro a F
     refine eTakeF (k := 23) (i := 23) rfl (by kernel_rfl) F rfl rfl rfl (fun w => rIa (j := 1) underlying26 sizeOf5 F rfl rfl ?_) H (fun _ _ _ h => h) ?_
     focus (first | omega | decide | (simp; omega))
     clear F a; intro a F;refine eT 24 rfl (by kernel_rfl) F rfl rfl rfl rfl (fun w H=>rLd isAgg5 F rfl (H.cell 45 rfl rfl)) H qq0 (qTF 25 rfl (by kernel_rfl) rfl rfl rfl (fun a F w=>rBin F rfl rfl (bEqlB (y := 7))) H qq0 (qTF 26 rfl (by kernel_rfl) rfl rfl rfl (fun a F w=>rPk F rfl rfl) H qq0 (qTF 27 rfl (by kernel_rfl) rfl rfl rfl (fun a F w=>rMv F rfl) H qq0 ?_)));clear F a;intro a F
     refine F.split 163 rfl ?_ ?_ <;> (clear F; intro h163 F)
     ·
      replace h163 := beqT h163;refine eTF 28 rfl (by kernel_rfl) F rfl rfl rfl (fun w=>rFa (f := 3) (k := 3) underlying28 rfl sizeOf25 rfl rfl F rfl) H qq0 (qT 29 rfl (by kernel_rfl) rfl rfl rfl rfl (fun a F w H=>rLd isAgg25 F rfl (H.cell 27 rfl rfl)) H qq0 (qT 30 rfl (by kernel_rfl) rfl rfl rfl rfl (fun a F w H=>rBaB zB38 underlying38 sizeOf5 F rfl (FillB.one (v := 0) rfl rfl (FillB.one (v := 1) rfl rfl FillB.nil))) H qq0 ?_));clear F a;intro a F;refine eOne (k := 31) (i := 31) rfl (by kernel_rfl) F rfl (oBsA H underlying25 sizeOf38 zeroValue38 rfl F rfl rfl rfl rfl ?_);clear F a H; intro b167 a w F H;refine eKeep (H.sel [1, 2, 3, 4, 5, 6, 7, 8, 9, 10, 11, 12, 13, 14, 15, 16, 17, 18, 19, 20, 21, 22, 23, 24, 25, 26, 27, 28, 29, 30, 31, 32, 33, 34, 35, 36, 37, 38, 39, 40, 41, 42, 43, 44, 45, 46, 47, 48, 49, 50, 51, 52] rfl rfl) ?_;refine eOne (k := 32) (i := 32) rfl (by kernel_rfl) F rfl (oCall call19 F rfl rfl (pairs8_any qa.A4 _ qa.c4 1 qa.path.rmw [(0, 1)] _ (H.rowsAt 32 rfl pr2 (by omega)) (RowsAt.ofRange8 (sz := 2) (rows := [prC (0, 1)]) (H.whole 0 rfl) (pr2 (l := [(0, 1)]))) (by rw [har]; decide) (by decide)) ?_);rintro e w ⟨rfl, hb⟩;replace H := H.grow hb; clear hb;refine ⟨_, rfl, ?_⟩;clear F a; intro a F;refine ePartO (by kernel_rfl) H ?_;refine eTF 33 rfl (by kernel_rfl) F rfl rfl rfl (fun w=>rPk F rfl rfl) H qq0 (qTF 34 rfl (by kernel_rfl) rfl rfl rfl (fun a F w=>rMv F rfl) H qq0 ?_);clear F a;intro a F
      refine F.split 170 rfl ?_ ?_ <;> (clear F; intro h170 F)
      ·
       refine eTF 35 rfl (by kernel_rfl) F rfl rfl rfl (fun w=>rFa (f := 2) (k := 2) underlying28 rfl sizeOf25 rfl rfl F rfl) H qq0 (qT 36 rfl (by kernel_rfl) rfl rfl rfl rfl (fun a F w H=>rLd isAgg25 F rfl (H.cell 28 rfl rfl)) H qq0 (qT 37 rfl (by kernel_rfl) rfl rfl rfl rfl (fun a F w H=>rBaB zB38 underlying38 sizeOf5 F rfl (FillB.one (v := 0) rfl rfl (FillB.one (v := 1) rfl rfl FillB.nil))) H qq0 ?_));clear F a;intro a F;refine eOne (k := 38) (i := 38) rfl (by kernel_rfl) F rfl (oBsA H underlying25 sizeOf38 zeroValue38 rfl F rfl rfl rfl rfl ?_);clear F a H; intro b174 a w F H;refine eKeep (H.sel [1, 2, 3, 4, 5, 6, 7, 8, 9, 10, 11, 12, 13, 14, 15, 16, 17, 18, 19, 20, 21, 22, 23, 24, 25, 26, 27, 28, 29, 30, 31, 32, 33, 34, 35, 36, 37, 38, 39, 40, 41, 42, 43, 44, 45, 46, 47, 48, 49, 50, 51, 52, 53] rfl rfl) ?_;refine eOne (k := 39) (i := 39) rfl (by kernel_rfl) F rfl (oCall call19 F rfl rfl (pairs8_any qa.A3 _ qa.c3 1 qa.path.ctrl [(0, 1)] _ (H.rowsAt 32 rfl pr2 (by omega)) (RowsAt.ofRange8 (sz := 2) (rows := [prC (0, 1)]) (H.whole 0 rfl) (pr2 (l := [(0, 1)]))) (by rw [hac]; decide) (by decide)) ?_);rintro e w ⟨rfl, hb⟩;replace H := H.grow hb; clear hb;refine ⟨_, rfl, ?_⟩;clear F a; intro a F;refine ePartO (by kernel_rfl) H ?_;refine eTF 40 rfl (by kernel_rfl) F rfl rfl rfl (fun w=>rPk F rfl rfl) H qq0 (qTF 41 rfl (by kernel_rfl) rfl rfl rfl (fun a F w=>rMv F rfl) H qq0 ?_);clear F a;intro a F
       refine F.split 177 rfl ?_ ?_ <;> (clear F; intro h177 F)
       ·
        refine eTF 42 rfl (by kernel_rfl) F rfl rfl rfl (fun w=>rFa (f := 0) (k := 0) underlying28 rfl sizeOf24 rfl rfl F rfl) H qq0 (qT 43 rfl (by kernel_rfl) rfl rfl rfl rfl (fun a F w H=>rLd isAgg24 F rfl (H.cell 23 rfl rfl)) H qq0 (qT 44 rfl (by kernel_rfl) rfl rfl rfl rfl (fun a F w H=>rLen underlying24 F rfl) H qq0 (qTF 45 rfl (by kernel_rfl) rfl rfl rfl (fun a F w=>rBin F rfl rfl bEql) H qq0 (qTF 46 rfl (by kernel_rfl) rfl rfl rfl (fun a F w=>rPk F rfl rfl) H qq0 (qTF 47 rfl (by kernel_rfl) rfl rfl rfl (fun a F w=>rMv F rfl) H qq0 ?_)))));clear F a;intro a F
        refine F.split 183 rfl ?_ ?_ <;> (clear F; intro h183 F)
        ·
         replace h183 := beqT h183;refine eTF 48 rfl (by kernel_rfl) F rfl rfl rfl (fun w=>rMv F rfl) H qq0 ?_;clear F a;intro a F
         refine eTakeF (k := 49) (i := 49) rfl (by kernel_rfl) F rfl rfl rfl (fun w => rIx (j := 0) underlying52 sizeOf28 F rfl rfl ?_) H (fun _ _ _ h => h) ?_
         focus (first | omega | decide | (simp; omega))
         clear F a; intro a F
         refine eTake (k := 50) (i := 50) rfl (by kernel_rfl) F rfl rfl rfl rfl (fun w H => rLr underlying28 rfl ?si F rfl (own_rowAt H 13 rfl pl12 (by omega) (j := 0) rfl rfl)) H (fun _ _ _ h => h) ?_
         case si => exact info_size sizeOf28
         clear F a; intro a F
         refine eTake (k := 51) (i := 51) rfl (by kernel_rfl) F rfl rfl rfl rfl (fun w H => rLr underlying28 rfl ?si F rfl (H.whole 29 rfl)) H (fun _ _ _ h => h) ?_
         case si => exact info_size sizeOf28
         clear F a; intro a F;refine eOne (k := 52) (i := 52) rfl (by kernel_rfl) F rfl (oCall call13 F rfl rfl (Same_any q1 qa _ (small_at (H.sel [14, 15, 16, 17] rfl rfl) (cas_small hq1)) (small_at (H.sel [30, 31, 32, 33] rfl rfl) has)) ?_);rintro e w ⟨rfl, hb⟩;replace H := H.grow hb; clear hb;refine ⟨_, rfl, ?_⟩;clear F a; intro a F;refine ePartO (by kernel_rfl) H ?_;refine eTF 53 rfl (by kernel_rfl) F rfl rfl rfl (fun w=>rPk F rfl rfl) H qq0 (qTF 54 rfl (by kernel_rfl) rfl rfl rfl (fun a F w=>rMv F rfl) H qq0 ?_);clear F a;intro a F
         refine F.split 190 rfl ?_ ?_ <;> (clear F; intro h190 F)
         ·
          refine eTF 55 rfl (by kernel_rfl) F rfl rfl rfl (fun w=>rMv F rfl) H qq0 ?_;clear F a;intro a F
          refine eTakeF (k := 56) (i := 56) rfl (by kernel_rfl) F rfl rfl rfl (fun w => rIx (j := 1) underlying52 sizeOf28 F rfl rfl ?_) H (fun _ _ _ h => h) ?_
          focus (first | omega | decide | (simp; omega))
          clear F a; intro a F
          refine eTake (k := 57) (i := 57) rfl (by kernel_rfl) F rfl rfl rfl rfl (fun w H => rLr underlying28 rfl ?si F rfl (own_rowAt H 13 rfl pl12 (by omega) (j := 1) rfl rfl)) H (fun _ _ _ h => h) ?_
          case si => exact info_size sizeOf28
          clear F a; intro a F
          refine eTake (k := 58) (i := 58) rfl (by kernel_rfl) F rfl rfl rfl rfl (fun w H => rLr underlying28 rfl ?si F rfl (H.whole 23 rfl)) H (fun _ _ _ h => h) ?_
          case si => exact info_size sizeOf28
          clear F a; intro a F;refine eOne (k := 59) (i := 59) rfl (by kernel_rfl) F rfl (oCall call13 F rfl rfl (Same_any q2 qb _ (small_at (H.sel [18, 19, 20, 21] rfl rfl) (cas_small hq2)) (small_at (H.sel [24, 25, 26, 27] rfl rfl) hbs)) ?_);rintro e w ⟨rfl, hb⟩;replace H := H.grow hb; clear hb;refine ⟨_, rfl, ?_⟩;clear F a; intro a F;refine ePartO (by kernel_rfl) H ?_;refine eTF 60 rfl (by kernel_rfl) F rfl rfl rfl (fun w=>rPk F rfl rfl) H qq0 (qTF 61 rfl (by kernel_rfl) rfl rfl rfl (fun a F w=>rMv F rfl) H qq0 ?_);clear F a;intro a F
          refine F.split 197 rfl ?_ ?_ <;> (clear F; intro h197 F)
          ·
           refine eTF 62 rfl (by kernel_rfl) F rfl rfl rfl (fun w=>rMv F rfl) H qq0 ?_;clear F a;intro a F;refine eOne (k := 63) (i := 63) rfl (by kernel_rfl) F rfl (oBs H underlying23 sizeOf5 zeroValue5 rfl F rfl rfl rfl rfl ?_);clear F a H; intro b199 a w F H;refine ePartO (by kernel_rfl) H ?_;refine eOne (k := 64) (i := 64) rfl (by kernel_rfl) F rfl (oCall call22 F rfl rfl (Bytes_any A8 _ C8 2 [0, 3] [0, 3] _ (H.rowsAt 4 rfl (fun r hr => b8_one hr) (by omega)) (byt_at (H.whole 0 rfl))) ?_);rintro e w ⟨rfl, hb⟩;replace H := H.grow hb; clear hb;refine ⟨_, rfl, ?_⟩;clear F a; intro a F;refine ePartO (by kernel_rfl) H ?_;refine eTF 65 rfl (by kernel_rfl) F rfl rfl rfl (fun w=>rPk F rfl rfl) H qq0 (qTF 66 rfl (by kernel_rfl) rfl rfl rfl (fun a F w=>rAs F rfl) H qq0 ?_);clear F a;intro a F;refine eNil (k := 67) (by kernel_rfl) ?_;refine hK15 _ _ ?_;clear hK15;refine wp_ret ?_;refine bRet results12 F rfl ?_
           exact ⟨retB (by rfl), H.below⟩
          exact notEq8 (by rw [hqb]; exact cas_same2 hq2) h197
         exact notEq8 (by rw [hqa]; exact cas_same1 hq1) h190
        replace h183 := beqF h183
        omega
       exact notEq8 (by rw [hac]; rfl) h177
      exact notEq8 (by rw [har]; rfl) h170
     replace h163 := beqF h163
     exact absurd hrg h163
    exact notEq8 (by rw [hdat]; rfl) h157
   exact notEq8 (by decide) h150
  exact notEq8 (by decide) h142
end Go.Proofs.YtklpiodciblabaaGreatDoor
