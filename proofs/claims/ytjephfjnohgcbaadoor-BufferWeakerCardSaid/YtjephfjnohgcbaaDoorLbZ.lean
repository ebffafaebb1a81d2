/-
  WALK2. The law of chapter 14: BufferWeaker answers true. Conditions: what it is handed lies in memory; block 0 holds the table of needs.
-/
import Derived.Test.YtjephfjnohgcbaaDoorBfZ
import Derived.Test.YtjephfjnohgcbaaDoorGrv
import Derived.Test.YtjephfjnohgcbaaDoorVcO
import Derived.Test.YtjephfjnohgcbaaDoorOpW
import Derived.Test.YtjephfjnohgcbaaDoorKtB
set_option linter.unusedSimpArgs false
set_option linter.unusedVariables false
namespace Go.Proofs.YtjephfjnohgcbaaDoor
open Go.RowKit
set_option maxRecDepth 100000
/-- A fence of stores made a full one. -/
def weak1 (x : Ins) : Ins := if x.op = 7 ∧ x.mode = 5 then { x with mode := 3 } else x
def weakPr (p : Prg) : Prg := { p with threads := p.threads.map (List.map weak1) }
theorem weak_stores (p : Prg) : NoStores (weakPr p) := fun t l k x hl hx ⟨h7, h5⟩ => by
  have hl : (p.threads.map (List.map weak1))[t]? = some l := hl
  rw [List.getElem?_map] at hl
  obtain ⟨l0, _, rfl⟩ := Option.map_eq_some_iff.1 hl
  rw [List.getElem?_map] at hx
  obtain ⟨y, _, rfl⟩ := Option.map_eq_some_iff.1 hx
  unfold weak1 at h7 h5
  split at h5
  · exact absurd h5 (show ¬ (3 : UInt8) = 5 by decide)
  · rename_i hc
    rw [if_neg hc] at h7
    exact hc ⟨h7, h5⟩
theorem Own.rwsAddr {w0 w : World} {row : Option Nat} {rs : List Res} (H : Own w0 row w rs) (i : Nat) {e : TypeId} {sz n c : Nat} {A : Option Addr} {rows : List (List Value)} (hi : rs[i]? = some (.rws e sz (.slice A n c) rows)) (hne : 0 < rows.length) : ∃ g, A = some ⟨g, 0, .none⟩ := by
  have h := H.arr i hi
  rcases h.2 with ⟨h1, h2⟩ | ⟨g, cap, cur, h1, _⟩
  · omega
  · cases h1; exact ⟨g, rfl⟩
theorem Own.rwsCell {w0 w : World} {row : Option Nat} {rs : List Res} (H : Own w0 row w rs) (i : Nat) {e : TypeId} {sz n c g j k : Nat} {rows : List (List Value)} {r : List Value} {v : Value} (hi : rs[i]? = some (.rws e sz (.slice (some ⟨g, 0, .none⟩) n c) rows)) (hl : ∀ r ∈ rows, r.length = sz) (hsz : 0 < sz) (hj : rows[j]? = some r) (hk : r[k]? = some v) : w.cell? ⟨g, 0 + j * sz + k, .none⟩ = some v := by
  obtain ⟨b, off, h1, h2⟩ := H.rowsAt i hi hl hsz j r hj
  cases h1
  exact h2 k v hk
theorem halfRows (l : List Ins) (k : Nat) : ∀ r ∈ ((l.take k).map weak1 ++ l.drop k).map Ins.cells, r.length = 10 := fun r hr => by
  obtain ⟨x, _, rfl⟩ := List.mem_map.1 hr
  rfl
theorem half_at {l : List Ins} {k : Nat} {x : Ins} (h : l[k]? = some x) : (((l.take k).map weak1 ++ l.drop k).map Ins.cells)[k]? = some x.cells := by
  have hk := (List.getElem?_eq_some_iff.1 h).1
  rw [List.getElem?_map, List.getElem?_append_right (by rw [List.length_map, List.length_take]; omega), List.getElem?_drop, List.length_map, List.length_take, show k + (k - min k l.length) = k by omega, h]
  rfl
theorem half_set {l : List Ins} {k : Nat} {x : Ins} (h : l[k]? = some x) (hc : x.op = 7 ∧ x.mode = 5) : (((l.take k).map weak1 ++ l.drop k).map Ins.cells).set k (x.cells.set 8 (.int .u8 3)) = ((l.take (k + 1)).map weak1 ++ l.drop (k + 1)).map Ins.cells := by
  have hk := (List.getElem?_eq_some_iff.1 h).1
  have hl : ((l.take k).map weak1).length = k := by rw [List.length_map, List.length_take]; omega
  have hx : l.drop k = x :: l.drop (k + 1) := by
    rw [List.drop_eq_getElem_cons hk]
    rw [List.getElem?_eq_getElem hk] at h
    rw [Option.some.inj h]
  have e : x.cells.set 8 (.int .u8 3) = (weak1 x).cells := by
    unfold weak1
    rw [if_pos hc]
    rfl
  rw [e, hx, List.take_add_one, h, List.map_append, List.map_append, List.map_append, List.map_append, List.set_append_right _ _ (by rw [List.length_map]; omega), List.length_map, hl, Nat.sub_self]
  simp
theorem half_keep {l : List Ins} {k : Nat} {x : Ins} (h : l[k]? = some x) (hc : ¬ (x.op = 7 ∧ x.mode = 5)) : (l.take k).map weak1 ++ l.drop k = (l.take (k + 1)).map weak1 ++ l.drop (k + 1) := by
  have hk := (List.getElem?_eq_some_iff.1 h).1
  have hx : l.drop k = x :: l.drop (k + 1) := by
    rw [List.drop_eq_getElem_cons hk]
    rw [List.getElem?_eq_getElem hk] at h
    rw [Option.some.inj h]
  have e : weak1 x = x := if_neg hc
  rw [hx, List.take_add_one, h, List.map_append]
  simp [e]
theorem locs_start {q : Prg} (hp : rightErr q = 0) {t : Nat} (ht : t < 4) : locsB (startP q) t = [] := by
  have := (start_rightM hp (show knownM 2 = true by decide)).2 t ht
  exact List.eq_nil_of_length_eq_zero ((locs_len _ _).trans this)
theorem locs_add {q : Prg} {s : By} {t u : Nat} {l : List Ins} {x : Ins} (h : ExecOf q 2 s t l x) (hu : u < 4) : locsB (execP 2 x s t) u = if u = t ∧ x.op = 2 then locsB s u ++ [x.loc] else locsB s u := by
  unfold locsB
  by_cases hc : u = t ∧ x.op = 2
  · obtain ⟨rfl, h2⟩ := hc
    rw [if_pos ⟨rfl, h2⟩, h.bufAdd ⟨h2, by decide⟩ (by decide)]
    simp
  · rw [if_neg hc, h.bufKeep hu]
    by_cases e : u = t
    · exact .inr fun hb => hc ⟨e, hb.1⟩
    · exact .inl e
theorem locs_drain {q : Prg} {s : By} {t u : Nat} (h : DrainOf q 2 s t 0) (hu : u < 4) : locsB (drainR s t 0) u = if u = t then (locsB s u).drop 1 else locsB s u := by
  unfold locsB
  by_cases hc : u = t
  · subst hc
    rw [if_pos rfl, h.bufOwn]
    simp
  · rw [if_neg hc, h.bufKeep hu hc]
theorem moves_tl {p : Prg} {m : UInt8} {s : By} {x : Pss} (hr : RightM p m s) (hx : x ∈ movesM p m s) : x.t.toNat < p.threads.length := by
  have hV4 := (valid hr.prog).thr4
  obtain ⟨u, hul, hmv⟩ := mem_movesN hx
  have hto := ofNat_to (t := u) (by omega)
  rcases hmv with ⟨rfl, _⟩ | ⟨i, _, rfl⟩
  · show (UInt8.ofNat u).toNat < _
    rw [hto]; exact hul
  · show (UInt8.ofNat u).toNat < _
    rw [hto]; exact hul
theorem moves_t4 {p : Prg} {m : UInt8} {s : By} {x : Pss} (hr : RightM p m s) (hx : x ∈ movesM p m s) : x.t.toNat < 4 := by
  have := moves_tl hr hx
  have := (valid hr.prog).thr4
  omega
theorem storeP_nextI {p : Prg} {s : By} {t : Nat} {x : Ins} (h : nextI p s t = some x) : storeP p s t = (x.op == 2) := by unfold storeP; rw [h]
theorem weak_drain {q : Prg} {s : By} {x : Pss} (hr : RightM q 2 s) (hx : x ∈ movesM q 2 s) (hd : x.d = true) : ∃ y ys, locsB s x.t.toNat = y :: ys ∧ toPso s x = ⟨x.t, true, y⟩ ∧ ∀ u, u < 4 → locsB (stepM q 2 s x) u = if u = x.t.toNat then ys else locsB s u := by
  have hw := went hr hx
  generalize stepM q 2 s x = s' at hw
  cases hw with
  | exec => cases hd
  | @drain t i hD hi he =>
    generalize drainI 2 s t (drainAt 2 s t i).l = a at hD he
    have hto := ofNat_to hD.t4
    have ha : a = 0 := by
      rcases Nat.eq_zero_or_pos a with e | e
      · exact e
      · exact absurd (hD.fst 0 e).1 (by decide)
    subst ha
    have hs := buf_split hD.lt
    have e0 : locsB s t = bLoc s t 0 :: (locsB s t).drop 1 := by
      unfold locsB
      conv => lhs; rw [hs]
      simp
    refine ⟨bLoc s t 0, (locsB s t).drop 1, ?_, ?_, fun u hu => ?_⟩
    · show locsB s (UInt8.ofNat t).toNat = _
      rw [hto]; exact e0
    · unfold toPso
      rw [if_pos hd]
      show (⟨UInt8.ofNat t, true, bLoc s (UInt8.ofNat t).toNat 0⟩ : Pss) = _
      rw [hto]; rfl
    · show locsB (drainR s t 0) u = if u = (UInt8.ofNat t).toNat then _ else _
      rw [hto, locs_drain hD hu]
      split
      · rename_i e; rw [e]
      · rfl
theorem weak_store {q : Prg} {s z : By} {x : Pss} (h : SimW q s z) (hx : x ∈ movesM q 2 s) (hd : x.d = false) : toPso s x = x ∧ ∃ l i, q.threads[x.t.toNat]? = some l ∧ l[(z (x.t.toNat * 9)).toNat]? = some i ∧ storeP q z x.t.toNat = (i.op == 2) ∧ ∀ u, u < 4 → locsB (stepM q 2 s x) u = if u = x.t.toNat ∧ i.op = 2 then locsB s u ++ [i.loc] else locsB s u := by
  have hw := went h.r hx
  generalize stepM q 2 s x = s' at hw
  cases hw with
  | drain => cases hd
  | @exec t l i hE hn =>
    have ht := hE.t4
    have hto := ofNat_to ht
    refine ⟨rfl, l, i, ?_⟩
    show q.threads[(UInt8.ofNat t).toNat]? = some l ∧ l[(z ((UInt8.ofNat t).toNat * 9)).toNat]? = some i ∧ storeP q z (UInt8.ofNat t).toNat = (i.op == 2) ∧ ∀ u, u < 4 → locsB (execP 2 i s t) u = if u = (UInt8.ofNat t).toNat ∧ i.op = 2 then locsB s u ++ [i.loc] else locsB s u
    rw [hto]
    have hz : z (t * 9) = s (t * 9) := h.low _ (by omega)
    have hx2 : l[(z (t * 9)).toNat]? = some i := by rw [hz]; exact hE.hx
    exact ⟨hE.hl, hx2, storeP_nextI (nextI_at hE.hl hx2), fun u hu => locs_add hE hu⟩
theorem Own.regrid {w0 w : World} {row : Option Nat} {rs : List Res} (H : Own w0 row w rs) (i : Nat) {e : TypeId} {n : Nat} {hd : Nat → Value} {ls ls' : Nat → List UInt8} (hi : rs[i]? = some (.grid e n hd ls)) (h : ∀ t, t < n → ls' t = ls t) : Own w0 row w (rs.set i (.grid e n hd ls')) :=
  H.reseen i hi (.grid e n hd ls') ⟨fun t ht => by rw [h t ht]; exact (H.gridAt i hi).1 t ht, (H.gridAt i hi).2⟩ (fun _ hb => hb)
/-- A header of the threads. -/
theorem Own.groveRow {w0 w : World} {row : Option Nat} {rs : List Res} (H : Own w0 row w rs) (k : Nat) {S : Nat → Prop} {rows : List (List Value)} {ts : List (List Ins)} (hk : rs[k]? = some (.grove S rows ts)) (hl : rows.length = ts.length) {t : Nat} {l : List Ins} (ht : ts[t]? = some l) {q : Nat} {i : Ins} (hq : l[q]? = some i) : ∃ b o C, rows[t]? = some [.slice (some ⟨b, o, .none⟩) l.length C] := by
  have htl := (List.getElem?_eq_some_iff.1 ht).1
  obtain ⟨r, hr⟩ : ∃ r, rows[t]? = some r := ⟨_, List.getElem?_eq_getElem (by omega)⟩
  obtain ⟨B, C, rfl, h4⟩ := (H.pred k _ hk : groveP S w rows ts) t r l hr ht
  obtain ⟨b, o, rfl, _⟩ := h4 q i.cells (by rw [List.getElem?_map, hq]; rfl)
  exact ⟨b, o, C, hr⟩
theorem Own.groveCell {w0 w : World} {row : Option Nat} {rs : List Res} (H : Own w0 row w rs) (k : Nat) {S : Nat → Prop} {rows : List (List Value)} {ts : List (List Ins)} (hk : rs[k]? = some (.grove S rows ts)) {t b o C : Nat} {l : List Ins} (ht : ts[t]? = some l) (hr : rows[t]? = some [.slice (some ⟨b, o, .none⟩) l.length C]) {q f : Nat} {i : Ins} {v : Value} (hq : l[q]? = some i) (hf : i.cells[f]? = some v) : w.cell? ⟨b, o + q * 10 + f, .none⟩ = some v := by
  obtain ⟨B, C', e, h4⟩ := (H.pred k _ hk : groveP S w rows ts) t _ l hr ht
  cases e
  obtain ⟨b', o', e2, _, h6⟩ := h4 q i.cells (by rw [List.getElem?_map, hq]; rfl)
  cases e2
  exact h6 f v hf
set_option maxHeartbeats 2000000 in
theorem bufferWeaker_any (cs : List Value) (p : Prg) (w0 : World) (hG : ProgT w0 cs p) (hZ : SizedT p.threads) (hN : NeedsAt w0) (PA : Option Addr) (PC : Nat) (picks : List UInt8) (hB : BytesAt w0 PA picks) (hBn : picks.length ≤ 9223372036854775807) (hBc : picks.length ≤ PC) :
    Calls Tryd.prog 5 #[.agg cs.toArray, .slice PA picks.length PC] w0 fun e w' => e = .returned (.bool true) ∧ Below w0.heap.size w0 w' := by
  have H := Own.start w0 none
  obtain ⟨LA, LC, IA, IC, TA, TC, h, ccs, hp, hTC⟩ := hG
  have hZ1 := hZ.1
  have hZ2 : ∀ t ∈ p.threads, t.length ≤ 14073748835123 := fun t ht => by
    have := hZ.2 t ht
    simp only [reachBytes] at this
    omega
  simp only [reachBytes] at hZ1
  obtain ⟨c1, c2, c3, c4, A9, m9, C9, rfl⟩ := condShape hp.cond
  have hcs := hp.cs
  simp only [List.cons_append, List.nil_append] at hcs
  subst hcs
  have hlen : (picks.take 100).length = min picks.length 100 := by rw [List.length_take]; omega
  have hBt := bytes_take hB 100
  generalize hQ : picks.take 100 = Q at hlen hBt
  refine enterF Tryd.func5 rfl Tryd.ntmps5 rfl (fun a F => ?_)
  refine cSeq (fun K1 hK1 => ?_)
  refine cReg ?_
  refine sBx H F rfl rfl rfl ?_
  clear F a H; intro b2 a w F H
  refine sAs F rfl rfl rfl ?_;clear F a;intro a F
  refine sNil ?_
  refine hK1 _ _ ?_; clear hK1
  refine cSeq (fun K2 hK2 => ?_)
  refine cReg ?_
  refine sLr Tryd.underlying29 rfl ?si F rfl rfl rfl (H.whole 0 rfl) ?_
  case si => exact info_size Tryd.sizeOf29
  clear F a; intro a F
  refine sAl H Tryd.zeroValue29 F rfl rfl ?_
  clear F a H; intro b5 a w F H
  refine sSr H 0 ?si F rfl rfl rfl ?s1 rfl rfl ?_
  case si => exact info_size Tryd.sizeOf29
  case s1 => first | rfl | (repeat (first | exact one_nil | (apply one_cons; · first | rfl | assumption | exact one_bif rfl rfl)))
  clear H; intro w H
  refine sNil ?_
  refine hK2 _ _ ?_; clear hK2
  refine cSeq (fun K3 hK3 => ?_)
  refine cReg ?_
  refine sFa (f := 3) (k := 3) Tryd.underlying29 rfl Tryd.sizeOf24 rfl rfl F rfl rfl rfl ?_;clear F a;intro a F
  refine sSt H 0 Tryd.sizeOf24 F rfl rfl rfl rfl rfl rfl ?_
  clear H; intro w H
  refine sNil ?_
  refine hK3 _ _ ?_; clear hK3
  refine cSeq (fun K4 hK4 => ?_)
  refine cSeq (fun K5 hK5 => ?_)
  refine cReg ?_
  refine sFa (f := 3) (k := 3) Tryd.underlying29 rfl Tryd.sizeOf24 rfl rfl F rfl rfl rfl ?_;clear F a;intro a F
  refine sLd Tryd.isAgg24 F rfl rfl rfl (H.cell 1 rfl rfl) ?_;clear F a;intro a F
  refine sLen Tryd.underlying24 F rfl rfl rfl ?_;clear F a;intro a F
  refine sMv F rfl rfl rfl ?_;clear F a;intro a F
  refine sNil ?_
  refine hK5 _ _ ?_; clear hK5
  refine wp_block ?_
  refine cLoopR [1, 5, 22, 23] (fun m ups w => ∃ (j : Nat) (A3 : Option Addr) (c3' : Nat) (S : Nat → Prop) (rows : List (List Value)), m = p.threads.length - j ∧ ups = [(24, .int .i64 ((j : Nat) : Int))] ∧ rows.length = j ∧ j ≤ p.threads.length ∧ (∀ r ∈ rows, r.length = 1) ∧ Own w0 none w [.grove S rows (weakPr p).threads, .rws 59 1 (.slice A3 rows.length c3') rows, .blk b5 ([.string p.name, .slice LA p.locs.length LC, .slice IA p.init.length IC, .slice A3 rows.length c3', Go.Proofs.YtjephfjnohgcbaaDoor.b8 p.ask, Go.Proofs.YtjephfjnohgcbaaDoor.b8 c1, Go.Proofs.YtjephfjnohgcbaaDoor.b8 c2, Go.Proofs.YtjephfjnohgcbaaDoor.b8 c3, Go.Proofs.YtjephfjnohgcbaaDoor.b8 c4, .slice A9 m9 C9] : List Value) 29, .blk b2 ([.string p.name, .slice LA p.locs.length LC, .slice IA p.init.length IC, .slice TA p.threads.length TC, Go.Proofs.YtjephfjnohgcbaaDoor.b8 p.ask, Go.Proofs.YtjephfjnohgcbaaDoor.b8 c1, Go.Proofs.YtjephfjnohgcbaaDoor.b8 c2, Go.Proofs.YtjephfjnohgcbaaDoor.b8 c3, Go.Proofs.YtjephfjnohgcbaaDoor.b8 c4, .slice A9 m9 C9] : List Value) 29]) F (p.threads.length) [(24, .int .i64 ((0 : Nat) : Int))] (by repeat (first | exact SubR.nil | (apply SubR.cons; · rfl))) ?_ ?_ ?_
  · exact ⟨0, none, 0, fun _ => False, [], rfl, rfl, rfl, Nat.zero_le _, (by simp), ((H.sel [0, 1] rfl rfl).nilRws 59 1).void (.grove (fun _ => False) [] (weakPr p).threads) (show groveP (fun _ => False) _ [] (weakPr p).threads from fun j r t h1 => by simp at h1) (fun _ hb => hb)⟩
  · repeat (first | exact trivial | refine Le.cons rfl ?_)
  clear F
  clear H
  intro m ups a w hI F
  obtain ⟨j, A3, c3', S, rows, rfl, rfl, hrj, hj, hr1, H⟩ := hI
  refine cSeq (fun K6 hK6 => ?_)
  refine cReg ?_
  refine sBin F rfl rfl rfl rfl bLss ?_;clear F a;intro a F
  refine sNil ?_
  refine hK6 _ _ ?_; clear hK6
  refine cSeq (fun K7 hK7 => ?_)
  refine cIf F rfl (fun h25 => ?_) (fun h25 => ?_)
  ·
   replace h25 := of_decide_eq_true h25
   have hjl : j < p.threads.length := by omega
   obtain ⟨l, hl⟩ : ∃ l, p.threads[j]? = some l := ⟨_, List.getElem?_eq_getElem hjl⟩
   have hlZ := hZ2 l (List.mem_of_getElem? hl)
   obtain ⟨bT, oT, BT, CT, rfl, hT1, hT2, hT3, hT4⟩ := hTC j l hl
   refine wp_skip ?_
   refine hK7 _ _ ?_; clear hK7
   refine cSeq (fun K8 hK8 => ?_)
   refine wp_block ?_
   refine cSeq (fun K9 hK9 => ?_)
   refine cReg ?_
   refine sIx Tryd.underlying24 Tryd.sizeOf59 F rfl rfl rfl rfl ?_ ?_
   focus (first | omega | decide | (simp; omega))
   clear F a; intro a F
   refine sLd Tryd.isAgg59 F rfl rfl rfl (H.arg hT1) ?_;clear F a;intro a F
   refine sAs F rfl rfl rfl ?_;clear F a;intro a F
   refine sNil ?_
   refine hK9 _ _ ?_; clear hK9
   refine cSeq (fun K10 hK10 => ?_)
   refine cReg ?_
   refine sBs (cs := []) H Tryd.underlying59 Tryd.sizeOf58 Tryd.zeroValue58 rfl F rfl rfl rfl rfl rfl ?_
   clear F a H; intro b28 a w F H
   replace H := H.emptyRws 10
   refine sMv F rfl rfl rfl ?_;clear F a;intro a F
   refine sAppO (bytes := 10) (sz := 10) H 0 Tryd.underlying59 Tryd.typeInfo58 rfl rfl rfl rfl rfl rfl F rfl rfl rfl rfl rfl ?hm ((RowsAt.own hT2 H)) ((fun r hr => by obtain ⟨x, _, rfl⟩ := List.mem_map.1 hr; rfl)) ((fun r hr => by obtain ⟨x, _, rfl⟩ := List.mem_map.1 hr; rfl)) ?hb ?_
   case hm => first | rfl | (simp; done) | omega | (simp only [List.length_take, List.length_map]; omega) | (simp; omega)
   case hb => exact ((by simp only [List.length_nil]; omega))
   clear F a H; intro A30 c30 a w F H
   refine sAs F rfl rfl rfl ?_;clear F a;intro a F
   refine sNil ?_
   refine hK10 _ _ ?_; clear hK10
   refine cSeq (fun K11 hK11 => ?_)
   refine cSeq (fun K12 hK12 => ?_)
   refine cReg ?_
   refine sMv F rfl rfl rfl ?_;clear F a;intro a F
   refine sLen Tryd.underlying59 F rfl rfl rfl ?_;clear F a;intro a F
   refine sMv F rfl rfl rfl ?_;clear F a;intro a F
   refine sNil ?_
   refine hK12 _ _ ?_; clear hK12
   refine wp_block ?_
   simp only [List.nil_append, List.length_map] at H F
   refine cLoopR [1, 5, 8, 22, 23, 24, 32] (fun m ups w => ∃ (k : Nat), m = l.length - k ∧ ups = [(33, .int .i64 ((k : Nat) : Int))] ∧ k ≤ l.length ∧ Own w0 none w [.rws 58 10 (.slice A30 l.length c30) (((l.take k).map weak1 ++ l.drop k).map Ins.cells), .grove S rows (weakPr p).threads, .rws 59 1 (.slice A3 rows.length c3') rows, .blk b5 ([.string p.name, .slice LA p.locs.length LC, .slice IA p.init.length IC, .slice A3 rows.length c3', Go.Proofs.YtjephfjnohgcbaaDoor.b8 p.ask, Go.Proofs.YtjephfjnohgcbaaDoor.b8 c1, Go.Proofs.YtjephfjnohgcbaaDoor.b8 c2, Go.Proofs.YtjephfjnohgcbaaDoor.b8 c3, Go.Proofs.YtjephfjnohgcbaaDoor.b8 c4, .slice A9 m9 C9] : List Value) 29, .blk b2 ([.string p.name, .slice LA p.locs.length LC, .slice IA p.init.length IC, .slice (some ⟨bT, oT, none⟩) p.threads.length TC, Go.Proofs.YtjephfjnohgcbaaDoor.b8 p.ask, Go.Proofs.YtjephfjnohgcbaaDoor.b8 c1, Go.Proofs.YtjephfjnohgcbaaDoor.b8 c2, Go.Proofs.YtjephfjnohgcbaaDoor.b8 c3, Go.Proofs.YtjephfjnohgcbaaDoor.b8 c4, .slice A9 m9 C9] : List Value) 29]) F (l.length) [(33, .int .i64 ((0 : Nat) : Int))] (by repeat (first | exact SubR.nil | (apply SubR.cons; · rfl))) ?_ ?_ ?_
   · exact ⟨0, rfl, rfl, by omega, H.sel [0, 1, 2, 3, 4] rfl rfl⟩
   · repeat (first | exact trivial | refine Le.cons rfl ?_)
   clear F
   clear H
   intro m ups a w hI F
   obtain ⟨k, rfl, rfl, hk2, H⟩ := hI
   refine cSeq (fun K13 hK13 => ?_)
   refine cReg ?_
   refine sBin F rfl rfl rfl rfl bLss ?_;clear F a;intro a F
   refine sNil ?_
   refine hK13 _ _ ?_; clear hK13
   refine cSeq (fun K14 hK14 => ?_)
   refine cIf F rfl (fun h34 => ?_) (fun h34 => ?_)
   ·
    replace h34 := of_decide_eq_true h34
    have hkl : k < l.length := by omega
    obtain ⟨x, hx⟩ : ∃ x, l[k]? = some x := ⟨_, List.getElem?_eq_getElem hkl⟩
    have hlr : 0 < (((l.take k).map weak1 ++ l.drop k).map Ins.cells).length := by simp; omega
    obtain ⟨gF, rfl⟩ := H.rwsAddr 0 rfl hlr
    refine wp_skip ?_
    refine hK14 _ _ ?_; clear hK14
    refine cSeq (fun K15 hK15 => ?_)
    refine wp_block ?_
    refine cSeq (fun K16 hK16 => ?_)
    refine cReg ?_
    refine sMv F rfl rfl rfl ?_;clear F a;intro a F
    refine sAs F rfl rfl rfl ?_;clear F a;intro a F
    refine sNil ?_
    refine hK16 _ _ ?_; clear hK16
    refine cSeq (fun K17 hK17 => ?_)
    refine cReg ?_
    refine sMv F rfl rfl rfl ?_;clear F a;intro a F
    refine sMv F rfl rfl rfl ?_;clear F a;intro a F
    refine sIx Tryd.underlying59 Tryd.sizeOf58 F rfl rfl rfl rfl ?_ ?_
    focus (first | omega | decide | (simp; omega))
    clear F a; intro a F
    refine sFaZ (f := 0) Tryd.underlying58 rfl Tryd.sizeOf5 rfl rfl F rfl rfl rfl ?_;clear F a;intro a F
    refine sLd Tryd.isAgg5 F rfl rfl rfl (by simpa using H.rwsCell 0 (k := 0) rfl (halfRows l k) (by decide) (half_at hx) rfl) ?_;clear F a;intro a F
    refine sBin F rfl rfl rfl rfl (bEqlB (y := 7)) ?_;clear F a;intro a F
    refine sMv F rfl rfl rfl ?_;clear F a;intro a F
    refine F.split 42 rfl ?_ ?_ <;> (clear F; intro h42 F)
    ·
     replace h42 := beqT h42
     refine sMv F rfl rfl rfl ?_;clear F a;intro a F
     refine sMv F rfl rfl rfl ?_;clear F a;intro a F
     refine sIx Tryd.underlying59 Tryd.sizeOf58 F rfl rfl rfl rfl ?_ ?_
     focus (first | omega | decide | (simp; omega))
     clear F a; intro a F
     refine sFa (f := 6) (k := _ + 8) Tryd.underlying58 rfl Tryd.sizeOf5 rfl rfl F rfl rfl rfl ?_;clear F a;intro a F
     refine sLd Tryd.isAgg5 F rfl rfl rfl (by simpa using H.rwsCell 0 (k := 8) rfl (halfRows l k) (by decide) (half_at hx) rfl) ?_;clear F a;intro a F
     refine sBin F rfl rfl rfl rfl (bEqlB (y := 5)) ?_;clear F a;intro a F
     refine sPk F rfl rfl rfl rfl ?_;clear F a;intro a F
     refine sNil ?_
     refine hK17 _ _ ?_; clear hK17
     refine cIf F rfl (fun h49 => ?_) (fun h49 => ?_)
     ·
      replace h49 := beqT h49
      refine cReg ?_
      refine sMv F rfl rfl rfl ?_;clear F a;intro a F
      refine sMv F rfl rfl rfl ?_;clear F a;intro a F
      refine sIx Tryd.underlying59 Tryd.sizeOf58 F rfl rfl rfl rfl ?_ ?_
      focus (first | omega | decide | (simp; omega))
      clear F a; intro a F
      refine sFa (f := 6) (k := _ + 8) Tryd.underlying58 rfl Tryd.sizeOf5 rfl rfl F rfl rfl rfl ?_;clear F a;intro a F
      refine sStW H 0 Tryd.sizeOf5 F rfl rfl rfl rfl rfl (halfRows l k) (half_at hx) ((by decide : 8 < 10)) (by omega) ?_
      clear H; intro w H
      rw [half_set hx ⟨h42, h49⟩] at H
      refine sNil ?_
      refine hK15 _ _ ?_; clear hK15
      refine cReg ?_
      refine sBin F rfl rfl rfl rfl (bAddN (j := 1) ?_) ?_
      focus omega
      clear F a; intro a F
      refine sMv F rfl rfl rfl ?_;clear F a;intro a F
      refine sNil ?_
      first
      | exact ⟨_, by omega, _, ⟨k + 1, rfl, rfl, by omega, H.sel [0, 1, 2, 3, 4] rfl rfl⟩, F.to (by repeat (first | exact trivial | refine Le.cons rfl ?_))⟩
      | (rw [half_keep hx (fun hh => h42 hh.1)] at H
         exact ⟨_, by omega, _, ⟨k + 1, rfl, rfl, by omega, H.sel [0, 1, 2, 3, 4] rfl rfl⟩, F.to (by repeat (first | exact trivial | refine Le.cons rfl ?_))⟩)
      | (rw [half_keep hx (fun hh => h49 hh.2)] at H
         exact ⟨_, by omega, _, ⟨k + 1, rfl, rfl, by omega, H.sel [0, 1, 2, 3, 4] rfl rfl⟩, F.to (by repeat (first | exact trivial | refine Le.cons rfl ?_))⟩)
     ·
      replace h49 := beqF h49
      refine wp_skip ?_
      refine hK15 _ _ ?_; clear hK15
      refine cReg ?_
      refine sBin F rfl rfl rfl rfl (bAddN (j := 1) ?_) ?_
      focus omega
      clear F a; intro a F
      refine sMv F rfl rfl rfl ?_;clear F a;intro a F
      refine sNil ?_
      first
      | exact ⟨_, by omega, _, ⟨k + 1, rfl, rfl, by omega, H.sel [0, 1, 2, 3, 4] rfl rfl⟩, F.to (by repeat (first | exact trivial | refine Le.cons rfl ?_))⟩
      | (rw [half_keep hx (fun hh => h42 hh.1)] at H
         exact ⟨_, by omega, _, ⟨k + 1, rfl, rfl, by omega, H.sel [0, 1, 2, 3, 4] rfl rfl⟩, F.to (by repeat (first | exact trivial | refine Le.cons rfl ?_))⟩)
      | (rw [half_keep hx (fun hh => h49 hh.2)] at H
         exact ⟨_, by omega, _, ⟨k + 1, rfl, rfl, by omega, H.sel [0, 1, 2, 3, 4] rfl rfl⟩, F.to (by repeat (first | exact trivial | refine Le.cons rfl ?_))⟩)
    ·
     replace h42 := beqF h42
     refine sSk F rfl rfl ?_;clear F a;intro a F
     refine sSk F rfl rfl ?_;clear F a;intro a F
     refine sSk F rfl rfl ?_;clear F a;intro a F
     refine sSk F rfl rfl ?_;clear F a;intro a F
     refine sSk F rfl rfl ?_;clear F a;intro a F
     refine sSk F rfl rfl ?_;clear F a;intro a F
     refine sPk F rfl rfl rfl rfl ?_;clear F a;intro a F
     refine sNil ?_
     refine hK17 _ _ ?_; clear hK17
     refine cIfF F rfl ?_
     refine wp_skip ?_
     refine hK15 _ _ ?_; clear hK15
     refine cReg ?_
     refine sBin F rfl rfl rfl rfl (bAddN (j := 1) ?_) ?_
     focus omega
     clear F a; intro a F
     refine sMv F rfl rfl rfl ?_;clear F a;intro a F
     refine sNil ?_
     first
     | exact ⟨_, by omega, _, ⟨k + 1, rfl, rfl, by omega, H.sel [0, 1, 2, 3, 4] rfl rfl⟩, F.to (by repeat (first | exact trivial | refine Le.cons rfl ?_))⟩
     | (rw [half_keep hx (fun hh => h42 hh.1)] at H
        exact ⟨_, by omega, _, ⟨k + 1, rfl, rfl, by omega, H.sel [0, 1, 2, 3, 4] rfl rfl⟩, F.to (by repeat (first | exact trivial | refine Le.cons rfl ?_))⟩)
     | (rw [half_keep hx (fun hh => h49 hh.2)] at H
        exact ⟨_, by omega, _, ⟨k + 1, rfl, rfl, by omega, H.sel [0, 1, 2, 3, 4] rfl rfl⟩, F.to (by repeat (first | exact trivial | refine Le.cons rfl ?_))⟩)
   ·
    replace h34 := of_decide_eq_false h34
    obtain rfl : k = l.length := by omega
    rw [List.take_length, List.drop_length, List.append_nil] at H
    refine wp_exit ?_
    refine hK11 _ _ ?_; clear hK11
    refine cReg ?_
    refine sFa (f := 3) (k := 3) Tryd.underlying29 rfl Tryd.sizeOf24 rfl rfl F rfl rfl rfl ?_;clear F a;intro a F
    refine sLd Tryd.isAgg24 F rfl rfl rfl (H.cell 3 rfl rfl) ?_;clear F a;intro a F
    refine sMv F rfl rfl rfl ?_;clear F a;intro a F
    refine sBs1 H Tryd.underlying24 Tryd.sizeOf59 Tryd.zeroValue59 rfl F rfl rfl rfl rfl ?_
    clear F a H; intro b58 a w F H
    refine sApp1 (bytes := 24) H 3 Tryd.underlying24 Tryd.typeInfo59 rfl rfl rfl rfl rfl rfl F rfl rfl rfl rfl rfl (H.whole 0 rfl) rfl ?s1 ?s2 ?_
    case s1 => first | rfl | (repeat (first | exact one_nil | (apply one_cons; · first | rfl | assumption | exact one_bif rfl rfl)))
    case s2 => omega
    clear F a H; intro A59 c59 a w F H
    refine sFa (f := 3) (k := 3) Tryd.underlying29 rfl Tryd.sizeOf24 rfl rfl F rfl rfl rfl ?_;clear F a;intro a F
    refine sSt H 4 Tryd.sizeOf24 F rfl rfl rfl rfl rfl rfl ?_
    clear H; intro w H
    refine sNil ?_
    refine hK8 _ _ ?_; clear hK8
    refine cReg ?_
    refine sBin F rfl rfl rfl rfl (bAddN (j := 1) ?_) ?_
    focus omega
    clear F a; intro a F
    refine sMv F rfl rfl rfl ?_;clear F a;intro a F
    refine sNil ?_
    have hfj : (weakPr p).threads[rows.length]? = some (l.map weak1) := by rw [hrj]; unfold weakPr; rw [List.getElem?_map, hl]; rfl
    refine ⟨_, ?_, _, ⟨j + 1, A59, c59, _, _, rfl, rfl, ?_, ?_, ?_, (((H.sel [1, 2, 3, 4, 5] rfl rfl).toHeld (by simp [Ins.cells]) (by decide)).plantG hfj (by simp))⟩, F.to (by repeat (first | exact trivial | refine Le.cons rfl ?_))⟩
    · omega
    · simp; omega
    · omega
    · intro r hr
      rcases List.mem_append.1 hr with h1 | h1
      · exact hr1 r h1
      · simp at h1; subst h1; rfl
  ·
   replace h25 := of_decide_eq_false h25
   have hrl : rows.length = (weakPr p).threads.length := by unfold weakPr; rw [List.length_map]; omega
   rw [hrl] at H
   have hS := weak_stores p
   have hqs : ∀ t ∈ (weakPr p).threads, t.length ≤ 9223372036854775807 := fun t ht => by
    obtain ⟨t0, h0, rfl⟩ := List.mem_map.1 ht
    have := hZ2 t0 h0
    rw [List.length_map]; omega
   have hpq : ∀ {w : World} {rs : List Res} (H : Own w0 none w rs) (i k : Nat), rs[i]? = some (.rws 59 1 (.slice A3 (weakPr p).threads.length c3') rows) → rs[k]? = some (.grove S rows (weakPr p).threads) → ProgAt w ([.string p.name, .slice LA p.locs.length LC, .slice IA p.init.length IC, .slice A3 (weakPr p).threads.length c3', Go.Proofs.YtjephfjnohgcbaaDoor.b8 p.ask, Go.Proofs.YtjephfjnohgcbaaDoor.b8 c1, Go.Proofs.YtjephfjnohgcbaaDoor.b8 c2, Go.Proofs.YtjephfjnohgcbaaDoor.b8 c3, Go.Proofs.YtjephfjnohgcbaaDoor.b8 c4, .slice A9 m9 C9] : List Value) (weakPr p) := fun H i k hi hk =>
    ⟨LA, LC, IA, IC, A3, c3', h, _, rfl, hp.name, RowsAt.own hp.locs H, hp.locsN, hp.locsC, hp.locsS, RowsAt.own hp.init H, hp.initN, H.threadsAt i k hi hk hrl hr1 hqs, (by rw [← hrl]; omega), CondAt.grown H.grown rfl _ _ _ hp.cond⟩
   have hq24 : (weakPr p).threads.length * 24 ≤ 140737488351232 := by rw [← hrl]; omega
   generalize weakPr p = q at H hS hqs hpq hrl hq24
   obtain hk : knownM 2 = true := by decide
   refine wp_exit ?_
   refine hK4 _ _ ?_; clear hK4
   refine cSeq (fun K18 hK18 => ?_)
   refine cRegRO (by kernel_rfl) H ?_
   replace H := H.drew
   refine eTake (k := 0) (i := 0) rfl (by kernel_rfl) F rfl rfl rfl rfl (fun w H => rLr Tryd.underlying29 rfl ?si F rfl (H.whole 2 rfl)) (H.sel [0, 1, 2, 3] rfl rfl) (fun _ _ _ h => h) ?_
   case si => exact info_size Tryd.sizeOf29
   clear F a; intro a F
   refine eTakeF (k := 1) (i := 1) rfl (by kernel_rfl) F rfl rfl rfl (fun w => rMv F rfl) (H.sel [0, 1, 2, 3] rfl rfl) (fun _ _ _ h => h) ?_;clear F a;intro a F
   refine eTakeF (k := 2) (i := 2) rfl (by kernel_rfl) F rfl rfl rfl (fun w => rMv F rfl) (H.sel [0, 1, 2, 3] rfl rfl) (fun _ _ _ h => h) ?_;clear F a;intro a F
   refine eTake (k := 3) (i := 3) rfl (by kernel_rfl) F rfl rfl rfl rfl (fun w H => rLen Tryd.underlying23 F rfl) (H.sel [0, 1, 2, 3] rfl rfl) (fun _ _ _ h => h) ?_;clear F a;intro a F
   refine eTake (k := 4) (i := 4) rfl (by kernel_rfl) F rfl rfl rfl rfl (fun w H => rMinN (j := 100) F rfl rfl) (H.sel [0, 1, 2, 3] rfl rfl) (fun _ _ _ h => h) ?_;clear F a;intro a F
   refine eTake (k := 5) (i := 5) rfl (by kernel_rfl) F rfl rfl rfl rfl (fun w H => rSlH Tryd.underlying23 (fun w => ⟨_, Tryd.sizeOf5 w⟩) F rfl rfl ?_) (H.sel [0, 1, 2, 3] rfl rfl) (fun _ _ _ h => h) ?_
   focus (first | omega | decide | (simp; omega))
   clear F a; intro a F
   refine eJoin F H [5] 12 [true, true, true, true, true, true, true, true, true, true, true, true, false, false, false] (fun rs ups w => ∃ A c b10, ups = [(70, .agg (bs 38 (playFM q 2 Q)).toArray), (71, .slice A (playOM q 2 Q).length c), (72, .int .i64 (playEM q 2)), (10, .pointer (some ⟨b10, 0, none⟩))] ∧ Own w0 none w ((.rws 50 3 (.slice A (playOM q 2 Q).length c) ((playOM q 2 Q).map Pss.cells)) :: (.blk b10 (bs 38 zb) 64) :: rs)) (by repeat (first | exact SubR.nil | (apply SubR.cons; · rfl))) ?_ (fun hJ => ?_)
   rotate_left
   ·
    refine eTwo (k := 6) (i := 6) (j := 11) (by kernel_rfl) F rfl rfl rfl rfl ?_ ?_
    ·
     refine oCall Tryd.call17 F rfl rfl ((by have := playM_any _ q _ (hpq H 1 0 rfl rfl) (hN.own H) 2 PA PC Q (RowsAt.own hBt H) (by omega); rw [hlen] at this; exact this)) ?_
     rintro e w ⟨A, c, rfl, H2⟩
     replace H := H.join H2; clear H2
     refine ⟨_, rfl, ?_⟩
     clear F a; intro a F
     refine eKeep (H.sel [1, 2, 3, 4] rfl rfl) ?_
     refine eTakeF (k := 7) (i := 7) rfl (by kernel_rfl) F rfl rfl rfl (fun w => rMv F rfl) (H.sel [1, 2, 3, 4] rfl rfl) (fun _ _ _ h => h) ?_;clear F a;intro a F
     refine eTakeF (k := 8) (i := 8) rfl (by kernel_rfl) F rfl rfl rfl (fun w => rExt F rfl rfl) (H.sel [1, 2, 3, 4] rfl rfl) (fun _ _ _ h => h) ?_;clear F a;intro a F
     refine eTakeF (k := 9) (i := 9) rfl (by kernel_rfl) F rfl rfl rfl (fun w => rExt F rfl rfl) (H.sel [1, 2, 3, 4] rfl rfl) (fun _ _ _ h => h) ?_;clear F a;intro a F
     refine eTakeF (k := 10) (i := 10) rfl (by kernel_rfl) F rfl rfl rfl (fun w => rExt F rfl rfl) (H.sel [1, 2, 3, 4] rfl rfl) (fun _ _ _ h => h) ?_;clear F a;intro a F
     refine eOne (k := 11) (i := 11) rfl (by kernel_rfl) F rfl (oAlB H zB64 F rfl ?_)
     clear F a H; intro b10 a w F H
     refine eKeep (H.sel [2, 3, 4, 5] rfl rfl) ?_
     exact eGo hJ (by kernel_rfl) _ ⟨A, c, b10, rfl, H.sel [1, 0, 2, 3, 4, 5] rfl rfl⟩ (F.to (by repeat (first | exact trivial | refine Le.cons rfl ?_)))
    ·
     refine oAlB H zB64 F rfl ?_
     clear F a H; intro b10 a w F H
     refine eKeep (H.sel [1, 2, 3, 4] rfl rfl) ?_
     refine eOne (k := 7) (i := 6) rfl (by kernel_rfl) F rfl (oCall Tryd.call17 F rfl rfl ((by have := playM_any _ q _ (hpq H 2 1 rfl rfl) (hN.own H) 2 PA PC Q (RowsAt.own hBt H) (by omega); rw [hlen] at this; exact this)) ?_)
     rintro e w ⟨A, c, rfl, H2⟩
     replace H := H.join H2; clear H2
     refine ⟨_, rfl, ?_⟩
     clear F a; intro a F
     refine eKeep (H.sel [2, 3, 4, 5] rfl rfl) ?_
     refine eTakeF (k := 8) (i := 7) rfl (by kernel_rfl) F rfl rfl rfl (fun w => rMv F rfl) (H.sel [2, 3, 4, 5] rfl rfl) (fun _ _ _ h => h) ?_;clear F a;intro a F
     refine eTakeF (k := 9) (i := 8) rfl (by kernel_rfl) F rfl rfl rfl (fun w => rExt F rfl rfl) (H.sel [2, 3, 4, 5] rfl rfl) (fun _ _ _ h => h) ?_;clear F a;intro a F
     refine eTakeF (k := 10) (i := 9) rfl (by kernel_rfl) F rfl rfl rfl (fun w => rExt F rfl rfl) (H.sel [2, 3, 4, 5] rfl rfl) (fun _ _ _ h => h) ?_;clear F a;intro a F
     refine eTakeF (k := 11) (i := 10) rfl (by kernel_rfl) F rfl rfl rfl (fun w => rExt F rfl rfl) (H.sel [2, 3, 4, 5] rfl rfl) (fun _ _ _ h => h) ?_;clear F a;intro a F
     exact eGo hJ (by kernel_rfl) _ ⟨A, c, b10, rfl, H.sel [0, 1, 2, 3, 4, 5] rfl rfl⟩ (F.to (by repeat (first | exact trivial | refine Le.cons rfl ?_)))
   clear F H; intro ups a w hI F
   obtain ⟨A, c, b10, rfl, H⟩ := hI
   refine eOne (k := 12) (i := 12) rfl (by kernel_rfl) F rfl (oSrB H 1 Tryd.sizeOf64 F rfl rfl rfl (by omega) ?_)
   clear H; intro w H
   rw [lay_all] at H
   refine ePartO (by kernel_rfl) H ?_
   refine eTakeF (k := 13) (i := 13) rfl (by kernel_rfl) F rfl rfl rfl (fun w => rAs F rfl) (H.sel [0, 1, 2, 3, 4, 5] rfl rfl) (fun _ _ _ h => h) ?_;clear F a;intro a F
   refine eTakeF (k := 14) (i := 14) rfl (by kernel_rfl) F rfl rfl rfl (fun w => rAs F rfl) (H.sel [0, 1, 2, 3, 4, 5] rfl rfl) (fun _ _ _ h => h) ?_;clear F a;intro a F
   refine eNil (k := 15) (by kernel_rfl) ?_
   refine hK18 _ _ ?_; clear hK18
   refine cSeq (fun K19 hK19 => ?_)
   refine cReg ?_
   refine sLr Tryd.underlying29 rfl ?si F rfl rfl rfl (H.whole 4 rfl) ?_
   case si => exact info_size Tryd.sizeOf29
   clear F a; intro a F
   refine sCall Tryd.call18 F rfl rfl rfl (start_any _ q _ (hpq H 3 2 rfl rfl) (hN.own H)) ?_
   rintro e w ⟨rfl, hb⟩
   replace H := H.grow hb; clear hb
   refine ⟨_, rfl, ?_⟩
   clear F a; intro a F
   refine sMv F rfl rfl rfl ?_;clear F a;intro a F
   refine sExt F rfl rfl rfl rfl ?_;clear F a;intro a F
   refine sExt F rfl rfl rfl rfl ?_;clear F a;intro a F
   refine sAlB H zB41 F rfl rfl ?_
   clear F a H; intro b13 a w F H
   refine sSrB H 0 Tryd.sizeOf41 F rfl rfl rfl rfl (by omega) ?_
   clear H; intro w H
   rw [lay_all] at H
   refine sAs F rfl rfl rfl ?_;clear F a;intro a F
   refine sNil ?_
   refine hK19 _ _ ?_; clear hK19
   refine cSeq (fun K20 hK20 => ?_)
   refine cSeq (fun K21 hK21 => ?_)
   refine cReg ?_
   refine sMv F rfl rfl rfl ?_;clear F a;intro a F
   refine sBin F rfl rfl rfl rfl bNeq ?_;clear F a;intro a F
   refine sMv F rfl rfl rfl ?_;clear F a;intro a F
   refine F.split 80 rfl ?_ ?_ <;> (clear F; intro h80 F)
   ·
    replace h80 := bneT h80
    have hv : rightErr q ≠ 0 := fun h => h80 (if_pos ⟨h, hk⟩)
    have eE : startE q = 2 := if_neg hv
    have eM : playEM q 2 = 2 := if_neg fun h => hv h.1
    simp only [eE, eM] at F
    refine sSk F rfl rfl ?_;clear F a;intro a F
    refine sSk F rfl rfl ?_;clear F a;intro a F
    refine sPk F rfl rfl rfl rfl ?_;clear F a;intro a F
    refine sNil ?_
    refine hK21 _ _ ?_; clear hK21
    refine cIfT F rfl ?_
    refine cSeq (fun K22 hK22 => ?_)
    refine cReg ?_
    refine sMv F rfl rfl rfl ?_;clear F a;intro a F
    refine sMv F rfl rfl rfl ?_;clear F a;intro a F
    refine sBin F rfl rfl rfl rfl bEql ?_;clear F a;intro a F
    refine sMv F rfl rfl rfl ?_;clear F a;intro a F
    refine F.split 87 rfl ?_ ?_ <;> (clear F; intro h87 F)
    ·
     replace h87 := beqT h87
     refine sLr Tryd.underlying29 rfl ?si F rfl rfl rfl (H.whole 5 rfl) ?_
     case si => exact info_size Tryd.sizeOf29
     clear F a; intro a F
     refine sCall Tryd.call11 F rfl rfl rfl (right_any' _ q _ (hpq H 4 3 rfl rfl) (hN.own H)) ?_
     rintro e w ⟨rfl, hb⟩
     replace H := H.grow hb; clear hb
     refine ⟨_, rfl, ?_⟩
     clear F a; intro a F
     refine sBin F rfl rfl rfl rfl bNeq ?_;clear F a;intro a F
     refine sPk F rfl rfl rfl rfl ?_;clear F a;intro a F
     refine sMv F rfl rfl rfl ?_;clear F a;intro a F
     refine F.split 92 rfl ?_ ?_ <;> (clear F; intro h92 F)
     ·
      replace h92 := bneT h92
      refine sCall Tryd.call12 F rfl rfl rfl (awake14_any _ (hN.own H)) ?_
      rintro e w ⟨rfl, hb⟩
      replace H := H.grow hb; clear hb
      refine ⟨_, rfl, ?_⟩
      clear F a; intro a F
      refine sPk F rfl rfl rfl rfl ?_;clear F a;intro a F
      refine sAs F rfl rfl rfl ?_;clear F a;intro a F
      refine sNil ?_
      refine hK22 _ _ ?_; clear hK22
      refine wp_ret ?_
      simp only [Exit.then]
      refine bRet Tryd.results5 F rfl ?_
      exact ⟨rfl, H.below⟩
     ·
      replace h92 := bneF h92
      exact absurd h92 hv
    ·
     replace h87 := beqF h87
     exact absurd rfl h87
   ·
    replace h80 := bneF h80
    have hv : rightErr q = 0 := by
     apply Decidable.byContradiction
     intro h
     rw [playEM, if_neg (fun hh => h hh.1)] at h80
     cases h80
    have hV := valid hv
    have hV4 := hV.thr4
    obtain ⟨r, zf, eF, eO, _, hruns, hz, hr0, hrz, hr96, hnu⟩ := play_runs hv hk Q
    have eE : startE q = 0 := if_pos hv
    have eS : startS q = startP q := if_pos hv
    simp only [eO, eF, eE, eS] at H F
    refine sMv F rfl rfl rfl ?_;clear F a;intro a F
    refine sBin F rfl rfl rfl rfl bNeq ?_;clear F a;intro a F
    refine sPk F rfl rfl rfl rfl ?_;clear F a;intro a F
    refine sNil ?_
    refine hK21 _ _ ?_; clear hK21
    refine cIf F rfl (fun h83 => ?_) (fun h83 => ?_)
    ·
     replace h83 := bneT h83
     exact absurd rfl h83
    ·
     replace h83 := bneF h83
     refine wp_skip ?_
     refine hK20 _ _ ?_; clear hK20
     refine cSeq (fun K23 hK23 => ?_)
     refine cReg ?_
     refine sFa (f := 3) (k := 3) Tryd.underlying29 rfl Tryd.sizeOf24 rfl rfl F rfl rfl rfl ?_;clear F a;intro a F
     refine sLd Tryd.isAgg24 F rfl rfl rfl (H.cell 5 rfl rfl) ?_;clear F a;intro a F
     refine sLen Tryd.underlying24 F rfl rfl rfl ?_;clear F a;intro a F
     refine sMk (z := .slice none 0 0) (bytes := 24) H Tryd.underlying70 (by kernel_rfl) rfl F rfl rfl rfl rfl (by omega) (by omega) ?_
     clear F a H; intro b98 a w F H
     refine sAs F rfl rfl rfl ?_;clear F a;intro a F
     refine sNil ?_
     refine hK23 _ _ ?_; clear hK23
     refine cSeq (fun K24 hK24 => ?_)
     refine cSeq (fun K25 hK25 => ?_)
     refine cReg ?_
     refine sMv F rfl rfl rfl ?_;clear F a;intro a F
     refine sLen Tryd.underlying44 F rfl rfl rfl ?_;clear F a;intro a F
     refine sMv F rfl rfl rfl ?_;clear F a;intro a F
     refine sNil ?_
     refine hK25 _ _ ?_; clear hK25
     refine wp_block ?_
     rw [hdL_rep] at H
     refine cLoopR [5, 10, 13, 15, 99, 100] (fun m ups w => ∃ (j : Nat) (s z : By) (hd : Nat → Value), m = r.length - j ∧ ups = [(101, .int .i64 ((j : Nat) : Int))] ∧ j ≤ r.length ∧ SimW q s z ∧ RunM q 2 s (r.drop j) zf ∧ Own w0 none w [.grid 5 q.threads.length hd (locsB s), .blk b98 (hdL q.threads.length hd) 23, .blk b13 (bs 142 z) 41, .blk b10 (bs 38 (finalP zf)) 64, .rws 50 3 (.slice A r.length c) (r.map Pss.cells), .grove S rows q.threads, .rws 59 1 (.slice A3 q.threads.length c3') rows, .blk b5 ([.string p.name, .slice LA p.locs.length LC, .slice IA p.init.length IC, .slice A3 q.threads.length c3', Go.Proofs.YtjephfjnohgcbaaDoor.b8 p.ask, Go.Proofs.YtjephfjnohgcbaaDoor.b8 c1, Go.Proofs.YtjephfjnohgcbaaDoor.b8 c2, Go.Proofs.YtjephfjnohgcbaaDoor.b8 c3, Go.Proofs.YtjephfjnohgcbaaDoor.b8 c4, .slice A9 m9 C9] : List Value) 29]) F (r.length) [(101, .int .i64 ((0 : Nat) : Int))] (by repeat (first | exact SubR.nil | (apply SubR.cons; · rfl))) ?_ ?_ ?_
     · exact ⟨0, startP q, startP q, fun _ => .slice none 0 0, rfl, rfl, by omega, weak_start hv, hruns, ((H.sel [0, 1, 3, 2, 4, 5, 6] rfl rfl).nilGrid 5 q.threads.length).regrid 0 rfl (fun t ht => locs_start hv (by omega))⟩
     · repeat (first | exact trivial | refine Le.cons rfl ?_)
     clear F
     clear H
     intro m ups a w hI F
     obtain ⟨j, s, z, hd, rfl, rfl, hj, hsim, hrest, H⟩ := hI
     refine cSeq (fun K26 hK26 => ?_)
     refine cReg ?_
     refine sBin F rfl rfl rfl rfl bLss ?_;clear F a;intro a F
     refine sNil ?_
     refine hK26 _ _ ?_; clear hK26
     refine cSeq (fun K27 hK27 => ?_)
     refine cIf F rfl (fun h102 => ?_) (fun h102 => ?_)
     ·
      replace h102 := of_decide_eq_true h102
      have hjl : j < r.length := by omega
      obtain ⟨x, hx⟩ : ∃ x, r[j]? = some x := ⟨_, List.getElem?_eq_getElem hjl⟩
      rw [drop_next hx] at hrest
      obtain ⟨hxm, hrest'⟩ := hrest.uncons
      obtain ⟨hm2, hsim2⟩ := weak_step hS hsim hxm
      have hxr : toPso s x ∈ movesR q 3 z := by rw [movesR_eq hsim.rz]; exact hm2
      have eS1 : moveSM q 3 z (toPso s x) = stepM q 3 z (toPso s x) := if_pos hxr
      have eE1 : moveEM q 3 z (toPso s x) = 0 := if_pos hxr
      have ht4 := moves_t4 hsim.r hxm
      have htq := moves_tl hsim.r hxm
      have hl12 : (locsB s x.t.toNat).length ≤ 12 := by rw [locs_len]; exact (hsim.r.many ht4).1
      obtain ⟨bL, oL, rfl, _⟩ := H.rowsAt 4 rfl (rowX _) (by decide) _ _ (by rw [List.getElem?_map, hx]; rfl)
      obtain ⟨A1, k1, hA1, hk1, _⟩ := H.lane 0 rfl htq
      have et : 0 + x.t.toNat * 1 = x.t.toNat := by omega
      refine wp_skip ?_
      refine hK27 _ _ ?_; clear hK27
      refine cSeq (fun K28 hK28 => ?_)
      refine wp_block ?_
      refine cSeq (fun K29 hK29 => ?_)
      refine cReg ?_
      refine sIx Tryd.underlying44 Tryd.sizeOf50 F rfl rfl rfl rfl ?_ ?_
      focus (first | omega | decide | (simp; omega))
      clear F a; intro a F
      refine sLr Tryd.underlying50 rfl ?si F rfl rfl rfl (by obtain ⟨b', o', h1, h2⟩ := H.rowsAt 4 rfl (rowX _) (by decide) _ _ (by rw [List.getElem?_map, hx]; rfl); cases h1; exact h2) ?_
      case si => exact info_size Tryd.sizeOf50
      clear F a; intro a F
      refine sAl H Tryd.zeroValue50 F rfl rfl ?_
      clear F a H; intro b17 a w F H
      refine sSr H 0 ?si F rfl rfl rfl ?s1 rfl rfl ?_
      case si => exact info_size Tryd.sizeOf50
      case s1 => first | rfl | (repeat (first | exact one_nil | (apply one_cons; · first | rfl | assumption | exact one_bif rfl rfl)))
      clear H; intro w H
      refine sNil ?_
      refine hK29 _ _ ?_; clear hK29
      refine cSeq (fun K30 hK30 => ?_)
      refine cReg ?_
      refine sFa (f := 0) (k := 0) Tryd.underlying50 rfl Tryd.sizeOf5 rfl rfl F rfl rfl rfl ?_;clear F a;intro a F
      refine sLd Tryd.isAgg5 F rfl rfl rfl (H.cell 0 rfl rfl) ?_;clear F a;intro a F
      refine sCv Tryd.underlying5 Tryd.underlying3 F rfl rfl rfl (wrapB _) ?_;clear F a;intro a F
      refine sAs F rfl rfl rfl ?_;clear F a;intro a F
      refine sNil ?_
      refine hK30 _ _ ?_; clear hK30
      refine cSeqJ [5, 10, 13, 15, 17, 99, 100, 101] (fun ups w => ∃ (hd2 : Nat → Value), ups = [] ∧ Own w0 none w [.grid 5 q.threads.length hd2 (locsB (stepM q 2 s x)), .blk b98 (hdL q.threads.length hd2) 23, .blk b17 (toPso s x).cells 50, .blk b13 (bs 142 z) 41, .blk b10 (bs 38 (finalP zf)) 64, .rws 50 3 (.slice (some ⟨bL, oL, none⟩) r.length c) (r.map Pss.cells), .grove S rows q.threads, .rws 59 1 (.slice A3 q.threads.length c3') rows, .blk b5 ([.string p.name, .slice LA p.locs.length LC, .slice IA p.init.length IC, .slice A3 q.threads.length c3', Go.Proofs.YtjephfjnohgcbaaDoor.b8 p.ask, Go.Proofs.YtjephfjnohgcbaaDoor.b8 c1, Go.Proofs.YtjephfjnohgcbaaDoor.b8 c2, Go.Proofs.YtjephfjnohgcbaaDoor.b8 c3, Go.Proofs.YtjephfjnohgcbaaDoor.b8 c4, .slice A9 m9 C9] : List Value) 29]) F (by repeat (first | exact SubR.nil | (apply SubR.cons; · rfl))) ?_ ?_
      ·
       refine wp_block ?_
       refine cSeq (fun K31 hK31 => ?_)
       refine cReg ?_
       refine sFa (f := 1) (k := 1) Tryd.underlying50 rfl Tryd.sizeOf4 rfl rfl F rfl rfl rfl ?_;clear F a;intro a F
       refine sLd Tryd.isAgg4 F rfl rfl rfl (H.cell 0 rfl rfl) ?_;clear F a;intro a F
       refine sAs F rfl rfl rfl ?_;clear F a;intro a F
       refine sNil ?_
       refine hK31 _ _ ?_; clear hK31
       refine cIf F rfl (fun h108 => ?_) (fun h108 => ?_)
       ·
        obtain ⟨y, ys, hy, hP, hls⟩ := weak_drain hsim.r hxm h108
        rw [hP] at hsim2 hxr eS1 eE1
        obtain ⟨bA, oA, rfl, hcell⟩ := H.laneAt 1 rfl htq hA1 0 [Go.Proofs.YtjephfjnohgcbaaDoor.b8 y] (by rw [hy]; rfl)
        have hn1 : (locsB s x.t.toNat).length = ys.length + 1 := by rw [hy]; rfl
        refine cSeq (fun K32 hK32 => ?_)
        refine cSeq (fun K33 hK33 => ?_)
        refine cReg ?_
        refine sMv F rfl rfl rfl ?_;clear F a;intro a F
        refine sMv F rfl rfl rfl ?_;clear F a;intro a F
        refine sIx Tryd.underlying70 Tryd.sizeOf23 F rfl rfl rfl rfl ?_ ?_
        focus (first | omega | decide | (simp; omega))
        clear F a; intro a F
        refine sLd Tryd.isAgg23 F rfl rfl rfl (by simpa [hA1] using H.cell 2 rfl (hdL_at (hd := hd) htq)) ?_;clear F a;intro a F
        refine sLen Tryd.underlying23 F rfl rfl rfl ?_;clear F a;intro a F
        refine sBin F rfl rfl rfl rfl bEql ?_;clear F a;intro a F
        refine sNil ?_
        refine hK33 _ _ ?_; clear hK33
        refine cIf F rfl (fun h116 => ?_) (fun h116 => ?_)
        ·
         replace h116 := beqT h116
         omega
        ·
         replace h116 := beqF h116
         refine wp_skip ?_
         refine hK32 _ _ ?_; clear hK32
         refine cSeq (fun K34 hK34 => ?_)
         refine cReg ?_
         refine sMv F rfl rfl rfl ?_;clear F a;intro a F
         refine sMv F rfl rfl rfl ?_;clear F a;intro a F
         refine sIx Tryd.underlying70 Tryd.sizeOf23 F rfl rfl rfl rfl ?_ ?_
         focus (first | omega | decide | (simp; omega))
         clear F a; intro a F
         refine sLd Tryd.isAgg23 F rfl rfl rfl (by simpa [hA1] using H.cell 2 rfl (hdL_at (hd := hd) htq)) ?_;clear F a;intro a F
         refine sIx (j := 0) Tryd.underlying23 Tryd.sizeOf5 F rfl rfl rfl rfl ?_ ?_
         focus omega
         clear F a; intro a F
         refine sLd Tryd.isAgg5 F rfl rfl rfl (by simpa using hcell 0 _ rfl) ?_;clear F a;intro a F
         refine sFa (f := 2) (k := 2) Tryd.underlying50 rfl Tryd.sizeOf5 rfl rfl F rfl rfl rfl ?_;clear F a;intro a F
         refine sSt H 0 Tryd.sizeOf5 F rfl rfl rfl rfl rfl rfl ?_
         clear H; intro w H
         refine sNil ?_
         refine hK34 _ _ ?_; clear hK34
         refine cReg ?_
         refine sMv F rfl rfl rfl ?_;clear F a;intro a F
         refine sMv F rfl rfl rfl ?_;clear F a;intro a F
         refine sMv F rfl rfl rfl ?_;clear F a;intro a F
         refine sMv F rfl rfl rfl ?_;clear F a;intro a F
         refine sIx Tryd.underlying70 Tryd.sizeOf23 F rfl rfl rfl rfl ?_ ?_
         focus (first | omega | decide | (simp; omega))
         clear F a; intro a F
         refine sLd Tryd.isAgg23 F rfl rfl rfl (by simpa [hA1] using H.cell 2 rfl (hdL_at (hd := hd) htq)) ?_;clear F a;intro a F
         refine sSlF (i := 1) Tryd.underlying23 Tryd.sizeOf5 F rfl rfl rfl rfl ?_ ?_
         focus omega
         clear F a; intro a F
         refine sIx Tryd.underlying70 Tryd.sizeOf23 F rfl rfl rfl rfl ?_ ?_
         focus (first | omega | decide | (simp; omega))
         clear F a; intro a F
         refine sSt H 2 Tryd.sizeOf23 F rfl rfl rfl rfl rfl (by rw [et]; exact hdL_at htq) ?_
         clear H; intro w H
         rw [et, hdL_set _ htq] at H
         replace H := H.laneFrom 1 rfl htq hA1 (k := 1) (by omega)
         refine sNil ?_
         first
         | (have e : toPso s x = ⟨x.t, x.d, y⟩ := by rw [hP, h108]
            rw [e]
            refine ⟨_, ⟨_, rfl, (H.regrid 1 rfl (fun u hu => ?_)).sel [1, 2, 0, 3, 4, 5, 6, 7, 8] rfl rfl⟩, F.to (by repeat (first | exact trivial | refine Le.cons rfl ?_))⟩
            rw [hls u (by omega)]
            by_cases e2 : u = x.t.toNat
            · subst e2; rw [if_pos rfl, setF_at, hy]; rfl
            · rw [if_neg e2, setF_ne _ _ e2])
         | (rw [hP]
            refine ⟨_, ⟨_, rfl, (H.regrid 1 rfl (fun u hu => ?_)).sel [1, 2, 0, 3, 4, 5, 6, 7, 8] rfl rfl⟩, F.to (by repeat (first | exact trivial | refine Le.cons rfl ?_))⟩
            rw [hls u (by omega)]
            by_cases e2 : u = x.t.toNat
            · subst e2; rw [if_pos ⟨rfl, hop⟩, setF_at]
            · rw [if_neg (fun hh => e2 hh.1), setF_ne _ _ e2])
         | (rw [hP]
            refine ⟨_, ⟨_, rfl, (H.regrid 1 rfl (fun u hu => ?_)).sel [1, 2, 0, 3, 4, 5, 6, 7, 8] rfl rfl⟩, F.to (by repeat (first | exact trivial | refine Le.cons rfl ?_))⟩
            rw [hls u (by omega), if_neg]
            rintro ⟨_, h2⟩
            rw [hst, h2] at h132
            cases h132)
       ·
        obtain ⟨hP, l, i, hl, hli, hst, hls⟩ := weak_store hsim hxm h108
        rw [hP] at hsim2 hxr eS1 eE1
        refine cSeq (fun K35 hK35 => ?_)
        refine cReg ?_
        refine sLr Tryd.underlying29 rfl ?si F rfl rfl rfl (H.whole 8 rfl) ?_
        case si => exact info_size Tryd.sizeOf29
        clear F a; intro a F
        refine sLrB Tryd.underlying41 rfl Tryd.sizeOf41 F rfl rfl rfl (H.whole 3 rfl) ?_;clear F a;intro a F
        refine sMv F rfl rfl rfl ?_;clear F a;intro a F
        refine sCall Tryd.call14 F rfl rfl rfl (store14_any _ q _ (hpq H 7 6 rfl rfl) z x.t.toNat ht4) ?_
        rintro e w ⟨rfl, hb⟩
        replace H := H.grow hb; clear hb
        refine ⟨_, rfl, ?_⟩
        clear F a; intro a F
        refine sAs F rfl rfl rfl ?_;clear F a;intro a F
        refine sNil ?_
        refine hK35 _ _ ?_; clear hK35
        refine cIf F rfl (fun h132 => ?_) (fun h132 => ?_)
        ·
         have hop : i.op = 2 := by rw [hst] at h132; exact eq_of_beq h132
         obtain ⟨bI, oI, CI, hrow⟩ := H.groveRow 6 rfl hrl hl hli
         obtain ⟨bH, oH, rfl, _⟩ := H.rowsAt 7 rfl hr1 (by decide) _ _ hrow
         have hil := (List.getElem?_eq_some_iff.1 hli).1
         refine cRegRO (by kernel_rfl) H ?_
         replace H := H.drew
         refine eTakeF (k := 0) (i := 0) rfl (by kernel_rfl) F rfl rfl rfl (fun w => rMv F rfl) (H.sel [0, 1, 2, 3, 4, 5, 6, 7, 8] rfl rfl) (fun _ _ _ h => h) ?_;clear F a;intro a F
         refine eTakeF (k := 1) (i := 1) rfl (by kernel_rfl) F rfl rfl rfl (fun w => rMv F rfl) (H.sel [0, 1, 2, 3, 4, 5, 6, 7, 8] rfl rfl) (fun _ _ _ h => h) ?_;clear F a;intro a F
         refine eTakeF (k := 2) (i := 2) rfl (by kernel_rfl) F rfl rfl rfl (fun w => rMv F rfl) (H.sel [0, 1, 2, 3, 4, 5, 6, 7, 8] rfl rfl) (fun _ _ _ h => h) ?_;clear F a;intro a F
         refine eTakeF (k := 3) (i := 3) rfl (by kernel_rfl) F rfl rfl rfl (fun w => rMv F rfl) (H.sel [0, 1, 2, 3, 4, 5, 6, 7, 8] rfl rfl) (fun _ _ _ h => h) ?_;clear F a;intro a F
         refine eTakeF (k := 4) (i := 4) rfl (by kernel_rfl) F rfl rfl rfl (fun w => rIx Tryd.underlying70 Tryd.sizeOf23 F rfl rfl ?_) (H.sel [0, 1, 2, 3, 4, 5, 6, 7, 8] rfl rfl) (fun _ _ _ h => h) ?_
         focus (first | omega | decide | (simp; omega))
         clear F a; intro a F
         refine eTake (k := 5) (i := 5) rfl (by kernel_rfl) F rfl rfl rfl rfl (fun w H => rLd Tryd.isAgg23 F rfl (by simpa [hA1] using H.cell 2 rfl (hdL_at (hd := hd) htq))) (H.sel [0, 1, 2, 3, 4, 5, 6, 7, 8] rfl rfl) (fun _ _ _ h => h) ?_;clear F a;intro a F
         refine eTakeF (k := 6) (i := 6) rfl (by kernel_rfl) F rfl rfl rfl (fun w => rFa (f := 3) (k := 3) Tryd.underlying29 rfl Tryd.sizeOf24 rfl rfl F rfl) (H.sel [0, 1, 2, 3, 4, 5, 6, 7, 8] rfl rfl) (fun _ _ _ h => h) ?_;clear F a;intro a F
         refine eTake (k := 7) (i := 7) rfl (by kernel_rfl) F rfl rfl rfl rfl (fun w H => rLd Tryd.isAgg24 F rfl (H.cell 8 rfl rfl)) (H.sel [0, 1, 2, 3, 4, 5, 6, 7, 8] rfl rfl) (fun _ _ _ h => h) ?_;clear F a;intro a F
         refine eTakeF (k := 8) (i := 8) rfl (by kernel_rfl) F rfl rfl rfl (fun w => rMv F rfl) (H.sel [0, 1, 2, 3, 4, 5, 6, 7, 8] rfl rfl) (fun _ _ _ h => h) ?_;clear F a;intro a F
         refine eTakeF (k := 9) (i := 9) rfl (by kernel_rfl) F rfl rfl rfl (fun w => rIx Tryd.underlying24 Tryd.sizeOf59 F rfl rfl ?_) (H.sel [0, 1, 2, 3, 4, 5, 6, 7, 8] rfl rfl) (fun _ _ _ h => h) ?_
         focus (first | omega | decide | (simp; omega))
         clear F a; intro a F
         refine eTake (k := 10) (i := 10) rfl (by kernel_rfl) F rfl rfl rfl rfl (fun w H => rLd Tryd.isAgg59 F rfl (by obtain ⟨b', o', h1, h2⟩ := H.rowsAt 7 rfl hr1 (by decide) _ _ hrow; cases h1; simpa using h2 0 _ rfl)) (H.sel [0, 1, 2, 3, 4, 5, 6, 7, 8] rfl rfl) (fun _ _ _ h => h) ?_;clear F a;intro a F
         refine eTakeF (k := 11) (i := 11) rfl (by kernel_rfl) F rfl rfl rfl (fun w => rMv F rfl) (H.sel [0, 1, 2, 3, 4, 5, 6, 7, 8] rfl rfl) (fun _ _ _ h => h) ?_;clear F a;intro a F
         refine eTakeF (k := 12) (i := 12) rfl (by kernel_rfl) F rfl rfl rfl (fun w => rFa (f := 0) (k := 0) Tryd.underlying41 rfl Tryd.sizeOf33 rfl rfl F rfl) (H.sel [0, 1, 2, 3, 4, 5, 6, 7, 8] rfl rfl) (fun _ _ _ h => h) ?_;clear F a;intro a F
         refine eTakeF (k := 13) (i := 13) rfl (by kernel_rfl) F rfl rfl rfl (fun w => rIaZ Tryd.underlying33 Tryd.sizeOf32 F rfl rfl ?_) (H.sel [0, 1, 2, 3, 4, 5, 6, 7, 8] rfl rfl) (fun _ _ _ h => h) ?_
         focus (first | omega | decide | (simp; omega))
         clear F a; intro a F
         refine eTakeF (k := 14) (i := 14) rfl (by kernel_rfl) F rfl rfl rfl (fun w => rFaZ (f := 0) Tryd.underlying32 rfl Tryd.sizeOf5 rfl rfl F rfl) (H.sel [0, 1, 2, 3, 4, 5, 6, 7, 8] rfl rfl) (fun _ _ _ h => h) ?_;clear F a;intro a F
         refine eTake (k := 15) (i := 15) rfl (by kernel_rfl) F rfl rfl rfl rfl (fun w H => rLd Tryd.isAgg5 F rfl (H.cellB 3 rfl (by omega))) (H.sel [0, 1, 2, 3, 4, 5, 6, 7, 8] rfl rfl) (fun _ _ _ h => h) ?_;clear F a;intro a F
         refine eTakeF (k := 16) (i := 16) rfl (by kernel_rfl) F rfl rfl rfl (fun w => rIx Tryd.underlying59 Tryd.sizeOf58 F rfl rfl ?_) (H.sel [0, 1, 2, 3, 4, 5, 6, 7, 8] rfl rfl) (fun _ _ _ h => h) ?_
         focus exact hil
         clear F a; intro a F
         refine eTakeF (k := 17) (i := 17) rfl (by kernel_rfl) F rfl rfl rfl (fun w => rFa (f := 2) Tryd.underlying58 rfl Tryd.sizeOf5 rfl rfl F rfl) (H.sel [0, 1, 2, 3, 4, 5, 6, 7, 8] rfl rfl) (fun _ _ _ h => h) ?_;clear F a;intro a F
         refine eTake (k := 18) (i := 18) rfl (by kernel_rfl) F rfl rfl rfl rfl (fun w H => rLd Tryd.isAgg5 F rfl (by simpa using H.groveCell 6 rfl hl hrow hli (f := 2) rfl)) (H.sel [0, 1, 2, 3, 4, 5, 6, 7, 8] rfl rfl) (fun _ _ _ h => h) ?_;clear F a;intro a F
         refine eOne (k := 19) (i := 19) rfl (by kernel_rfl) F rfl (oBs1 H Tryd.underlying23 Tryd.sizeOf5 Tryd.zeroValue5 rfl F rfl rfl rfl ?_)
         clear F a H; intro b156 a w F H
         refine eKeep (H.sel [1, 2, 3, 4, 5, 6, 7, 8, 9] rfl rfl) ?_
         refine eOne (k := 20) (i := 20) rfl (by kernel_rfl) F rfl (oLane (t := x.t.toNat) H 2 Tryd.underlying23 Tryd.typeInfo5 rfl rfl rfl rfl F rfl rfl rfl rfl (by omega) (hA1) ((by simpa using H.cell 0 rfl rfl)) (by omega) ?_)
         clear F a H; intro A157 c157 a w F H
         refine ePartO (by kernel_rfl) H ?_
         refine eTakeF (k := 21) (i := 21) rfl (by kernel_rfl) F rfl rfl rfl (fun w => rIx Tryd.underlying70 Tryd.sizeOf23 F rfl rfl ?_) (H.sel [0, 1, 2, 3, 4, 5, 6, 7, 8, 9] rfl rfl) (fun _ _ _ h => h) ?_
         focus (first | omega | decide | (simp; omega))
         clear F a; intro a F
         refine eOne (k := 22) (i := 22) rfl (by kernel_rfl) F rfl (oSt H 3 Tryd.sizeOf23 F rfl rfl rfl rfl (by rw [et]; exact hdL_at htq) ?_)
         clear H; intro w H
         rw [et, hdL_set _ htq] at H
         refine ePartO (by kernel_rfl) H ?_
         refine eNil (k := 23) (by kernel_rfl) ?_
         first
         | (have e : toPso s x = ⟨x.t, x.d, y⟩ := by rw [hP, h108]
            rw [e]
            refine ⟨_, ⟨_, rfl, (H.regrid 2 rfl (fun u hu => ?_)).sel [2, 3, 1, 4, 5, 6, 7, 8, 9] rfl rfl⟩, F.to (by repeat (first | exact trivial | refine Le.cons rfl ?_))⟩
            rw [hls u (by omega)]
            by_cases e2 : u = x.t.toNat
            · subst e2; rw [if_pos rfl, setF_at, hy]; rfl
            · rw [if_neg e2, setF_ne _ _ e2])
         | (rw [hP]
            refine ⟨_, ⟨_, rfl, (H.regrid 2 rfl (fun u hu => ?_)).sel [2, 3, 1, 4, 5, 6, 7, 8, 9] rfl rfl⟩, F.to (by repeat (first | exact trivial | refine Le.cons rfl ?_))⟩
            rw [hls u (by omega)]
            by_cases e2 : u = x.t.toNat
            · subst e2; rw [if_pos ⟨rfl, hop⟩, setF_at]
            · rw [if_neg (fun hh => e2 hh.1), setF_ne _ _ e2])
         | (rw [hP]
            refine ⟨_, ⟨_, rfl, (H.regrid 2 rfl (fun u hu => ?_)).sel [2, 3, 1, 4, 5, 6, 7, 8, 9] rfl rfl⟩, F.to (by repeat (first | exact trivial | refine Le.cons rfl ?_))⟩
            rw [hls u (by omega), if_neg]
            rintro ⟨_, h2⟩
            rw [hst, h2] at h132
            cases h132)
        ·
         refine wp_skip ?_
         first
         | (have e : toPso s x = ⟨x.t, x.d, y⟩ := by rw [hP, h108]
            rw [e]
            refine ⟨_, ⟨_, rfl, (H.regrid 1 rfl (fun u hu => ?_)).sel [1, 2, 0, 3, 4, 5, 6, 7, 8] rfl rfl⟩, F.to (by repeat (first | exact trivial | refine Le.cons rfl ?_))⟩
            rw [hls u (by omega)]
            by_cases e2 : u = x.t.toNat
            · subst e2; rw [if_pos rfl, setF_at, hy]; rfl
            · rw [if_neg e2, setF_ne _ _ e2])
         | (rw [hP]
            refine ⟨_, ⟨_, rfl, (H.regrid 1 rfl (fun u hu => ?_)).sel [1, 2, 0, 3, 4, 5, 6, 7, 8] rfl rfl⟩, F.to (by repeat (first | exact trivial | refine Le.cons rfl ?_))⟩
            rw [hls u (by omega)]
            by_cases e2 : u = x.t.toNat
            · subst e2; rw [if_pos ⟨rfl, hop⟩, setF_at]
            · rw [if_neg (fun hh => e2 hh.1), setF_ne _ _ e2])
         | (rw [hP]
            refine ⟨_, ⟨_, rfl, (H.regrid 1 rfl (fun u hu => ?_)).sel [1, 2, 0, 3, 4, 5, 6, 7, 8] rfl rfl⟩, F.to (by repeat (first | exact trivial | refine Le.cons rfl ?_))⟩
            rw [hls u (by omega), if_neg]
            rintro ⟨_, h2⟩
            rw [hst, h2] at h132
            cases h132)
      clear F H
      intro ups a w hI F
      obtain ⟨hd2, rfl, H⟩ := hI
      refine cSeq (fun K36 hK36 => ?_)
      refine cReg ?_
      refine sLr Tryd.underlying29 rfl ?si F rfl rfl rfl (H.whole 8 rfl) ?_
      case si => exact info_size Tryd.sizeOf29
      clear F a; intro a F
      refine sLrB Tryd.underlying41 rfl Tryd.sizeOf41 F rfl rfl rfl (H.whole 3 rfl) ?_;clear F a;intro a F
      refine sLr Tryd.underlying50 rfl ?si F rfl rfl rfl (H.whole 2 rfl) ?_
      case si => exact info_size Tryd.sizeOf50
      clear F a; intro a F
      refine sCall Tryd.call13 F rfl rfl rfl (moveM_any _ q _ (hpq H 7 6 rfl rfl) (hN.own H) 3 z (toPso s x)) ?_
      rintro e w ⟨rfl, hb⟩
      replace H := H.grow hb; clear hb
      refine ⟨_, rfl, ?_⟩
      clear F a; intro a F
      refine sMv F rfl rfl rfl ?_;clear F a;intro a F
      refine sExt F rfl rfl rfl rfl ?_;clear F a;intro a F
      refine sExt F rfl rfl rfl rfl ?_;clear F a;intro a F
      refine sSrB H 3 Tryd.sizeOf41 F rfl rfl rfl rfl (by omega) ?_
      clear H; intro w H
      rw [lay_all] at H
      refine sAs F rfl rfl rfl ?_;clear F a;intro a F
      refine sNil ?_
      refine hK36 _ _ ?_; clear hK36
      refine cSeq (fun K37 hK37 => ?_)
      refine cReg ?_
      refine sMv F rfl rfl rfl ?_;clear F a;intro a F
      refine sBin F rfl rfl rfl rfl bNeq ?_;clear F a;intro a F
      refine sNil ?_
      refine hK37 _ _ ?_; clear hK37
      refine cIf F rfl (fun h167 => ?_) (fun h167 => ?_)
      ·
       replace h167 := bneT h167
       exact absurd eE1 h167
      ·
       replace h167 := bneF h167
       rw [eS1] at H
       refine wp_skip ?_
       refine hK28 _ _ ?_; clear hK28
       refine cReg ?_
       refine sBin F rfl rfl rfl rfl (bAddN (j := 1) ?_) ?_
       focus omega
       clear F a; intro a F
       refine sMv F rfl rfl rfl ?_;clear F a;intro a F
       refine sNil ?_
       exact ⟨_, by omega, _, ⟨j + 1, stepM q 2 s x, stepM q 3 z (toPso s x), hd2, rfl, rfl, by omega, hsim2, hrest', H.sel [0, 1, 3, 4, 5, 6, 7, 8] rfl rfl⟩, F.to (by repeat (first | exact trivial | refine Le.cons rfl ?_))⟩
     ·
      replace h102 := of_decide_eq_false h102
      obtain rfl : j = r.length := by omega
      rw [List.drop_length] at hrest
      obtain rfl := hrest.nil
      obtain ⟨hez, hfin⟩ := weak_end hsim hz
      have hO : (rightM q 3 z && (movesM q 3 z).length == 0) = true := by rw [rightM_iff.2 hsim.rz, hez]; rfl
      refine wp_exit ?_
      refine hK24 _ _ ?_; clear hK24
      refine cSeq (fun K38 hK38 => ?_)
      refine cRegRO (by kernel_rfl) H ?_
      replace H := H.drew
      refine eTake (k := 0) (i := 0) rfl (by kernel_rfl) F rfl rfl rfl rfl (fun w H => rLr Tryd.underlying29 rfl ?si F rfl (H.whole 7 rfl)) (H.sel [0, 1, 2, 3, 4, 5, 6, 7] rfl rfl) (fun _ _ _ h => h) ?_
      case si => exact info_size Tryd.sizeOf29
      clear F a; intro a F
      refine eTake (k := 1) (i := 1) rfl (by kernel_rfl) F rfl rfl rfl rfl (fun w H => rLrB Tryd.underlying41 rfl Tryd.sizeOf41 F rfl (H.whole 2 rfl)) (H.sel [0, 1, 2, 3, 4, 5, 6, 7] rfl rfl) (fun _ _ _ h => h) ?_;clear F a;intro a F
      refine eOne (k := 2) (i := 2) rfl (by kernel_rfl) F rfl (oCall Tryd.call19 F rfl rfl (overM_any _ q _ (hpq H 6 5 rfl rfl) (hN.own H) 3 z) ?_)
      rintro e w ⟨rfl, hb⟩
      replace H := H.grow hb; clear hb
      refine ⟨_, rfl, ?_⟩
      clear F a; intro a F
      refine ePartO (by kernel_rfl) H ?_
      refine eTakeF (k := 3) (i := 3) rfl (by kernel_rfl) F rfl rfl rfl (fun w => rMv F rfl) (H.sel [0, 1, 2, 3, 4, 5, 6, 7] rfl rfl) (fun _ _ _ h => h) ?_;clear F a;intro a F
      refine F.split 172 rfl ?_ ?_ <;> (clear F; intro h172 F)
      ·
       refine eTake (k := 4) (i := 4) rfl (by kernel_rfl) F rfl rfl rfl rfl (fun w H => rLrB Tryd.underlying41 rfl Tryd.sizeOf41 F rfl (H.whole 2 rfl)) (H.sel [0, 1, 2, 3, 4, 5, 6, 7] rfl rfl) (fun _ _ _ h => h) ?_;clear F a;intro a F
       refine eTake (k := 5) (i := 6) rfl (by kernel_rfl) F rfl rfl rfl rfl (fun w H => rLrB Tryd.underlying64 rfl Tryd.sizeOf64 F rfl (H.whole 3 rfl)) (H.sel [0, 1, 2, 3, 4, 5, 6, 7] rfl rfl) (fun _ _ _ h => h) ?_;clear F a;intro a F
       refine eOne (k := 6) (i := 5) rfl (by kernel_rfl) F rfl (oCall Tryd.call20 F rfl rfl (final_any z _) ?_)
       rintro e w ⟨rfl, hb⟩
       replace H := H.grow hb; clear hb
       refine ⟨_, rfl, ?_⟩
       clear F a; intro a F
       refine eKeep (H.sel [0, 1, 2, 3, 4, 5, 6, 7] rfl rfl) ?_
       refine eTakeF (k := 7) (i := 7) rfl (by kernel_rfl) F rfl rfl rfl (fun w => rBin F rfl rfl (bEqY eT64 gT64 rfl)) (H.sel [0, 1, 2, 3, 4, 5, 6, 7] rfl rfl) (fun _ _ _ h => h) ?_;clear F a;intro a F
       refine eTakeF (k := 8) (i := 8) rfl (by kernel_rfl) F rfl rfl rfl (fun w => rPk F rfl rfl) (H.sel [0, 1, 2, 3, 4, 5, 6, 7] rfl rfl) (fun _ _ _ h => h) ?_;clear F a;intro a F
       refine eTakeF (k := 9) (i := 9) rfl (by kernel_rfl) F rfl rfl rfl (fun w => rMv F rfl) (H.sel [0, 1, 2, 3, 4, 5, 6, 7] rfl rfl) (fun _ _ _ h => h) ?_;clear F a;intro a F
       refine F.split 178 rfl ?_ ?_ <;> (clear F; intro h178 F)
       ·
        refine eOne (k := 10) (i := 10) rfl (by kernel_rfl) F rfl (oCall Tryd.call12 F rfl rfl (awake14_any _ (hN.own H)) ?_)
        rintro e w ⟨rfl, hb⟩
        replace H := H.grow hb; clear hb
        refine ⟨_, rfl, ?_⟩
        clear F a; intro a F
        refine ePartO (by kernel_rfl) H ?_
        refine eTakeF (k := 11) (i := 11) rfl (by kernel_rfl) F rfl rfl rfl (fun w => rPk F rfl rfl) (H.sel [0, 1, 2, 3, 4, 5, 6, 7] rfl rfl) (fun _ _ _ h => h) ?_;clear F a;intro a F
        refine eTakeF (k := 12) (i := 12) rfl (by kernel_rfl) F rfl rfl rfl (fun w => rAs F rfl) (H.sel [0, 1, 2, 3, 4, 5, 6, 7] rfl rfl) (fun _ _ _ h => h) ?_;clear F a;intro a F
        refine eNil (k := 13) (by kernel_rfl) ?_
        refine hK38 _ _ ?_; clear hK38
        refine wp_ret ?_
        refine bRet Tryd.results5 F rfl ?_
        exact ⟨rfl, H.below⟩
       ·
        exact notEq hfin h178
      ·
       exact notEq hO h172
end Go.Proofs.YtjephfjnohgcbaaDoor
