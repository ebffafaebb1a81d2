/-
  WALK2. A slice of bytes of the function's own: its tail is cleared; slices.Compact, slices.Clone at bytes. Conditions: the slice is the caller's own.
-/
import Derived.Test.YtklpiodciblabaaGreatDoorSoK
set_option linter.unusedSimpArgs false
set_option linter.unusedVariables false
namespace Go.Proofs.YtklpiodciblabaaGreatDoor
open Go.Proofs.Tryz
open Go.RowKit
set_option maxRecDepth 100000
theorem zeroCells_size (z : Array Value) (n : Nat) : (Builtin.zeroCells z n).size = n * z.size := by simp [Builtin.zeroCells]
theorem rwsBlk {w0 w : World} {row : Option Nat} {rs : List Res} {e : TypeId} {sz n c g : Nat} {rows : List (List Value)} (H : Own w0 row w rs) (i : Nat) (hi : rs[i]? = some (.rws e sz (.slice (some ⟨g, 0, none⟩) n c) rows)) :
    ∃ cur : List Value, n = rows.length ∧ n ≤ c ∧ c ≤ maxLen ∧ cur.length = c * sz ∧ cur.take (n * sz) = rows.flatten ∧ rows.flatten.length = n * sz ∧ Own w0 row w (rs.set i (.blk g cur e)) := by
  have h : w.ownsRow 0 e sz (.slice (some ⟨g, 0, none⟩) n c) rows.length rows.flatten := H.pred i _ hi
  have hf := H.foot i _ hi g rfl
  obtain ⟨h0, ⟨h1, _⟩ | ⟨g', cap, cur, h1, _, h2, h3, h4, h5, h6⟩⟩ := h
  · cases h1
  · obtain ⟨⟨rfl⟩, hn, rfl⟩ : (g = g') ∧ n = rows.length ∧ c = cap := by
      simp only [Value.slice.injEq, Option.some.injEq, Addr.mk.injEq] at h1
      exact ⟨h1.1.1, h1.2.1, h1.2.2⟩
    subst hn
    refine ⟨cur.toList, rfl, h3, h4, by simpa using h5, h6, h0, H.turn i hi _ H.grown (Nat.le_refl _) (fun _ _ _ => rfl) (by show Blk w g cur.toList e; unfold Blk; simpa using h2) (fun b hb => ?_)⟩
    have hb : b = g := hb
    subst hb
    exact ⟨.inl rfl, hf.2⟩
theorem blkRws {w0 w : World} {row : Option Nat} {rs : List Res} {e : TypeId} {sz n c g : Nat} {cur : List Value} {rows : List (List Value)} (H : Own w0 row w rs) (i : Nat) (hi : rs[i]? = some (.blk g cur e)) (hn : n = rows.length) (hc : n ≤ c) (hm : c ≤ maxLen) (hl : cur.length = c * sz) (ht : cur.take (n * sz) = rows.flatten) (hf : rows.flatten.length = n * sz) :
    Own w0 row w (rs.set i (.rws e sz (.slice (some ⟨g, 0, none⟩) n c) rows)) := by
  have hB := H.blk i hi
  subst hn;refine H.turn i hi _ H.grown (Nat.le_refl _) (fun _ _ _ => rfl) ⟨hf, .inr ⟨g, c, cur.toArray, rfl, Nat.zero_le _, hB, hc, hm, by simpa using hl, by simpa using ht⟩⟩ (fun b hb => ?_)
  have hb : Value.ownBlock (.slice (some ⟨g, 0, none⟩) rows.length c) = some b := hb
  simp only [Value.ownBlock, Option.some.injEq] at hb
  subst hb
  exact ⟨.inl rfl, (H.foot i _ hi g rfl).2⟩
theorem splice_len : ∀ (vs cs : List Value) (o : Nat), (splice cs o vs).length = cs.length
  | [], _, _ => rfl
  | v :: r, cs, o => by rw [splice, splice_len r, List.length_set]
theorem splice_low : ∀ (vs cs : List Value) (o m : Nat), m ≤ o → (splice cs o vs).take m = cs.take m
  | [], _, _, _, _ => rfl
  | v :: r, cs, o, m, h => by
    rw [splice, splice_low r _ _ _ (by omega), List.take_set]
    exact List.set_eq_of_length_le (by rw [List.length_take]; omega)
theorem take_flat {sz : Nat} : ∀ (rows : List (List Value)), (∀ r ∈ rows, r.length = sz) → ∀ k, k ≤ rows.length → (rows.take k).flatten = rows.flatten.take (k * sz)
  | [], _, k, hk => by
    have : k = 0 := by simpa using hk
    subst this; simp
  | r0 :: rest, hr, 0, _ => by simp
  | r0 :: rest, hr, k + 1, hk => by
    have h0 : r0.length = sz := hr r0 (by simp)
    rw [List.take_succ_cons, List.flatten_cons, List.flatten_cons, take_flat rest (fun r hm => hr r (by simp [hm])) k (by simpa using hk), List.take_append, List.take_of_length_le (l := r0) (by rw [h0, Nat.add_mul]; omega), h0]
    congr 2
    rw [Nat.add_mul]; omega
section
variable {P : Program} {l : List Oper} {Q : Exit → Act → World → Prop} {N : Nat} {a : Act} {env : List (Nat × Value)} {rest : List Oper} {d : Tmp} {ty : TypeId} {pos : String} {af : Array Edge} {g : Option (Nat × Bool)} {w0 w : World} {row : Option Nat} {rs : List Res}
theorem stepN {o : Oper} {v : Value} {w' : World} (F : Has N a env) (hg : wants l env o.guard = true) (hd : o.dst = none)
    (hr : (execOp a.eval o).run P w = .ok (.value v) w') (K : wpList P l.toArray Q rest a w') : wpList P l.toArray Q (o :: rest) a w := by
  unfold wpList
  rw [if_pos (wanted_of F hg)];refine .inl ?_
  unfold Oper.wp
  rw [hr, Oper.upon_value, hd]
  exact K
theorem sClrG {t e : TypeId} {x : Operand} {z : Array Value} {sz n c gb o k m c' : Nat} {rows : List (List Value)} (H : Own w0 row w rs) (i : Nat) (ht : P.underlying t = some (.slice e)) (hz : ∀ w, (zeroValue e).run P w = .ok (.int .u8 0) w) (hzc : z = #[.int .u8 0]) (hzs : z.size = sz) (hz1 : z.toList.all (·.oneCell') = true) (F : Has N a env) (hg : wants l env g = true)
    (hx : ev env x = some (.slice (some ⟨gb, o, none⟩) m c')) (hi : rs[i]? = some (.rws e sz (.slice (some ⟨gb, 0, none⟩) n c) rows)) (ho : o = k * sz) (hm : k + m = n) (hr : ∀ r ∈ rows, r.length = sz)
    (K : ∀ w, Own w0 row w (rs.set i (.rws e sz (.slice (some ⟨gb, 0, none⟩) k c) (rows.take k))) → wpList P l.toArray Q rest a w) : wpList P l.toArray Q (⟨none, .call ⟨.builtin .clear, #[x], #[t]⟩, ty, pos, af, g⟩ :: rest) a w := by
  subst ho
  obtain ⟨cur, hn, hnc, hmx, hl, htk, hf, H2⟩ := rwsBlk H i hi
  have hi2 : (rs.set i (.blk gb cur e))[i]? = some (.blk gb cur e) := by
    rw [List.getElem?_set, if_pos rfl, if_pos (List.getElem?_eq_some_iff.1 hi).1]
  have hzl : (Builtin.zeroCells z m).toList.length = m * sz := by rw [Array.length_toList, zeroCells_size, hzs]
  have hb : k * sz + m * sz = n * sz := by rw [← Nat.add_mul, hm]
  have hb2 : n * sz ≤ c * sz := Nat.mul_le_mul_right _ hnc
  have hones : ∀ v ∈ (Builtin.zeroCells z m).toList, v.oneCell' = true := fun v hv => by
    unfold Builtin.zeroCells at hv
    rw [Array.toList_map] at hv
    obtain ⟨q, hq, rfl⟩ := List.mem_map.1 hv
    have hq : q < m * z.size := by simpa using hq
    have hp : 0 < z.size := by
      rcases Nat.eq_zero_or_pos z.size with h | h
      · rw [h] at hq; simp at hq
      · exact h
    have hlt : q % z.size < z.size := Nat.mod_lt _ hp
    rw [getElem!_pos z _ hlt]
    exact List.all_eq_true.1 hz1 _ (Array.getElem_mem_toList hlt)
  have H3 := Own.setCells i (Builtin.zeroCells z m).toList (k * sz) w _ cur H2 hi2
  rw [List.set_set] at H3
  have hi3 : (rs.set i (.blk gb (splice cur (k * sz) (Builtin.zeroCells z m).toList) e))[i]? = some (.blk gb (splice cur (k * sz) (Builtin.zeroCells z m).toList) e) := by
    rw [List.getElem?_set, if_pos rfl, if_pos (List.getElem?_eq_some_iff.1 hi).1]
  have hkt : (rows.take k).flatten = rows.flatten.take (k * sz) := take_flat rows hr k (by omega)
  have H4 := blkRws (sz := sz) (n := k) (c := c) (rows := rows.take k) H3 i hi3 (by rw [List.length_take]; omega) (by omega) hmx (by rw [splice_len]; exact hl) (by rw [splice_low _ _ _ _ (Nat.le_refl _), hkt, ← htk, List.take_take, Nat.min_eq_left (by omega)]) (by rw [hkt, List.length_take, hf]; omega)
  rw [List.set_set] at H4
  refine stepN (v := .tuple #[]) F hg rfl (w' := w.setCells gb (k * sz) (Builtin.zeroCells z m).toList) ?_ (K _ H4)
  have hth := H2.there i hi2 (k * sz) (m * sz) (Nat.ble_eq_true_of_le (by omega))
  have hst := run_storeCells_cells (P := P) gb (k * sz) (Builtin.zeroCells z m).toList 0 w (fun q hq => by rw [Nat.add_zero]; exact (hth q (by omega)).1) (fun q hq => by rw [Nat.add_zero]; exact (hth q (by omega)).2) hones
  rw [Nat.add_zero] at hst
  simp only [execOp, resolve, List.map_toArray, List.map_cons, List.map_nil, F.eval hx]
  cases m with
  | zero =>
    have e0 : w.setCells gb (k * sz) (Builtin.zeroCells z 0).toList = w := by
      have : (Builtin.zeroCells z 0).toList = [] := List.eq_nil_of_length_eq_zero (by rw [hzl]; omega)
      rw [this]; rfl
    rw [e0]
    simp [invoke, builtin, Builtin.clear_, run_underlying ht, go_sem]
  | succ m =>
    subst hzc
    simp [invoke, builtin, Builtin.clear_, run_underlying ht, hz, hst, go_sem]
theorem rowsB_take {m k : Nat} (d : By) (h : k ≤ m) : (rowsB m d).take k = rowsB k d := by
  refine List.ext_getElem? fun i => ?_
  rw [List.getElem?_take]
  rcases Nat.lt_or_ge i k with h1 | h1
  · rw [if_pos h1, rowsB_at _ h1, rowsB_at _ (by omega)]
  · rw [if_neg (by omega), List.getElem?_eq_none (by rw [rowsB_len]; exact h1)]
theorem sClr8 {t : TypeId} {x : Operand} {n c gb k m c' : Nat} {s : By} (H : Own w0 row w rs) (i : Nat) (ht : P.underlying t = some (.slice 5)) (hz : ∀ w, (zeroValue 5).run P w = .ok (.int .u8 0) w) (F : Has N a env) (hg : wants l env g = true)
    (hx : ev env x = some (.slice (some ⟨gb, 0 + k * 1, none⟩) m c')) (hi : rs[i]? = some (.byt gb n c s)) (hm : k + m = n)
    (K : ∀ w, Own w0 row w (rs.set i (.byt gb k c s)) → wpList P l.toArray Q rest a w) : wpList P l.toArray Q (⟨none, .call ⟨.builtin .clear, #[x], #[t]⟩, ty, pos, af, g⟩ :: rest) a w := by
  refine sClrG (z := #[.int .u8 0]) (sz := 1) (k := k) H i ht hz rfl rfl rfl F hg hx hi (by omega) hm (rowsB_row n s) fun w h => K w ?_
  rw [rowsB_take s (by omega)] at h
  exact h
end
def Inc (k : Nat) (d : By) : Prop := ∀ i, i + 1 < k → (d i).toNat < (d (i + 1)).toNat
def Alk (k : Nat) (d : By) (n : Nat) (e : By) : Prop := (∀ i, i < k → ∃ j, j < n ∧ d i = e j) ∧ ∀ j, j < n → ∃ i, i < k ∧ d i = e j
structure CmpI (n k q kk : Nat) (d arr : By) : Prop where
  q1 : 1 ≤ q
  le : k + q ≤ n
  k1 : 1 ≤ kk
  kq : kk + 1 ≤ k + q
  inc : Inc kk arr
  alk : Alk kk arr (k + q) d
  last : arr (kk - 1) = d (k + q - 1)
  out : ∀ i, k + q - 1 ≤ i → arr i = d i
theorem CmpI.start {n k : Nat} {d : By} (h1 : 1 ≤ k) (hk : k < n) (hi : Inc k d) (he : d k = d (k - 1)) : CmpI n k 1 k d d := by
  refine ⟨Nat.le_refl _, hk, h1, Nat.le_refl _, hi, ⟨fun i h => ⟨i, by omega, rfl⟩, fun j h => ?_⟩, by rw [Nat.add_sub_cancel]; exact he.symm, fun _ _ => rfl⟩
  by_cases e : j = k
  · exact ⟨k - 1, by omega, by rw [e]; exact he.symm⟩
  · exact ⟨j, by omega, rfl⟩
theorem CmpI.eq {n k q kk : Nat} {d arr : By} (h : CmpI n k q kk d arr) (hl : k + q < n) (he : d (k + q) = d (k + q - 1)) : CmpI n k (q + 1) kk d arr := by
  have h1 := h.q1
  refine ⟨by omega, by omega, h.k1, by have := h.kq; omega, h.inc, ⟨fun i hi => ?_, fun j hj => ?_⟩, ?_, fun i hi => h.out i (by omega)⟩
  · obtain ⟨j, h2, h3⟩ := h.alk.1 i hi
    exact ⟨j, by omega, h3⟩
  · by_cases e : j = k + q
    · obtain ⟨i, h2, h3⟩ := h.alk.2 (k + q - 1) (by omega)
      exact ⟨i, h2, by rw [e, he]; exact h3⟩
    · exact h.alk.2 j (by omega)
  · rw [h.last, show k + (q + 1) - 1 = k + q by omega, he]
theorem CmpI.ne {n k q kk : Nat} {d arr : By} (h : CmpI n k q kk d arr) (hl : k + q < n) (hs : Srt 0 n d) (he : d (k + q) ≠ d (k + q - 1)) : CmpI n k (q + 1) (kk + 1) d (put arr kk (d (k + q))) := by
  have h1 := h.q1
  have h2 := h.k1
  have h3 := h.kq
  have hlt : (d (k + q - 1)).toNat < (d (k + q)).toNat := by
    have := hs (k + q - 1) (Nat.zero_le _) (by omega)
    rw [show k + q - 1 + 1 = k + q by omega] at this
    rcases Nat.lt_or_ge (d (k + q - 1)).toNat (d (k + q)).toNat with h4 | h4
    · exact h4
    · exact absurd (UInt8.toNat_inj.1 (by omega)) he
  have pl : ∀ i, i < kk → put arr kk (d (k + q)) i = arr i := fun i hi => by unfold put; rw [if_neg (by omega)]
  have pk : put arr kk (d (k + q)) kk = d (k + q) := by unfold put; rw [if_pos rfl]
  refine ⟨by omega, by omega, by omega, by omega, fun i hi => ?_, ⟨fun i hi => ?_, fun j hj => ?_⟩, ?_, fun i hi => ?_⟩
  · by_cases e : i + 1 = kk
    · rw [pl i (by omega), e, pk, show i = kk - 1 by omega, h.last]; exact hlt
    · rw [pl i (by omega), pl (i + 1) (by omega)]; exact h.inc i (by omega)
  · by_cases e : i = kk
    · exact ⟨k + q, by omega, by rw [e, pk]⟩
    · obtain ⟨j, h4, h5⟩ := h.alk.1 i (by omega)
      exact ⟨j, by omega, by rw [pl i (by omega)]; exact h5⟩
  · by_cases e : j = k + q
    · exact ⟨kk, by omega, by rw [pk, e]⟩
    · obtain ⟨i, h4, h5⟩ := h.alk.2 j (by omega)
      exact ⟨i, by omega, by rw [pl i h4]; exact h5⟩
  · rw [Nat.add_sub_cancel, pk, show k + (q + 1) - 1 = k + q by omega]
  · unfold put
    rw [if_neg (by omega)]
    exact h.out i (by omega)
set_option maxHeartbeats 2000000 in
theorem compactB_any (g n c : Nat) (d : By) (W : World) (row : Option Nat) (rs : List Res) (w0 : World) (H : Own W row w0 (.byt g n c d :: rs)) (hn : n ≤ 1000000) (h0 : 0 < n) (hs : Srt 0 n d) :
    Calls Tryz.prog 46 #[.slice (some ⟨g, 0, none⟩) n c] w0 fun e w' => ∃ (k : Nat) (d' : By), e = .returned (.slice (some ⟨g, 0, none⟩) k c) ∧ 0 < k ∧ k ≤ n ∧ Inc k d' ∧ Alk k d' n d ∧ Own W row w' (.byt g k c d' :: rs) := by
  have hnc := (H.rwsLen 0 rfl).2.1
  have hcm := (H.rwsLen 0 rfl).2.2
  unfold maxLen at hcm
  refine enterF func46 rfl ntmps46 rfl (fun a F => ?_);refine cSR fun K1 hK1=>sAs F rfl rfl rfl (qNK hK1 ?_);clear hK1;clear F a;intro a F;refine cSeq (fun K2 hK2 => ?_);refine cSR fun K3 hK3=>sMv F rfl rfl rfl (qLen underlying23 rfl rfl rfl (qBin rfl rfl rfl rfl bLss (qNK hK3 ?_)));clear hK3;clear F a;intro a F
  refine cIf F rfl (fun h8 => ?_) (fun h8 => ?_)
  ·
   replace h8 := of_decide_eq_true h8;refine cSR fun K4 hK4=>sMv F rfl rfl rfl (qAs rfl rfl rfl (qNK hK4 ?_));clear hK4;clear F a;intro a F;refine wp_ret ?_;simp only [Exit.then];refine bRet results46 F rfl ?_
   first
   | exact ⟨kk, arr, rfl, by omega, by omega, hc.inc, by rw [← hq]; exact hc.alk, H⟩
   | (obtain rfl : k = n := by omega
      exact ⟨k, d, rfl, by omega, Nat.le_refl _, hinc, ⟨fun i h => ⟨i, h, rfl⟩, fun j h => ⟨j, h, rfl⟩⟩, H⟩)
   | exact ⟨n, d, rfl, h0, Nat.le_refl _, fun i h => (by omega), ⟨fun i h => ⟨i, h, rfl⟩, fun j h => ⟨j, h, rfl⟩⟩, H⟩
  replace h8 := of_decide_eq_false h8;refine wp_skip (hK2 _ _ ?_);clear hK2;refine cSeq (fun K5 hK5 => ?_);refine cSR fun K6 hK6=>sAs F rfl rfl rfl (qNK hK6 ?_);clear hK6;clear F a;intro a F;refine wp_block ?_
  refine cLoopR [0] (fun m ups w => ∃ (k : Nat), m = n - k ∧ ups = [(3, .int .i64 ((k : Nat) : Int))] ∧ 1 ≤ k ∧ k ≤ n ∧ Inc k d ∧ Own W row w (.byt g n c d :: rs)) F (n - 1) [(3, .int .i64 ((1 : Nat) : Int))] (by repeat (first | exact SubR.nil | (apply SubR.cons; · rfl))) ?_ ?_ ?_
  · exact ⟨1, rfl, rfl, Nat.le_refl _, by omega, fun i h => (by omega), H⟩
  · repeat (first | exact trivial | refine Le.cons rfl ?_)
  clear F
  clear H
  intro m ups a w hI F
  obtain ⟨k, rfl, rfl, hk1, hkn, hinc, H⟩ := hI
  refine cSeq (fun K7 hK7 => ?_);refine cSR fun K8 hK8=>sMv F rfl rfl rfl (qMv rfl rfl rfl (qLen underlying23 rfl rfl rfl (qBin rfl rfl rfl rfl bLss (qNK hK8 ?_))));clear hK8;clear F a;intro a F
  refine cIf F rfl (fun h13 => ?_) (fun h13 => ?_)
  ·
   replace h13 := of_decide_eq_true h13;refine wp_skip (hK7 _ _ ?_);clear hK7;refine cSeq (fun K9 hK9 => ?_);refine wp_block ?_;refine cSeq (fun K10 hK10 => ?_);refine cRegRO (by kernel_rfl) H ?_;replace H := H.drew;refine eTF 0 rfl (by kernel_rfl) F rfl rfl rfl (fun w=>rMv F rfl) H qq0 (qTF 1 rfl (by kernel_rfl) rfl rfl rfl (fun a F w=>rMv F rfl) H qq0 ?_);clear F a;intro a F
   refine eTakeF (k := 2) (i := 2) rfl (by kernel_rfl) F rfl rfl rfl (fun w => rIx underlying23 sizeOf5 F rfl rfl ?_) H (fun _ _ _ h => h) ?_
   focus (first | omega | decide | (simp; omega))
   clear F a; intro a F;refine eT 3 rfl (by kernel_rfl) F rfl rfl rfl rfl (fun w H=>rLd isAgg5 F rfl (H.bytCell 0 rfl (by omega))) H qq0 (qTF 4 rfl (by kernel_rfl) rfl rfl rfl (fun a F w=>rMv F rfl) H qq0 (qTF 5 rfl (by kernel_rfl) rfl rfl rfl (fun a F w=>rMv F rfl) H qq0 ?_));clear F a;intro a F
   refine eTakeF (k := 6) (i := 6) rfl (by kernel_rfl) F rfl rfl rfl (fun w => rBin F rfl rfl (bSubN (j := 1) ?_ ?_)) H (fun _ _ _ h => h) ?_
   focus omega
   focus omega
   clear F a; intro a F
   refine eTakeF (k := 7) (i := 7) rfl (by kernel_rfl) F rfl rfl rfl (fun w => rIx underlying23 sizeOf5 F rfl rfl ?_) H (fun _ _ _ h => h) ?_
   focus (first | omega | decide | (simp; omega))
   clear F a; intro a F;refine eT 8 rfl (by kernel_rfl) F rfl rfl rfl rfl (fun w H=>rLd isAgg5 F rfl (H.bytCell 0 rfl (by omega))) H qq0 (qTF 9 rfl (by kernel_rfl) rfl rfl rfl (fun a F w=>rBin F rfl rfl bEqlB) H qq0 ?_);clear F a;intro a F;refine eNil (k := 10) (by kernel_rfl) ?_;refine hK10 _ _ ?_;clear hK10
   refine cIf F rfl (fun h25 => ?_) (fun h25 => ?_)
   ·
    replace h25 := beqT h25;refine cSR fun K11 hK11=>sMv F rfl rfl rfl (qMv rfl rfl rfl ?_);clear F a;intro a F
    refine sSlL underlying23 sizeOf5 F rfl rfl rfl rfl ?_ ?_ ?_
    focus (first | omega | decide | (simp; omega))
    focus (first | omega | decide | (simp; omega))
    clear F a; intro a F;refine sAs F rfl rfl rfl (qNK hK11 ?_);clear hK11;clear F a;intro a F;refine cSeq (fun K12 hK12 => ?_);refine cSR fun K13 hK13=>sAs F rfl rfl rfl (qNK hK13 ?_);clear hK13;clear F a;intro a F;refine wp_block ?_
    refine cLoopR [0, 4] (fun m ups w => ∃ (q kk : Nat) (arr : By), m = n - (k + q) ∧ ups = [(3, .int .i64 ((kk : Nat) : Int)), (5, .int .i64 ((q : Nat) : Int))] ∧ CmpI n k q kk d arr ∧ Own W row w (.byt g n c arr :: rs)) F (n - (k + 1)) [(3, .int .i64 ((k : Nat) : Int)), (5, .int .i64 ((1 : Nat) : Int))] (by repeat (first | exact SubR.nil | (apply SubR.cons; · rfl))) ?_ ?_ ?_
    · exact ⟨1, k, d, rfl, rfl, CmpI.start hk1 (by omega) hinc h25, H⟩
    · repeat (first | exact trivial | refine Le.cons rfl ?_)
    clear F
    clear H
    intro m ups a w hI F
    obtain ⟨q, kk, arr, rfl, rfl, hc, H⟩ := hI; have c1 := hc.q1; have c2 := hc.le; have c3 := hc.k1; have c4 := hc.kq
    refine cSeq (fun K14 hK14 => ?_);refine cSR fun K15 hK15=>sMv F rfl rfl rfl (qMv rfl rfl rfl (qLen underlying23 rfl rfl rfl (qBin rfl rfl rfl rfl bLss (qNK hK15 ?_))));clear hK15;clear F a;intro a F
    refine cIf F rfl (fun h32 => ?_) (fun h32 => ?_)
    ·
     replace h32 := of_decide_eq_true h32;refine wp_skip (hK14 _ _ ?_);clear hK14;refine cSeq (fun K16 hK16 => ?_);refine wp_block ?_;refine cSeq (fun K17 hK17 => ?_);refine cRegRO (by kernel_rfl) H ?_;replace H := H.drew;refine eTF 0 rfl (by kernel_rfl) F rfl rfl rfl (fun w=>rMv F rfl) H qq0 (qTF 1 rfl (by kernel_rfl) rfl rfl rfl (fun a F w=>rMv F rfl) H qq0 ?_);clear F a;intro a F
     refine eTakeF (k := 2) (i := 2) rfl (by kernel_rfl) F rfl rfl rfl (fun w => rIx underlying23 sizeOf5 F rfl rfl ?_) H (fun _ _ _ h => h) ?_
     focus omega
     clear F a; intro a F;refine eT 3 rfl (by kernel_rfl) F rfl rfl rfl rfl (fun w H=>rLd isAgg5 F rfl (by rw [show 0 + k * 1 + q * 1 = 0 + (k + q) * 1 by omega]; exact H.bytCell 0 rfl (by omega))) H qq0 (qTF 4 rfl (by kernel_rfl) rfl rfl rfl (fun a F w=>rMv F rfl) H qq0 (qTF 5 rfl (by kernel_rfl) rfl rfl rfl (fun a F w=>rMv F rfl) H qq0 ?_));clear F a;intro a F
     refine eTakeF (k := 6) (i := 6) rfl (by kernel_rfl) F rfl rfl rfl (fun w => rBin F rfl rfl (bSubN (j := 1) ?_ ?_)) H (fun _ _ _ h => h) ?_
     focus omega
     focus omega
     clear F a; intro a F
     refine eTakeF (k := 7) (i := 7) rfl (by kernel_rfl) F rfl rfl rfl (fun w => rIx underlying23 sizeOf5 F rfl rfl ?_) H (fun _ _ _ h => h) ?_
     focus omega
     clear F a; intro a F;refine eT 8 rfl (by kernel_rfl) F rfl rfl rfl rfl (fun w H=>rLd isAgg5 F rfl (by rw [show 0 + k * 1 + (q - 1) * 1 = 0 + (k + q - 1) * 1 by omega]; exact H.bytCell 0 rfl (by omega))) H qq0 (qTF 9 rfl (by kernel_rfl) rfl rfl rfl (fun a F w=>rBin F rfl rfl bNeqB) H qq0 ?_);clear F a;intro a F;refine eNil (k := 10) (by kernel_rfl) ?_;refine hK17 _ _ ?_;clear hK17
     refine cIf F rfl (fun h44 => ?_) (fun h44 => ?_)
     ·
      replace h44 := bneT h44;refine cSR fun K18 hK18=>sMv F rfl rfl rfl (qMv rfl rfl rfl (qMv rfl rfl rfl (qMv rfl rfl rfl ?_)));clear F a;intro a F
      refine sIx underlying23 sizeOf5 F rfl rfl rfl rfl ?_ ?_
      focus omega
      clear F a; intro a F;refine sLd isAgg5 F rfl rfl rfl (by rw [show 0 + k * 1 + q * 1 = 0 + (k + q) * 1 by omega]; exact H.bytCell 0 rfl (by omega)) ?_;clear F a;intro a F
      refine sIx underlying23 sizeOf5 F rfl rfl rfl rfl ?_ ?_
      focus omega
      clear F a; intro a F;refine sStY H 0 sizeOf5 F rfl rfl rfl rfl (by omega) ?_;clear H; intro w H;refine nK hK18 (cReg (sMv F rfl rfl rfl ?_));clear hK18;clear F a;intro a F
      refine sBin F rfl rfl rfl rfl (bAddN (j := 1) ?_) ?_
      focus omega
      clear F a; intro a F;refine sAs F rfl rfl rfl (qNK hK16 (qReg (qMv rfl rfl rfl ?_)));clear hK16;clear F a;intro a F
      refine sBin F rfl rfl rfl rfl (bAddN (j := 1) ?_) ?_
      focus omega
      clear F a; intro a F;refine sAs F rfl rfl rfl ?_;clear F a;intro a F;refine sNil ?_
      have e1 : arr (k + q) = d (k + q) := hc.out _ (by omega)
      have e2 : arr (k + q - 1) = d (k + q - 1) := hc.out _ (by omega)
      rw [e1, e2] at h44
      first
      | (rw [e1] at H
         exact ⟨_, by omega, _, ⟨q + 1, kk + 1, _, rfl, rfl, hc.ne (by omega) hs h44, H⟩, F.to (by repeat (first | exact trivial | refine Le.cons rfl ?_))⟩)
      | exact ⟨_, by omega, _, ⟨q + 1, kk, _, rfl, rfl, hc.eq (by omega) h44, H⟩, F.to (by repeat (first | exact trivial | refine Le.cons rfl ?_))⟩
     replace h44 := bneF h44;refine wp_skip (hK16 _ _ (cReg (sMv F rfl rfl rfl ?_)));clear hK16;clear F a;intro a F
     refine sBin F rfl rfl rfl rfl (bAddN (j := 1) ?_) ?_
     focus omega
     clear F a; intro a F;refine sAs F rfl rfl rfl ?_;clear F a;intro a F;refine sNil ?_
     have e1 : arr (k + q) = d (k + q) := hc.out _ (by omega)
     have e2 : arr (k + q - 1) = d (k + q - 1) := hc.out _ (by omega)
     rw [e1, e2] at h44
     first
     | (rw [e1] at H
        exact ⟨_, by omega, _, ⟨q + 1, kk + 1, _, rfl, rfl, hc.ne (by omega) hs h44, H⟩, F.to (by repeat (first | exact trivial | refine Le.cons rfl ?_))⟩)
     | exact ⟨_, by omega, _, ⟨q + 1, kk, _, rfl, rfl, hc.eq (by omega) h44, H⟩, F.to (by repeat (first | exact trivial | refine Le.cons rfl ?_))⟩
    replace h32 := of_decide_eq_false h32
    have hq : k + q = n := by omega
    refine wp_exit ?_;refine hK12 _ _ (cSR fun K19 hK19=>sMv F rfl rfl rfl (qMv rfl rfl rfl ?_));clear hK12;clear F a;intro a F
    refine sSlL underlying23 sizeOf5 F rfl rfl rfl rfl ?_ ?_ ?_
    focus (first | omega | decide | (simp; omega))
    focus (first | omega | decide | (simp; omega))
    clear F a; intro a F;refine sClr8 (k := kk) (m := n - kk) H 0 underlying23 zeroValue5 F rfl rfl rfl (by omega) ?_;clear H; intro w H;refine nK hK19 (cSR fun K20 hK20=>sMv F rfl rfl rfl (qMv rfl rfl rfl ?_));clear hK19;clear F a;intro a F
    refine sSlH underlying23 (fun w => ⟨_, sizeOf5 w⟩) F rfl rfl rfl rfl ?_ ?_
    focus (first | omega | decide | (simp; omega))
    clear F a; intro a F;refine sAs F rfl rfl rfl (qNK hK20 ?_);clear hK20;clear F a;intro a F;refine wp_ret ?_;simp only [Exit.inBlock, Exit.then];refine bRet results46 F rfl ?_
    first
    | exact ⟨kk, arr, rfl, by omega, by omega, hc.inc, by rw [← hq]; exact hc.alk, H⟩
    | (obtain rfl : k = n := by omega
       exact ⟨k, d, rfl, by omega, Nat.le_refl _, hinc, ⟨fun i h => ⟨i, h, rfl⟩, fun j h => ⟨j, h, rfl⟩⟩, H⟩)
    | exact ⟨n, d, rfl, h0, Nat.le_refl _, fun i h => (by omega), ⟨fun i h => ⟨i, h, rfl⟩, fun j h => ⟨j, h, rfl⟩⟩, H⟩
   replace h25 := beqF h25;refine wp_skip (hK9 _ _ (cReg (sMv F rfl rfl rfl ?_)));clear hK9;clear F a;intro a F
   refine sBin F rfl rfl rfl rfl (bAddN (j := 1) ?_) ?_
   focus omega
   clear F a; intro a F;refine sAs F rfl rfl rfl ?_;clear F a;intro a F;refine sNil ?_
   have hlt : (d (k - 1)).toNat < (d k).toNat := by
     have h1 := hs (k - 1) (Nat.zero_le _) (by omega)
     rw [show k - 1 + 1 = k by omega] at h1
     rcases Nat.lt_or_ge (d (k - 1)).toNat (d k).toNat with h4 | h4
     · exact h4
     · exact absurd (UInt8.toNat_inj.1 (by omega)) h25
   exact ⟨_, by omega, _, ⟨k + 1, rfl, rfl, by omega, by omega, fun i hi => by
     by_cases e : i + 1 = k
     · rw [e, show i = k - 1 by omega]; exact hlt
     · exact hinc i (by omega), H⟩, F.to (by repeat (first | exact trivial | refine Le.cons rfl ?_))⟩
  replace h13 := of_decide_eq_false h13;refine wp_exit ?_;refine hK5 _ _ (cSR fun K21 hK21=>sMv F rfl rfl rfl (qAs rfl rfl rfl (qNK hK21 ?_)));clear hK5 hK21;clear F a;intro a F;refine wp_ret ?_;refine bRet results46 F rfl ?_
  first
  | exact ⟨kk, arr, rfl, by omega, by omega, hc.inc, by rw [← hq]; exact hc.alk, H⟩
  | (obtain rfl : k = n := by omega
     exact ⟨k, d, rfl, by omega, Nat.le_refl _, hinc, ⟨fun i h => ⟨i, h, rfl⟩, fun j h => ⟨j, h, rfl⟩⟩, H⟩)
  | exact ⟨n, d, rfl, h0, Nat.le_refl _, fun i h => (by omega), ⟨fun i h => ⟨i, h, rfl⟩, fun j h => ⟨j, h, rfl⟩⟩, H⟩
end Go.Proofs.YtklpiodciblabaaGreatDoor
