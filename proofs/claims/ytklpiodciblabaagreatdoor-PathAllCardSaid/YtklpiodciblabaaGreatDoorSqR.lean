/-
  WALK2. Few; facts for PathAll. Conditions: the thread lies in memory.
-/
import Derived.Test.YtklpiodciblabaaGreatDoorSqQ
import Derived.Test.YtklpiodciblabaaGreatDoorSqO
set_option linter.unusedSimpArgs false
set_option linter.unusedVariables false
namespace Go.Proofs.YtklpiodciblabaaGreatDoor
open Go.RowKit
set_option maxRecDepth 100000
theorem wants_snoc {l : List Ins} (hl : threadOk 6 l = true) {xs : List UInt8} (h : followP l xs = .wants) (v : UInt8) : followP l (xs ++ [v]) ≠ .many := by
  obtain ⟨k, z, hz, hk, h1, h2, h3⟩ := pad_of hl (xs ++ [v])
  rcases Nat.lt_trichotomy k (xs ++ [v]).length with hh | hh | hh
  · exfalso
    rw [List.length_append, List.length_singleton] at hh;rw [List.append_assoc, List.take_append_of_le_length (by omega)] at hz
    rcases Nat.lt_or_ge k xs.length with hk2 | hk2
    · have e : xs = xs.take k ++ xs[k] :: xs.drop (k + 1) := by rw [← List.drop_eq_getElem_cons hk2, List.take_append_drop]
      have h : goP l xs zRun = .wants := h
      rw [e, hz.more] at h
      cases h
    · rw [List.take_of_length_le hk2] at hz
      have h : goP l xs zRun = .wants := h
      rw [hz.go] at h
      cases h
  · rw [h2 hh]; exact fun e => by cases e
  · rw [h3 hh]; exact fun e => by cases e
theorem wants_rc {l : List Ins} (hl : threadOk 6 l = true) {xs : List UInt8} (h : followP l xs = .wants) : xs.length < rcL l 0 := by
  obtain ⟨k, z, hz, hk, h1, h2, h3⟩ := pad_of hl xs
  rcases Nat.lt_trichotomy k xs.length with hh | hh | hh
  · rw [h1 hh] at h; cases h
  · rw [h2 hh] at h; cases h
  · have := hz.rc
    rw [List.length_take, List.length_append, List.length_replicate, Nat.min_eq_left hk] at this
    exact Nat.lt_of_lt_of_le hh this
theorem Done8.rc {l : List Ins} {reads : List UInt8} {z : RunP} (h : Done8 l reads z) : reads.length ≤ rcL l 0 := h.path.rc
theorem ends_nil {l : List Ins} (h : followP l [] = .wants) : endsL l (distL []) = [] := by
  have hw : wantsP l (proceedP l zRun) = true := by
    cases hw : wantsP l (proceedP l zRun) with
    | true => rfl
    | false =>
      have h : goP l [] zRun = .wants := h
      rw [go_done hw] at h; cases h
  unfold endsL
  rw [spread_on hw, dist_nil]
  rfl
theorem fol_not_many {l : List Ins} (hl : threadOk 6 l = true) {xs : List UInt8} (h : followP l xs ≠ .many) : followR l xs = ⟨zPathP, true, 0⟩ ∧ followP l xs = .wants ∨ ∃ z, Done8 l xs z := by
  cases hf : followP l xs with
  | many => exact absurd hf h
  | wants => exact .inl ⟨by rw [followR_ok hl hf]; rfl, rfl⟩
  | done z => exact .inr ⟨z, .of hl (path_of l.length zRun xs z (by omega) hf)⟩
theorem filter_one {α β : Type} {P : α → Bool} {key : α → β} {z : α} : ∀ {zs : List α}, zs.Pairwise (fun a b => key a ≠ key b) → z ∈ zs → P z = true → (∀ y ∈ zs, P y = true → key y = key z) → (zs.filter P).length = 1
  | [], _, h, _, _ => by cases h
  | y :: zs, hp, hm, hz, hk => by
    obtain ⟨h1, h2⟩ := List.pairwise_cons.1 hp
    rcases List.mem_cons.1 hm with rfl | hm
    · have : zs.filter P = [] := List.filter_eq_nil_iff.2 fun u hu hPu => h1 u hu (hk u (List.mem_cons_of_mem _ hu) hPu).symm
      rw [List.filter_cons_of_pos hz, this]; rfl
    · have hy : P y = false := by
        cases hy : P y with
        | false => rfl
        | true => exact absurd (hk y List.mem_cons_self hy) (h1 z hm)
      rw [List.filter_cons_of_neg (by rw [hy]; exact Bool.noConfusion)]
      exact filter_one h2 hm hz fun u hu => hk u (List.mem_cons_of_mem _ hu)
theorem same_key {a b : RunP} (h : sameP (runPath a) (runPath b) = true) : rdL (evsP a) = rdL (evsP b) := by
  simp only [sameP, Bool.and_eq_true] at h
  have := eqEvs_iff.1 h.1.1.1.1
  exact congrArg rdL this
theorem ends_once {l : List Ins} {dom : List UInt8} {z : RunP} (hz : z ∈ endsL l (distL dom)) {ps : List PlP} (hps : ps.map PlP.path = (endsL l (distL dom)).map runPath) {p : PathP} (hp : p = runPath z) : (ps.filter fun q => sameP q.path p).length = 1 := by
  subst hp
  have e : (ps.filter fun q => sameP q.path (runPath z)).length = ((endsL l (distL dom)).filter fun y => sameP (runPath y) (runPath z)).length := by
    have h1 : ((ps.map PlP.path).filter fun p => sameP p (runPath z)).length = (ps.filter fun q => sameP q.path (runPath z)).length := by rw [List.filter_map, List.length_map]; rfl
    have h2 : (((endsL l (distL dom)).map runPath).filter fun p => sameP p (runPath z)).length = ((endsL l (distL dom)).filter fun y => sameP (runPath y) (runPath z)).length := by rw [List.filter_map, List.length_map]; rfl
    rw [← h1, ← h2, hps]
  rw [e]
  refine filter_one (key := fun r => rdL (evsP r)) ((ends_order dom).imp fun {a b} h e => ?_) hz (same_self _) fun y _ hy => same_key hy
  have e : rdL (evsP a) = rdL (evsP b) := e
  have := less_not h
  rw [e, beq_self_eq_true, Bool.or_true] at this
  cases this
theorem ps_at {l : List Ins} {dom : List UInt8} {ps : List PlP} (hps : ps.map PlP.path = (endsL l dom).map runPath) {i : Nat} {q : PlP} (hq : ps[i]? = some q) : ∃ z, (endsL l dom)[i]? = some z ∧ q.path = runPath z := by
  have h := congrArg (fun m : List PathP => m[i]?) hps
  simp only [List.getElem?_map, hq, Option.map_some] at h
  cases hz : (endsL l dom)[i]? with
  | none => rw [hz] at h; cases h
  | some z => rw [hz] at h; exact ⟨z, rfl, Option.some.inj h⟩
theorem ends_next {l : List Ins} {dom : List UInt8} {i : Nat} {a b : RunP} (ha : (endsL l (distL dom))[i - 1]? = some a) (hb : (endsL l (distL dom))[i]? = some b) (hi : 0 < i) : Go.Op.bytesLess (rdL (evsP a)) (rdL (evsP b)) = true := by
  obtain ⟨h1, rfl⟩ := List.getElem?_eq_some_iff.1 ha
  obtain ⟨h2, rfl⟩ := List.getElem?_eq_some_iff.1 hb
  exact List.pairwise_iff_getElem.1 (ends_order dom) _ _ h1 h2 (by omega)
theorem ends_dom {l : List Ins} {dom : List UInt8} {z : RunP} (hz : z ∈ endsL l (distL dom)) : ∀ v ∈ rdL (evsP z), v ∈ dom := by
  obtain ⟨vs, h1, h2⟩ := mem_ends.1 hz
  intro v hv
  have e := h2.rd
  have : rdL (evsP zRun) = [] := rfl
  rw [this, List.nil_append] at e;rw [e] at hv
  exact (dist_mem dom v).1 (h1 v hv)
theorem pl_at {w0 w : World} {row : Option Nat} {ps : List PlP} {x : Res} (H : Own w0 row w (x :: ps.flatMap PlP.res)) {i : Nat} {q : PlP} (hq : ps[i]? = some q) (hs : smallP q.path = true) : PathAt w q := by
  obtain ⟨hi, rfl⟩ := List.getElem?_eq_some_iff.1 hq
  have e : ps = ps.take i ++ ps[i] :: ps.drop (i + 1) := by rw [← List.drop_eq_getElem_cons hi, List.take_append_drop]
  have H2 := H.tail
  rw [e, List.flatMap_append, List.flatMap_cons] at H2
  exact small_at H2.suf.front hs
/-! ### Few -/
theorem reads_ge {op : UInt8} (h4 : 4 ≤ op) (h6 : op ≤ 6) : readsB op = true := by
  have h4 : 4 ≤ op.toNat := h4
  have h6 : op.toNat ≤ 6 := h6
  have h : op = 4 ∨ op = 5 ∨ op = 6 := by
    have h : op.toNat = 4 ∨ op.toNat = 5 ∨ op.toNat = 6 := by omega
    rcases h with h | h | h
    · exact .inl (UInt8.toNat_inj.1 h)
    · exact .inr (.inl (UInt8.toNat_inj.1 h))
    · exact .inr (.inr (UInt8.toNat_inj.1 h))
  rcases h with rfl | rfl | rfl <;> rfl
theorem reads_not {op : UInt8} (h1 : op ≠ 1) (h : ¬ (4 ≤ op ∧ op ≤ 6)) : readsB op = false := by
  cases hr : readsB op with
  | false => rfl
  | true =>
    rcases reads_or hr with rfl | rfl | rfl | rfl
    · exact absurd rfl h1
    · exact absurd (by decide) h
    · exact absurd (by decide) h
    · exact absurd (by decide) h
def cntL (l : List Ins) (j : Nat) : Nat := ((l.take j).filter fun x => readsB x.op).length
theorem cnt_T {l : List Ins} {j : Nat} {x : Ins} (hx : l[j]? = some x) (hr : readsB x.op = true) : cntL l (j + 1) = cntL l j + 1 := by
  unfold cntL; rw [List.take_add_one, hx, List.filter_append]; simp [hr]
theorem cnt_F {l : List Ins} {j : Nat} {x : Ins} (hx : l[j]? = some x) (hr : readsB x.op = false) : cntL l (j + 1) = cntL l j := by
  unfold cntL; rw [List.take_add_one, hx, List.filter_append]; simp [hr]
theorem cnt_le (l : List Ins) (j : Nat) : cntL l j ≤ j := Nat.le_trans (List.length_filter_le _ _) (by rw [List.length_take]; omega)
theorem cnt_all (l : List Ins) : cntL l l.length = rcL l 0 := by unfold cntL rcL; rw [List.take_length, List.drop_zero]
theorem Few_any (A : Option Addr) (C : Nat) (l : List Ins) (w0 : World) (hA : RowsAt w0 A 10 (l.map Ins.cells)) (hn : l.length ≤ 9223372036854775807) :
    Calls Tryz.prog 14 #[.slice A l.length C] w0 fun e w' => e = .returned (.bool (fewP l)) ∧ Below w0.heap.size w0 w' := by
  have H := Own.start w0 none
  refine enterF Tryz.func14 rfl Tryz.ntmps14 rfl (fun a F => ?_);refine cSR fun K1 hK1=>sAs F rfl rfl rfl (qNK hK1 (qSR fun K2 hK2=>qAs rfl rfl rfl (qNK hK2 ?_)));clear hK1 hK2;clear F a;intro a F;refine cSeq (fun K3 hK3 => ?_);refine cSR fun K4 hK4=>sMv F rfl rfl rfl (qLen Tryz.underlying22 rfl rfl rfl (qMv rfl rfl rfl (qNK hK4 ?_)));clear hK4;clear F a;intro a F;refine wp_block ?_
  refine cLoopR [0, 6, 7] (fun m ups w => ∃ j : Nat, m = l.length - j ∧ ups = [(3, .int .i64 ((cntL l j : Nat) : Int)), (8, .int .i64 ((j : Nat) : Int))] ∧ j ≤ l.length ∧ Own w0 none w []) F (l.length) [(3, .int .i64 ((0 : Nat) : Int)), (8, .int .i64 ((0 : Nat) : Int))] (by repeat (first | exact SubR.nil | (apply SubR.cons; · rfl))) ?_ ?_ ?_
  · exact ⟨0, rfl, rfl, Nat.zero_le _, H⟩
  · repeat (first | exact trivial | refine Le.cons rfl ?_)
  clear F
  clear H
  intro m ups a w hI F
  obtain ⟨j, rfl, rfl, hj, H⟩ := hI
  refine cSR fun K5 hK5=>sBin F rfl rfl rfl rfl bLss (qNK hK5 ?_);clear hK5;clear F a;intro a F;refine cSeq (fun K6 hK6 => ?_)
  refine cIf F rfl (fun h9 => ?_) (fun h9 => ?_)
  ·
   replace h9 := of_decide_eq_true h9
   have hjl : j < l.length := by omega
   obtain ⟨x, hx⟩ : ∃ x, l[j]? = some x := ⟨_, List.getElem?_eq_getElem hjl⟩
   obtain ⟨bA, oA, rfl, hR1⟩ := hA j x.cells (by rw [List.getElem?_map, hx]; rfl)
   have hc := cnt_le l j
   refine wp_skip (hK6 _ _ ?_);clear hK6;refine cSeq (fun K7 hK7 => ?_);refine wp_block ?_;refine cSR fun K8 hK8=>?_
   refine sIx Tryz.underlying22 Tryz.sizeOf59 F rfl rfl rfl rfl ?_ ?_
   focus exact hjl
   clear F a; intro a F
   refine sLr Tryz.underlying59 rfl ?si F rfl rfl rfl (H.argR hR1) ?_
   case si => exact info_size Tryz.sizeOf59
   clear F a; intro a F;refine sAl H Tryz.zeroValue59 F rfl rfl ?_;clear F a H; intro b5 a w F H
   refine sSr H 0 ?si F rfl rfl rfl ?s1 rfl rfl ?_
   case si => exact info_size Tryz.sizeOf59
   case s1 => first | rfl | (repeat (first | exact one_nil | (apply one_cons; · first | rfl | assumption | exact one_bif rfl rfl)))
   clear H; intro w H;refine nK hK8 (cSR fun K9 hK9=>sFa (f := 0) (k := 0) Tryz.underlying59 rfl Tryz.sizeOf5 rfl rfl F rfl rfl rfl (qLd Tryz.isAgg5 rfl rfl rfl (H.cell 0 rfl rfl) (qBin rfl rfl rfl rfl (bEqlB (y := 1)) (qMv rfl rfl rfl ?_))));clear hK8;clear F a;intro a F
   refine F.split 15 rfl ?_ ?_ <;> (clear F; intro h15 F)
   ·
    replace h15 := beqT h15
    have hr : readsB x.op = true := by rw [h15]; rfl
    refine sSk F rfl rfl (qSk rfl rfl (qSk rfl rfl (qSk rfl rfl (qSk rfl rfl (qSk rfl rfl (qSk rfl rfl (qSk rfl rfl (qPk rfl rfl rfl rfl (qNK hK9 ?_)))))))));clear hK9;clear F a;intro a F;refine cIfT F rfl ?_;refine cReg (sMv F rfl rfl rfl ?_);clear F a;intro a F
    refine sBin F rfl rfl rfl rfl (bAddN (j := 1) ?_) ?_
    focus omega
    clear F a; intro a F;refine sAs F rfl rfl rfl (qNK hK7 (qReg ?_));clear hK7;clear F a;intro a F
    refine sBin F rfl rfl rfl rfl (bAddN (j := 1) ?_) ?_
    focus omega
    clear F a; intro a F;refine sMv F rfl rfl rfl ?_;clear F a;intro a F;refine sNil ?_
    first
    | (rw [← cnt_T hx hr] at F
       exact ⟨_, by omega, _, ⟨j + 1, rfl, rfl, by omega, H.sel [] rfl rfl⟩, F.to (by repeat (first | exact trivial | refine Le.cons rfl ?_))⟩)
    | (rw [← cnt_F hx hr] at F
       exact ⟨_, by omega, _, ⟨j + 1, rfl, rfl, by omega, H.sel [] rfl rfl⟩, F.to (by repeat (first | exact trivial | refine Le.cons rfl ?_))⟩)
   replace h15 := beqF h15;refine sFa (f := 0) (k := 0) Tryz.underlying59 rfl Tryz.sizeOf5 rfl rfl F rfl rfl rfl (qLd Tryz.isAgg5 rfl rfl rfl (H.cell 0 rfl rfl) (qBin rfl rfl rfl rfl (bGeqB (y := 4)) (qMv rfl rfl rfl ?_)));clear F a;intro a F
   refine F.split 19 rfl ?_ ?_ <;> (clear F; intro h19 F)
   ·
    replace h19 := of_decide_eq_true h19;refine sFa (f := 0) (k := 0) Tryz.underlying59 rfl Tryz.sizeOf5 rfl rfl F rfl rfl rfl (qLd Tryz.isAgg5 rfl rfl rfl (H.cell 0 rfl rfl) (qBin rfl rfl rfl rfl (bLeqB (y := 6)) (qPk rfl rfl rfl rfl (qPk rfl rfl rfl rfl (qNK hK9 ?_)))));clear hK9;clear F a;intro a F
    refine cIf F rfl (fun h24 => ?_) (fun h24 => ?_)
    ·
     replace h24 := of_decide_eq_true h24
     have hr : readsB x.op = true := reads_ge h19 h24
     refine cReg (sMv F rfl rfl rfl ?_);clear F a;intro a F
     refine sBin F rfl rfl rfl rfl (bAddN (j := 1) ?_) ?_
     focus omega
     clear F a; intro a F;refine sAs F rfl rfl rfl (qNK hK7 (qReg ?_));clear hK7;clear F a;intro a F
     refine sBin F rfl rfl rfl rfl (bAddN (j := 1) ?_) ?_
     focus omega
     clear F a; intro a F;refine sMv F rfl rfl rfl ?_;clear F a;intro a F;refine sNil ?_
     first
     | (rw [← cnt_T hx hr] at F
        exact ⟨_, by omega, _, ⟨j + 1, rfl, rfl, by omega, H.sel [] rfl rfl⟩, F.to (by repeat (first | exact trivial | refine Le.cons rfl ?_))⟩)
     | (rw [← cnt_F hx hr] at F
        exact ⟨_, by omega, _, ⟨j + 1, rfl, rfl, by omega, H.sel [] rfl rfl⟩, F.to (by repeat (first | exact trivial | refine Le.cons rfl ?_))⟩)
    replace h24 := of_decide_eq_false h24
    have hr : readsB x.op = false := reads_not h15 (fun q => h24 q.2)
    refine wp_skip (hK7 _ _ (cReg ?_));clear hK7
    refine sBin F rfl rfl rfl rfl (bAddN (j := 1) ?_) ?_
    focus omega
    clear F a; intro a F;refine sMv F rfl rfl rfl ?_;clear F a;intro a F;refine sNil ?_
    first
    | (rw [← cnt_T hx hr] at F
       exact ⟨_, by omega, _, ⟨j + 1, rfl, rfl, by omega, H.sel [] rfl rfl⟩, F.to (by repeat (first | exact trivial | refine Le.cons rfl ?_))⟩)
    | (rw [← cnt_F hx hr] at F
       exact ⟨_, by omega, _, ⟨j + 1, rfl, rfl, by omega, H.sel [] rfl rfl⟩, F.to (by repeat (first | exact trivial | refine Le.cons rfl ?_))⟩)
   replace h19 := of_decide_eq_false h19
   have hr : readsB x.op = false := reads_not h15 (fun q => h19 q.1)
   refine sSk F rfl rfl (qSk rfl rfl (qSk rfl rfl (qPk rfl rfl rfl rfl (qPk rfl rfl rfl rfl (qNK hK9 ?_)))));clear hK9;clear F a;intro a F;refine cIfF F rfl ?_;refine wp_skip (hK7 _ _ (cReg ?_));clear hK7
   refine sBin F rfl rfl rfl rfl (bAddN (j := 1) ?_) ?_
   focus omega
   clear F a; intro a F;refine sMv F rfl rfl rfl ?_;clear F a;intro a F;refine sNil ?_
   first
   | (rw [← cnt_T hx hr] at F
      exact ⟨_, by omega, _, ⟨j + 1, rfl, rfl, by omega, H.sel [] rfl rfl⟩, F.to (by repeat (first | exact trivial | refine Le.cons rfl ?_))⟩)
   | (rw [← cnt_F hx hr] at F
      exact ⟨_, by omega, _, ⟨j + 1, rfl, rfl, by omega, H.sel [] rfl rfl⟩, F.to (by repeat (first | exact trivial | refine Le.cons rfl ?_))⟩)
  replace h9 := of_decide_eq_false h9
  obtain rfl : j = l.length := by omega
  rw [cnt_all] at F;refine wp_exit ?_;refine hK3 _ _ (cSR fun K10 hK10=>sMv F rfl rfl rfl (qLen Tryz.underlying22 rfl rfl rfl (qBin rfl rfl rfl rfl bLeq (qMv rfl rfl rfl ?_))));clear hK3;clear F a;intro a F
  refine F.split 31 rfl ?_ ?_ <;> (clear F; intro h31 F)
  ·
   replace h31 := of_decide_eq_true h31;refine sMv F rfl rfl rfl (qBin rfl rfl rfl rfl bLeq (qPk rfl rfl rfl rfl (qAs rfl rfl rfl (qNK hK10 ?_))));clear hK10;clear F a;intro a F;refine wp_ret ?_;refine bRet Tryz.results14 F rfl ?_
   refine ⟨retB ?_, H.below⟩
   clear F H
   have h32 : (decide ((rcL l 0 : Int) ≤ 4)) = decide (rcL l 0 ≤ 4) := by
     by_cases h : rcL l 0 ≤ 4
     · rw [decide_eq_true h, decide_eq_true (by omega)]
     · rw [decide_eq_false h, decide_eq_false (by omega)]
   first
   | (rw [h32]; unfold fewP; rw [decide_eq_true (show l.length ≤ 12 by omega)]; rfl)
   | (unfold fewP; rw [decide_eq_false (show ¬ l.length ≤ 12 by omega)]; rfl)
  replace h31 := of_decide_eq_false h31;refine sSk F rfl rfl (qSk rfl rfl (qPk rfl rfl rfl rfl (qAs rfl rfl rfl (qNK hK10 ?_))));clear hK10;clear F a;intro a F;refine wp_ret ?_;refine bRet Tryz.results14 F rfl ?_
  refine ⟨retB ?_, H.below⟩
  clear F H
  have h32 : (decide ((rcL l 0 : Int) ≤ 4)) = decide (rcL l 0 ≤ 4) := by
    by_cases h : rcL l 0 ≤ 4
    · rw [decide_eq_true h, decide_eq_true (by omega)]
    · rw [decide_eq_false h, decide_eq_false (by omega)]
  first
  | (rw [h32]; unfold fewP; rw [decide_eq_true (show l.length ≤ 12 by omega)]; rfl)
  | (unfold fewP; rw [decide_eq_false (show ¬ l.length ≤ 12 by omega)]; rfl)
end Go.Proofs.YtklpiodciblabaaGreatDoor
