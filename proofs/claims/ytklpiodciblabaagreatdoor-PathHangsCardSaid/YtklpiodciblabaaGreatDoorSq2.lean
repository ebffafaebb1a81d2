/-
  WALK2. Package path: Values. Conditions: the program lies in memory.
-/
import Derived.Test.YtklpiodciblabaaGreatDoorSqG
set_option linter.unusedSimpArgs false
set_option linter.unusedVariables false
namespace Go.Proofs.YtklpiodciblabaaGreatDoor
-- SqH
open Go.RowKit
set_option maxRecDepth 100000
theorem thread_six8 {p : Prg} {k : Nat} {l : List Ins} (h : rightErr p = 0) (hk : p.threads[k]? = some l) : threadOk 6 l = true := by
  have hV := valid h
  have h3 : threadsOk p = true := right_demand h 3 (by omega)
  simp only [threadsOk, List.all_eq_true] at h3
  have h4 := h3 l (List.mem_of_getElem? hk)
  simp only [threadOk, Bool.and_eq_true, decide_eq_true_eq] at h4 ⊢
  have h6 := hV.locs6
  refine ⟨h4.1, ?_⟩
  have key : ∀ (n : Nat) (q : List Ins) (i : Nat), insesOk (p.locs.length : Int) n i q = true → insesOk 6 n i q = true := by
    intro n q
    induction q with
    | nil => intro i _; rfl
    | cons x q ih =>
      intro i hi
      simp only [insesOk, Bool.and_eq_true] at hi ⊢
      refine ⟨?_, ih _ hi.2⟩
      have hx := hi.1
      unfold insOk at hx ⊢
      rw [List.all_eq_true] at hx ⊢
      intro j hj
      have hj2 := hx j hj
      match j, hj2 with
      | 0, h | 1, h | 2, h | 4, h | 5, h | 6, h | 7, h => exact h
      | 3, h =>
        simp only [condK, Bool.or_eq_true, decide_eq_true_eq] at h ⊢
        rcases h with h | h
        · exact .inl h
        · exact .inr (by omega)
      | j + 8, _ => rfl
  exact key _ _ _ h4.2

theorem dist_mono {a b : List UInt8} (h : ∀ x ∈ a, x ∈ b) : (distL a).length ≤ (distL b).length := by
  unfold distL
  rw [← List.countP_eq_length_filter, ← List.countP_eq_length_filter]
  refine List.countP_mono_left fun x _ hx => ?_
  simp only [List.contains_iff_mem] at hx ⊢
  exact h x hx
theorem dist_dist (l : List UInt8) : distL (distL l) = distL l := (dist_of (l := distL l) (m := distL l) (dist_inc l) fun _ => Iff.rfl).symm
def vStep (p : Prg) (vals : List UInt8) : Option (List UInt8) :=
  if p.threads.all (fun l => (writesR l vals).2) = true then some (distL (vals ++ p.threads.flatMap fun l => (writesR l vals).1)) else none
def goV (p : Prg) (most : Int) : Nat → List UInt8 → List UInt8 × Nat
  | 0, _ => ([], 5)
  | f + 1, vals => if most < (vals.length : Int) then ([], 5) else match vStep p vals with
    | none => ([], 5)
    | some nx => if nx.length = vals.length then (vals, 0) else goV p most f nx
def valuesR (p : Prg) (most : Int) : List UInt8 × Nat := if most < 0 ∨ 16 < most ∨ rightErr p ≠ 0 then ([], 2) else goV p most 18 (distL p.init)
theorem goV_many {p : Prg} {most : Int} {f : Nat} {vals : List UInt8} (h : most < (vals.length : Int)) : goV p most f vals = ([], 5) := by
  cases f with
  | zero => rfl
  | succ f => unfold goV; rw [if_pos h]
theorem goV_none {p : Prg} {most : Int} {f : Nat} {vals : List UInt8} (h : vStep p vals = none) : goV p most f vals = ([], 5) := by
  cases f with
  | zero => rfl
  | succ f =>
    unfold goV
    split
    · rfl
    · rw [h]
theorem goV_end {p : Prg} {most : Int} {f : Nat} {vals nx : List UInt8} (h : ¬ most < (vals.length : Int)) (hs : vStep p vals = some nx) (hl : nx.length = vals.length) : goV p most (f + 1) vals = (vals, 0) := by
  unfold goV; rw [if_neg h, hs]; show (if nx.length = vals.length then _ else _) = _; rw [if_pos hl]
theorem goV_on {p : Prg} {most : Int} {f : Nat} {vals nx : List UInt8} (h : ¬ most < (vals.length : Int)) (hs : vStep p vals = some nx) (hl : ¬ nx.length = vals.length) : goV p most (f + 1) vals = goV p most f nx := by
  rw [goV, if_neg h, hs]; show (if nx.length = vals.length then _ else _) = _; rw [if_neg hl]
theorem values_bad {p : Prg} {most : Int} (h : most < 0 ∨ 16 < most ∨ rightErr p ≠ 0) : valuesR p most = ([], 2) := by unfold valuesR; rw [if_pos h]
theorem values_ok {p : Prg} {most : Int} (h0 : ¬ most < 0) (h1 : ¬ 16 < most) (h2 : rightErr p = 0) : valuesR p most = goV p most 18 (distL p.init) := by
  unfold valuesR; rw [if_neg (by rintro (h | h | h); exact h0 h; exact h1 h; exact h h2)]
theorem writes_le (l : List Ins) (dom : List UInt8) : (writesR l dom).1.length ≤ 256 := by
  unfold writesR; split
  · exact Nat.zero_le _
  · exact byW_le _ _
def nextV (p : Prg) (vals : List UInt8) (j : Nat) : List UInt8 := vals ++ (p.threads.take j).flatMap fun l => (writesR l vals).1
theorem nextV_succ {p : Prg} {vals : List UInt8} {j : Nat} {l : List Ins} (h : p.threads[j]? = some l) : nextV p vals (j + 1) = nextV p vals j ++ (writesR l vals).1 := by
  unfold nextV; rw [List.take_add_one, h, List.flatMap_append]; simp
theorem nextV_le (p : Prg) (vals : List UInt8) : ∀ j, (nextV p vals j).length ≤ vals.length + 256 * j := fun j => by
  have h : ∀ (q : List (List Ins)), (q.flatMap fun l => (writesR l vals).1).length ≤ 256 * q.length := fun q => by
    induction q with
    | nil => simp
    | cons l q ih =>
      rw [List.flatMap_cons, List.length_append, List.length_cons]
      have := writes_le l vals
      omega
  unfold nextV
  rw [List.length_append]
  have h1 := h (p.threads.take j)
  have h2 : (p.threads.take j).length ≤ j := by rw [List.length_take]; omega
  have : 256 * (p.threads.take j).length ≤ 256 * j := Nat.mul_le_mul_left _ h2
  omega
theorem vStep_none {p : Prg} {vals : List UInt8} {l : List Ins} (hl : l ∈ p.threads) (h : (writesR l vals).2 = false) : vStep p vals = none := by
  unfold vStep
  rw [if_neg]
  intro h1
  have := List.all_eq_true.1 h1 l hl
  rw [h] at this; cases this
theorem vStep_some {p : Prg} {vals : List UInt8} (h : ∀ l ∈ p.threads, (writesR l vals).2 = true) : vStep p vals = some (distL (nextV p vals p.threads.length)) := by
  unfold vStep nextV
  rw [if_pos (List.all_eq_true.2 h), List.take_length]
theorem step_le {p : Prg} {vals : List UInt8} (hd : distL vals = vals) (j : Nat) : vals.length ≤ (distL (nextV p vals j)).length := by
  rw [← congrArg List.length hd]
  exact dist_mono fun x hx => List.mem_append_left _ hx
abbrev bRows (l : List UInt8) : List (List Value) := l.map fun x => [b8 x]
def ValuesPost (q : List UInt8 × Nat) (w0 : World) (e : Ending) (w' : World) : Prop :=
  ∃ (A : Option Addr) (C : Nat), e = .returned (.tuple #[.slice A q.1.length C, .int .i64 (q.2 : Int)]) ∧ Own w0 none w' [.rws 5 1 (.slice A q.1.length C) (bRows q.1)]
theorem nilV_post {w0 w : World} {rs : List Res} (H : Own w0 none w rs) (err : Nat) : ValuesPost ([], err) w0 (.returned (.tuple #[.slice none 0 0, .int .i64 (err : Int)])) w :=
  ⟨none, 0, rfl, (H.nilRws 5 1).sel [0] rfl rfl⟩
theorem bRows_one {l : List UInt8} : ∀ r ∈ bRows l, r.length = 1 := fun _ hr => b8_one hr
theorem bRows_cell {l : List UInt8} : ∀ r ∈ bRows l, r.all (·.oneCell') = true := fun r hr => by
  obtain ⟨x, _, rfl⟩ := List.mem_map.1 hr; rfl
set_option maxHeartbeats 4000000 in
theorem Values_any (cs : List Value) (p : Prg) (most : Int) (w0 : World) (hP : ProgAt w0 cs p) (hN : NeedsAt w0) :
    Calls Tryz.prog 15 #[.agg cs.toArray, .int .i64 most] w0 (ValuesPost (valuesR p most) w0) := by
  have H := Own.start w0 none
  have hP0 := hP
  obtain ⟨LA, LC, IA, IC, TA, TC, h, ccs, hp⟩ := hP
  obtain ⟨d1, d2, d3, d4, d5, rfl⟩ := len5 (condAt_len hp.cond)
  have hcs := hp.cs
  subst hcs
  have hn := hp.threadsN
  refine enterF Tryz.func15 rfl Tryz.ntmps15 rfl (fun a F => ?_);refine cSR fun K1 hK1=>?_;refine sBx H F rfl rfl rfl ?_;clear F a H; intro b2 a w F H;refine sAs F rfl rfl rfl (qAs rfl rfl rfl (qNK hK1 ?_));clear hK1;clear F a;intro a F;refine cSeq (fun K2 hK2 => ?_);refine cSR fun K3 hK3=>sMv F rfl rfl rfl (qBin rfl rfl rfl rfl bLss (qMv rfl rfl rfl ?_));clear F a;intro a F
  refine F.split 14 rfl ?_ ?_ <;> (clear F; intro h14 F)
  ·
   replace h14 := of_decide_eq_true h14;refine sSk F rfl rfl (qSk rfl rfl (qPk rfl rfl rfl rfl (qMv rfl rfl rfl (qSk rfl rfl (qSk rfl rfl (qSk rfl rfl (qPk rfl rfl rfl rfl (qNK hK3 ?_))))))));clear hK3;clear F a;intro a F;refine cIfT F rfl ?_;refine cSR fun K4 hK4=>sAs F rfl rfl rfl (qAs rfl rfl rfl (qNK hK4 ?_));clear hK4;clear F a;intro a F;refine wp_ret ?_;simp only [Exit.then];refine bRet2 Tryz.results15 F rfl rfl ?_
   first
   | (rw [values_bad (.inl h14)]; exact nilV_post H 2)
   | (rw [values_bad (.inr (.inl h18))]; exact nilV_post H 2)
   | (rw [values_bad (.inr (.inr h22))]; exact nilV_post H 2)
   | (rw [← hgo, goV_many h29]; exact nilV_post H 5)
   | (rw [← hgo, goV_none (vStep_none (List.mem_of_getElem? hl) h46)]; exact nilV_post H 5)
   | (rw [← hgo, goV_end h29' hst (by omega)]; exact ⟨A2, c2, rfl, H.sel [0] rfl rfl⟩)
  replace h14 := of_decide_eq_false h14;refine sMv F rfl rfl rfl (qBin rfl rfl rfl rfl bGtr (qPk rfl rfl rfl rfl (qMv rfl rfl rfl ?_)));clear F a;intro a F
  refine F.split 18 rfl ?_ ?_ <;> (clear F; intro h18 F)
  ·
   replace h18 := of_decide_eq_true h18;refine sSk F rfl rfl (qSk rfl rfl (qSk rfl rfl (qPk rfl rfl rfl rfl (qNK hK3 ?_))));clear hK3;clear F a;intro a F;refine cIfT F rfl ?_;refine cSR fun K5 hK5=>sAs F rfl rfl rfl (qAs rfl rfl rfl (qNK hK5 ?_));clear hK5;clear F a;intro a F;refine wp_ret ?_;simp only [Exit.then];refine bRet2 Tryz.results15 F rfl rfl ?_
   first
   | (rw [values_bad (.inl h14)]; exact nilV_post H 2)
   | (rw [values_bad (.inr (.inl h18))]; exact nilV_post H 2)
   | (rw [values_bad (.inr (.inr h22))]; exact nilV_post H 2)
   | (rw [← hgo, goV_many h29]; exact nilV_post H 5)
   | (rw [← hgo, goV_none (vStep_none (List.mem_of_getElem? hl) h46)]; exact nilV_post H 5)
   | (rw [← hgo, goV_end h29' hst (by omega)]; exact ⟨A2, c2, rfl, H.sel [0] rfl rfl⟩)
  replace h18 := of_decide_eq_false h18
  refine sLr Tryz.underlying46 rfl ?si F rfl rfl rfl (H.whole 0 rfl) ?_
  case si => exact info_size Tryz.sizeOf46
  clear F a; intro a F;refine sCall Tryz.call16 F rfl rfl rfl (right_any' _ p _ (hP0.own H) (hN.own H)) ?_;rintro e w ⟨rfl, hb⟩;replace H := H.grow hb; clear hb;refine ⟨_, rfl, ?_⟩;clear F a; intro a F;refine sBin F rfl rfl rfl rfl bNeq (qPk rfl rfl rfl rfl (qNK hK3 ?_));clear hK3;clear F a;intro a F
  refine cIf F rfl (fun h22 => ?_) (fun h22 => ?_)
  ·
   replace h22 := bneT h22;refine cSR fun K6 hK6=>sAs F rfl rfl rfl (qAs rfl rfl rfl (qNK hK6 ?_));clear hK6;clear F a;intro a F;refine wp_ret ?_;simp only [Exit.then];refine bRet2 Tryz.results15 F rfl rfl ?_
   first
   | (rw [values_bad (.inl h14)]; exact nilV_post H 2)
   | (rw [values_bad (.inr (.inl h18))]; exact nilV_post H 2)
   | (rw [values_bad (.inr (.inr h22))]; exact nilV_post H 2)
   | (rw [← hgo, goV_many h29]; exact nilV_post H 5)
   | (rw [← hgo, goV_none (vStep_none (List.mem_of_getElem? hl) h46)]; exact nilV_post H 5)
   | (rw [← hgo, goV_end h29' hst (by omega)]; exact ⟨A2, c2, rfl, H.sel [0] rfl rfl⟩)
  replace h22 := bneF h22
  have hr0 : rightErr p = 0 := h22
  have hV := valid hr0
  refine wp_skip (hK2 _ _ (cSR fun K7 hK7=>sFa (f := 2) (k := 2) Tryz.underlying46 rfl Tryz.sizeOf23 rfl rfl F rfl rfl rfl (qLd Tryz.isAgg23 rfl rfl rfl (H.cell 0 rfl rfl) ?_)));clear hK2;clear F a;intro a F;refine sCall Tryz.call31 F rfl rfl rfl (distinct_any IA IC p.init _ (RowsAt.own hp.init H) (by have := hV.init; have := hV.locs6; omega)) ?_;rintro e w ⟨A2, c2, rfl, H2⟩;replace H := H.join H2; clear H2;refine ⟨_, rfl, ?_⟩;clear F a; intro a F;refine sAs F rfl rfl rfl (qNK hK7 ?_);clear hK7;clear F a;intro a F;refine wp_block ?_
  refine cLoopR [1, 2] (fun m ups w => ∃ (f : Nat) (vals : List UInt8) (A2 : Option Addr) (c2 : Nat), m = f ∧ ups = [(6, .slice A2 vals.length c2)] ∧ distL vals = vals ∧ 18 ≤ vals.length + f ∧ goV p most f vals = valuesR p most ∧ Own w0 none w [.rws 5 1 (.slice A2 vals.length c2) (bRows vals), .blk b2 ([.string p.name, .slice LA p.locs.length LC, .slice IA p.init.length IC, .slice TA p.threads.length TC, Go.Proofs.YtklpiodciblabaaGreatDoor.b8 p.ask] ++ [d1, d2, d3, d4, d5]) 46]) F (18) [(6, .slice A2 (distL p.init).length c2)] (by repeat (first | exact SubR.nil | (apply SubR.cons; · rfl))) ?_ ?_ ?_
  · exact ⟨18, distL p.init, A2, c2, rfl, rfl, dist_dist _, by omega, (values_ok h14 h18 hr0).symm, H⟩
  · repeat (first | exact trivial | refine Le.cons rfl ?_)
  clear F
  clear H
  intro m ups a w hI F
  obtain ⟨f, vals, A2, c2, rfl, rfl, hdd, hfl, hgo, H⟩ := hI
  refine wp_block ?_;refine cSeq (fun K8 hK8 => ?_);refine cSR fun K9 hK9=>sMv F rfl rfl rfl (qLen Tryz.underlying23 rfl rfl rfl (qMv rfl rfl rfl (qBin rfl rfl rfl rfl bGtr (qNK hK9 ?_))));clear hK9;clear F a;intro a F
  refine cIf F rfl (fun h29 => ?_) (fun h29 => ?_)
  ·
   replace h29 := of_decide_eq_true h29;refine cSR fun K10 hK10=>sAs F rfl rfl rfl (qAs rfl rfl rfl (qNK hK10 ?_));clear hK10;clear F a;intro a F;refine wp_ret ?_;simp only [Exit.inBlock, Exit.then];refine bRet2 Tryz.results15 F rfl rfl ?_
   first
   | (rw [values_bad (.inl h14)]; exact nilV_post H 2)
   | (rw [values_bad (.inr (.inl h18))]; exact nilV_post H 2)
   | (rw [values_bad (.inr (.inr h22))]; exact nilV_post H 2)
   | (rw [← hgo, goV_many h29]; exact nilV_post H 5)
   | (rw [← hgo, goV_none (vStep_none (List.mem_of_getElem? hl) h46)]; exact nilV_post H 5)
   | (rw [← hgo, goV_end h29' hst (by omega)]; exact ⟨A2, c2, rfl, H.sel [0] rfl rfl⟩)
  replace h29 := of_decide_eq_false h29
  have h29' : ¬ most < (vals.length : Int) := by omega
  obtain ⟨f, rfl⟩ : ∃ f', m = f' + 1 := ⟨m - 1, by omega⟩
  refine wp_skip (hK8 _ _ (cSR fun K11 hK11=>sMv F rfl rfl rfl ?_));clear hK8;clear F a;intro a F;refine sCall Tryz.call32 F rfl rfl rfl (cloneY_any A2 c2 vals _ (H.rowsAt 0 rfl bRows_one (by omega)) (by omega)) ?_;rintro e w ⟨A3, c3, rfl, H2⟩;replace H := H.join H2; clear H2;refine ⟨_, rfl, ?_⟩;clear F a; intro a F;refine sAs F rfl rfl rfl (qNK hK11 ?_);clear hK11;clear F a;intro a F;refine cSeq (fun K12 hK12 => ?_);refine cSR fun K13 hK13=>sFa (f := 3) (k := 3) Tryz.underlying46 rfl Tryz.sizeOf41 rfl rfl F rfl rfl rfl (qLd Tryz.isAgg41 rfl rfl rfl (H.cell 2 rfl rfl) (qLen Tryz.underlying41 rfl rfl rfl (qMv rfl rfl rfl (qNK hK13 ?_))));clear hK13;clear F a;intro a F;refine wp_block ?_
  refine cLoopR [1, 2, 6, 33, 34] (fun m ups w => ∃ (j : Nat) (A3 : Option Addr) (c3 : Nat), m = p.threads.length - j ∧ ups = [(7, .slice A3 (nextV p vals j).length c3), (35, .int .i64 ((j : Nat) : Int))] ∧ j ≤ p.threads.length ∧ (∀ i l, i < j → p.threads[i]? = some l → (writesR l vals).2 = true) ∧ Own w0 none w [.rws 5 1 (.slice A3 (nextV p vals j).length c3) (bRows (nextV p vals j)), .rws 5 1 (.slice A2 vals.length c2) (bRows vals), .blk b2 ([.string p.name, .slice LA p.locs.length LC, .slice IA p.init.length IC, .slice TA p.threads.length TC, Go.Proofs.YtklpiodciblabaaGreatDoor.b8 p.ask] ++ [d1, d2, d3, d4, d5]) 46]) F (p.threads.length) [(7, .slice A3 vals.length c3), (35, .int .i64 ((0 : Nat) : Int))] (by repeat (first | exact SubR.nil | (apply SubR.cons; · rfl))) ?_ ?_ ?_
  · have e0 : nextV p vals 0 = vals := by simp [nextV]
    refine ⟨0, A3, c3, rfl, by rw [e0], Nat.zero_le _, fun i l hi => by omega, ?_⟩
    rw [e0]; exact H
  · repeat (first | exact trivial | refine Le.cons rfl ?_)
  clear F
  clear H
  intro m ups a w hI F
  obtain ⟨j, A3, c3, rfl, rfl, hj, hok, H⟩ := hI
  refine cSR fun K14 hK14=>sBin F rfl rfl rfl rfl bLss (qNK hK14 ?_);clear hK14;clear F a;intro a F;refine cSeq (fun K15 hK15 => ?_)
  refine cIf F rfl (fun h36 => ?_) (fun h36 => ?_)
  ·
   replace h36 := of_decide_eq_true h36
   have hjl : j < p.threads.length := by omega
   obtain ⟨l, hl⟩ : ∃ l, p.threads[j]? = some l := ⟨_, List.getElem?_eq_getElem hjl⟩
   obtain ⟨bT, oT, BT, CT, rfl, hT1, hT2, hT3⟩ := hp.threads j l hl
   have hl6 := thread_six8 hr0 hl
   refine wp_skip (hK15 _ _ ?_);clear hK15;refine cSeq (fun K16 hK16 => ?_);refine wp_block ?_;refine cSR fun K17 hK17=>?_
   refine sIx Tryz.underlying41 Tryz.sizeOf22 F rfl rfl rfl rfl ?_ ?_
   focus (first | omega | decide | (simp; omega))
   clear F a; intro a F;refine sLd Tryz.isAgg22 F rfl rfl rfl (H.arg hT1) (qAs rfl rfl rfl (qNK hK17 (qSR fun K18 hK18=>qMv rfl rfl rfl (qMv rfl rfl rfl ?_))));clear hK17;clear F a;intro a F;refine sCall Tryz.call33 F rfl rfl rfl (Md.writes_any l vals hl6 BT CT A2 c2 _ (hT2.own H) (H.rowsAt 1 rfl bRows_one (by omega)) (by omega)) ?_;rintro e w ⟨A5, c5, rfl, H2⟩;replace H := H.join H2; clear H2;refine ⟨_, rfl, ?_⟩;clear F a; intro a F;refine sMv F rfl rfl rfl (qExt rfl rfl rfl rfl (qExt rfl rfl rfl rfl (qAs rfl rfl rfl (qAs rfl rfl rfl (qNK hK18 ?_)))));clear hK18;clear F a;intro a F;refine cSeq (fun K19 hK19 => ?_);refine cSR fun K20 hK20=>sMv F rfl rfl rfl (qNot rfl rfl rfl (qNK hK20 ?_));clear hK20;clear F a;intro a F
   refine cIf F rfl (fun h46 => ?_) (fun h46 => ?_)
   ·
    replace h46 := notT h46;refine cSR fun K21 hK21=>sAs F rfl rfl rfl (qAs rfl rfl rfl (qNK hK21 ?_));clear hK21;clear F a;intro a F;refine wp_ret ?_;simp only [Exit.inBlock, Exit.then];refine bRet2 Tryz.results15 F rfl rfl ?_
    first
    | (rw [values_bad (.inl h14)]; exact nilV_post H 2)
    | (rw [values_bad (.inr (.inl h18))]; exact nilV_post H 2)
    | (rw [values_bad (.inr (.inr h22))]; exact nilV_post H 2)
    | (rw [← hgo, goV_many h29]; exact nilV_post H 5)
    | (rw [← hgo, goV_none (vStep_none (List.mem_of_getElem? hl) h46)]; exact nilV_post H 5)
    | (rw [← hgo, goV_end h29' hst (by omega)]; exact ⟨A2, c2, rfl, H.sel [2] rfl rfl⟩)
   replace h46 := notF h46;refine wp_skip (hK19 _ _ (cReg (sMv F rfl rfl rfl (qMv rfl rfl rfl ?_))));clear hK19;clear F a;intro a F;refine sAppO (bytes := 1) (sz := 1) H 1 Tryz.underlying23 Tryz.typeInfo5 rfl rfl rfl rfl rfl rfl F rfl rfl rfl rfl rfl ?hm ((H.rowsAt 0 rfl bRows_one (by omega))) (bRows_one) (bRows_cell) ?hb ?_
   case hm => first | rfl | (simp; done) | omega | (simp only [List.length_take, List.length_map]; omega) | (simp; omega)
   case hb => exact ((by rw [List.length_map]; have := nextV_le p vals j; have := writes_le l vals; have := hV.thr4; omega))
   clear F a H; intro A49 c49 a w F H;refine sAs F rfl rfl rfl (qNK hK16 (qReg ?_));clear hK16;clear F a;intro a F
   refine sBin F rfl rfl rfl rfl (bAddN (j := 1) ?_) ?_
   focus omega
   clear F a; intro a F;refine sMv F rfl rfl rfl ?_;clear F a;intro a F;refine sNil ?_
   have e9 : bRows (nextV p vals j) ++ bRows (writesR l vals).1 = bRows (nextV p vals (j + 1)) := by rw [nextV_succ hl]; simp [bRows]
   have e8 : (bRows (nextV p vals (j + 1))).length = (nextV p vals (j + 1)).length := List.length_map _
   rw [e9, e8] at H F
   refine ⟨_, by omega, _, ⟨j + 1, A49, c49, rfl, rfl, by omega, fun i l' hi hl' => ?_, H.tail⟩, F.to (by repeat (first | exact trivial | refine Le.cons rfl ?_))⟩
   rcases Nat.lt_or_ge i j with hij | hij
   · exact hok i l' hij hl'
   · obtain rfl : i = j := by omega
     obtain rfl := Option.some.inj (hl.symm.trans hl')
     exact h46
  replace h36 := of_decide_eq_false h36
  obtain rfl : j = p.threads.length := by omega
  refine wp_exit ?_;refine hK12 _ _ (cSR fun K22 hK22=>sMv F rfl rfl rfl ?_);clear hK12;clear F a;intro a F;refine sCall Tryz.call31 F rfl rfl rfl (distinct_any A3 c3 (nextV p vals p.threads.length) _ (H.rowsAt 0 rfl bRows_one (by omega)) (by have := nextV_le p vals p.threads.length; have := hV.thr4; omega)) ?_;rintro e w ⟨A6, c6, rfl, H2⟩;replace H := H.join H2; clear H2;refine ⟨_, rfl, ?_⟩;clear F a; intro a F;refine sAs F rfl rfl rfl (qNK hK22 ?_);clear hK22;clear F a;intro a F;refine cSeq (fun K23 hK23 => ?_);refine cSR fun K24 hK24=>sMv F rfl rfl rfl (qLen Tryz.underlying23 rfl rfl rfl (qMv rfl rfl rfl (qLen Tryz.underlying23 rfl rfl rfl (qBin rfl rfl rfl rfl bEql (qNK hK24 ?_)))));clear hK24;clear F a;intro a F
  refine cIf F rfl (fun h57 => ?_) (fun h57 => ?_)
  ·
   replace h57 := beqT h57
   have hst := vStep_some (p := p) (vals := vals) (fun l hl => by obtain ⟨i, hi⟩ := List.mem_iff_getElem?.1 hl; exact hok i l (List.getElem?_eq_some_iff.1 hi).1 hi)
   refine cSR fun K25 hK25=>sMv F rfl rfl rfl (qAs rfl rfl rfl (qAs rfl rfl rfl (qNK hK25 ?_)));clear hK25;clear F a;intro a F;refine wp_ret ?_;simp only [Exit.inBlock, Exit.then];refine bRet2 Tryz.results15 F rfl rfl ?_
   first
   | (rw [values_bad (.inl h14)]; exact nilV_post H 2)
   | (rw [values_bad (.inr (.inl h18))]; exact nilV_post H 2)
   | (rw [values_bad (.inr (.inr h22))]; exact nilV_post H 2)
   | (rw [← hgo, goV_many h29]; exact nilV_post H 5)
   | (rw [← hgo, goV_none (vStep_none (List.mem_of_getElem? hl) h46)]; exact nilV_post H 5)
   | (rw [← hgo, goV_end h29' hst (by omega)]; exact ⟨A2, c2, rfl, H.sel [2] rfl rfl⟩)
  replace h57 := beqF h57
  have hst := vStep_some (p := p) (vals := vals) (fun l hl => by obtain ⟨i, hi⟩ := List.mem_iff_getElem?.1 hl; exact hok i l (List.getElem?_eq_some_iff.1 hi).1 hi)
  refine wp_skip (hK23 _ _ (cReg (sMv F rfl rfl rfl (qAs rfl rfl rfl ?_))));clear hK23;clear F a;intro a F;refine sNil ?_
  have hle := step_le hdd (p := p) p.threads.length
  exact ⟨f, by omega, _, ⟨f, distL (nextV p vals p.threads.length), A6, c6, rfl, rfl, dist_dist _, by omega, by rw [← hgo, goV_on h29' hst (by omega)], H.sel [0, 3] rfl rfl⟩, F.to (by repeat (first | exact trivial | refine Le.cons rfl ?_))⟩
-- SqI
open Go.RowKit
set_option maxRecDepth 100000
def readsL (evs : List Ev) : List UInt8 := (evs.filter fun e => e.kind == 1).map Ev.val
-- SqJ
open Go.Proofs.Tryz
open Go.RowKit
set_option maxRecDepth 100000
section
variable {P : Program} {l : List Oper} {Q : Exit → Act → World → Prop} {N : Nat} {a : Act} {env : List (Nat × Value)} {rest : List Oper} {d : Tmp} {ty : TypeId} {pos : String} {af : Array Edge} {g : Option (Nat × Bool)} {w : World}
theorem sCvY {s t e : TypeId} {x : Operand} {A : Option Addr} {n c : Nat} {xs : List UInt8} (hs : P.underlying s = some (.slice e)) (he : P.underlying e = some (.int .u8)) (ht : P.underlying t = some .string) (F : Has N a env) (hg : wants l env g = true) (hN : Nat.blt d N = true)
    (hx : ev env x = some (.slice A n c)) (hn : n = xs.length) (hc : RowsAt w A 1 (xs.map fun x => [b8 x]))
    (K : ∀ a, Has N a ((d, .string ⟨xs.toArray⟩) :: env) → wpList P l.toArray Q rest a w) : wpList P l.toArray Q (⟨some d, .convert s t x, ty, pos, af, g⟩ :: rest) a w := by
  subst hn
  have h : (convert s t (.slice A xs.length c)).run P w = .ok (.string ⟨xs.toArray⟩) w := by
    rcases Nat.eq_zero_or_pos xs.length with h0 | h0
    · obtain rfl := List.eq_nil_of_length_eq_zero h0
      show (convert s t (.slice A 0 c)).run P w = .ok (.string ⟨#[]⟩) w
      rw [run_convert_bytes_string w s t e A 0 c hs he ht]
      cases A with
      | none => rfl
      | some q =>
        have hl := run_loadCells_list (P := P) w q [] (fun j v hj => by simp at hj)
        simp only [List.length_nil] at hl
        exact run_bytesToString (P := P) w q 0 c [] hl
    · obtain ⟨b, o, rfl, _⟩ := BytesAt.get (w := w) (l := xs) hc (List.getElem?_eq_getElem h0)
      refine run_convert_bytes_back (P := P) w s t e ⟨b, o, none⟩ c xs hs he ht (fun j hj => ?_)
      obtain ⟨b', o', he, hv⟩ := BytesAt.get (w := w) (l := xs) hc (List.getElem?_eq_getElem hj)
      cases he
      rw [Addr.add_mid];rw [Nat.mul_one] at hv
      exact hv
  exact stepV F hg rfl hN (show (execOp a.eval ⟨some d, .convert s t x, ty, pos, af, g⟩).run P w = .ok (.value (.string ⟨xs.toArray⟩)) w by
    simp only [execOp, F.eval hx, Sem.run_bind, h, Result.andThen_ok]
    rfl) K
theorem qCvY {s t e : TypeId} {x : Operand} {A : Option Addr} {n c : Nat} {xs : List UInt8} (hs : P.underlying s = some (.slice e)) (he : P.underlying e = some (.int .u8)) (ht : P.underlying t = some .string) (hg : wants l env g = true) (hN : Nat.blt d N = true) (hx : ev env x = some (.slice A n c)) (hn : n = xs.length) (hc : RowsAt w A 1 (xs.map fun x => [b8 x])) (K : ∀ a, Has N a ((d, .string ⟨xs.toArray⟩) :: env) → wpList P l.toArray Q rest a w) : ∀ a, Has N a env → wpList P l.toArray Q (⟨some d, .convert s t x, ty, pos, af, g⟩ :: rest) a w := fun a F => sCvY hs he ht F hg hN hx hn hc K
end
theorem bytes_toL (xs : List UInt8) : (⟨xs.toArray⟩ : ByteArray).toList = xs := by rw [toList_data]
theorem Bytes_any (A B : Option Addr) (CA CB : Nat) (l q : List UInt8) (w0 : World) (hA : RowsAt w0 A 1 (l.map fun x => [b8 x])) (hB : RowsAt w0 B 1 (q.map fun x => [b8 x])) :
    Calls Tryz.prog 22 #[.slice A l.length CA, .slice B q.length CB] w0 fun e w' => e = .returned (.bool (l == q)) ∧ Below w0.heap.size w0 w' := by
  have H := Own.start w0 none
  refine enterF func22 rfl ntmps22 rfl (fun a F => ?_);refine cSR fun K1 hK1=>sAs F rfl rfl rfl (qNK hK1 (qSR fun K2 hK2=>qMv rfl rfl rfl (qCvY (xs := l) underlying23 underlying5 underlying9 rfl rfl rfl rfl (hA.own H) (qMv rfl rfl rfl (qCvY (xs := q) underlying23 underlying5 underlying9 rfl rfl rfl rfl (hB.own H) (qBin rfl rfl rfl rfl bStrEq (qAs rfl rfl rfl (qNK hK2 ?_))))))));clear hK1 hK2;clear F a;intro a F;refine wp_ret ?_;refine bRet results22 F rfl ?_
  exact ⟨retB (by rw [bytes_toL, bytes_toL]), H.below⟩
theorem eTEv : EqT Tryz.prog 2 34 [.int, .u8, .u8, .u8, .u8, .u8, .u8] true := by
  have hi : EqT Tryz.prog 1 3 [.int] false := eqInt underlying3 (.inr rfl)
  have h := eqStruct (P := Tryz.prog) (D := 1) (kss := [([.int], false), ([.u8], false), ([.u8], false), ([.u8], false), ([.u8], false), ([.u8], false), ([.u8], false)]) underlying34 (by kernel_rfl)
    ⟨rfl, by decide, sizeOf3, isAgg3, fun _ => rfl, hi, rfl, by decide, sizeOf5, isAgg5, fun _ => rfl, eT8, rfl, by decide, sizeOf5, isAgg5, fun _ => rfl, eT8,
      rfl, by decide, sizeOf5, isAgg5, fun _ => rfl, eT8, rfl, by decide, sizeOf5, isAgg5, fun _ => rfl, eT8,
      rfl, by decide, sizeOf5, isAgg5, fun _ => rfl, eT8, rfl, by decide, sizeOf5, isAgg5, fun _ => rfl, eT8, trivial⟩
  exact h
theorem fitsEv (x : Ev) : Fits [.int, .u8, .u8, .u8, .u8, .u8, .u8] x.cells := by
  have hb : ∀ c : UInt8, CK.ok .u8 (b8 c) := fun c => ⟨_, rfl⟩
  exact ⟨⟨_, rfl⟩, hb _, hb _, hb _, hb _, hb _, hb _, trivial⟩
def eqEv (x y : Ev) : Bool := x.kind == y.kind && x.loc == y.loc && x.val == y.val && x.mode == y.mode && x.ins == y.ins && x.pos == y.pos
theorem eqEv_iff {x y : Ev} : eqEv x y = true ↔ x = y := by
  cases x; cases y
  simp [eqEv, and_assoc]
theorem ceqEv (x y : Ev) : ceq x.cells y.cells = eqEv x y := by
  have h8 : ∀ a b : UInt8, ((a.toNat : Int) == (b.toNat : Int)) = (a == b) := fun a b => by
    by_cases h : a = b
    · subst h; simp
    · have h1 : ¬ (a.toNat : Int) = (b.toNat : Int) := fun e => h (UInt8.toNat_inj.1 (Int.ofNat_inj.1 e))
      rw [beq_eq_false_iff_ne.2 h1, beq_eq_false_iff_ne.2 h]
  simp only [Ev.cells, ceq, cellEq, b8, eqEv, h8, beq_self_eq_true, Bool.true_and, Bool.and_true, Bool.and_assoc]
theorem bEqEv {x y : Operand} {u v : Ev} : BinR Tryz.prog .eql 34 x y (.agg u.cells.toArray) (.agg v.cells.toArray) (.bool (eqEv u v)) := by
  have h := bEqT (x' := x) (y' := y) eTEv (by kernel_rfl) (by decide) (fitsEv u) (fitsEv v)
  rw [ceqEv] at h
  exact h
theorem bNeEv {x y : Operand} {u v : Ev} : BinR Tryz.prog .neq 34 x y (.agg u.cells.toArray) (.agg v.cells.toArray) (.bool (!eqEv u v)) := by
  have h := bNeT (x' := x) (y' := y) eTEv (by kernel_rfl) (by decide) (fitsEv u) (fitsEv v)
  rw [ceqEv] at h
  exact h
def eqEvs : List Ev → List Ev → Bool
  | [], [] => true
  | x :: l, y :: m => eqEv x y && eqEvs l m
  | _, _ => false
theorem eqEvs_iff : ∀ {l m : List Ev}, eqEvs l m = true ↔ l = m
  | [], [] => by simp [eqEvs]
  | x :: l, y :: m => by rw [eqEvs, Bool.and_eq_true, eqEv_iff, eqEvs_iff, List.cons.injEq]
  | [], _ :: _ => by simp [eqEvs]
  | _ :: _, [] => by simp [eqEvs]
def prF (q : Pr) : By := fun i => if i = 0 then q.1 else q.2
theorem same_pr {p q : Pr} : same 2 (prF p) (prF q) = true ↔ p = q := by
  rw [same_iff]
  constructor
  · intro h
    have h0 : p.1 = q.1 := h 0 (by omega)
    have h1 : p.2 = q.2 := h 1 (by omega)
    exact Prod.ext h0 h1
  · rintro rfl i _; rfl
theorem list_eq {α : Type} {l m : List α} (hl : l.length = m.length) (h : ∀ i, i < l.length → l[i]? = m[i]?) : l = m := by
  refine List.ext_getElem? fun i => ?_
  rcases Nat.lt_or_ge i l.length with h1 | h1
  · exact h i h1
  · rw [List.getElem?_eq_none h1, List.getElem?_eq_none (by omega)]
set_option maxHeartbeats 2000000 in
theorem pairs8_any (A B : Option Addr) (CA CB : Nat) (l q : List Pr) (w0 : World) (hA : RowsAt w0 A 2 (l.map prC)) (hB : RowsAt w0 B 2 (q.map prC)) (hl : l.length ≤ 1000000000000) (hq : q.length ≤ 1000000000000) :
    Calls Tryz.prog 19 #[.slice A l.length CA, .slice B q.length CB] w0 fun e w' => e = .returned (.bool (l == q)) ∧ Below w0.heap.size w0 w' := by
  have H := Own.start w0 none
  refine enterF func19 rfl ntmps19 rfl (fun a F => ?_);refine cSR fun K1 hK1=>sAs F rfl rfl rfl (qNK hK1 ?_);clear hK1;clear F a;intro a F;refine cSeq (fun K2 hK2 => ?_);refine cSR fun K3 hK3=>sMv F rfl rfl rfl (qLen underlying25 rfl rfl rfl (qMv rfl rfl rfl (qLen underlying25 rfl rfl rfl (qBin rfl rfl rfl rfl bNeq (qNK hK3 ?_)))));clear hK3;clear F a;intro a F
  refine cIf F rfl (fun h10 => ?_) (fun h10 => ?_)
  ·
   replace h10 := bneT h10;refine cSR fun K4 hK4=>sAs F rfl rfl rfl (qNK hK4 ?_);clear hK4;clear F a;intro a F;refine wp_ret ?_;simp only [Exit.then];refine bRet results19 F rfl ?_
   first
     | exact ⟨retB (beq_eq_false_iff_ne.2 (fun e => by subst e; omega)).symm, H.below⟩
     | exact ⟨retB (beq_eq_false_iff_ne.2 (fun e => by subst e; have hxy := Option.some.inj (hx.symm.trans hy); subst hxy; rw [same_pr.2 rfl] at h24; cases h24)).symm, H.below⟩
     | exact ⟨retB (beq_iff_eq.2 (list_eq (by omega) (fun i hi => ht i (by omega)))).symm, H.below⟩
  replace h10 := bneF h10;refine wp_skip (hK2 _ _ ?_);clear hK2;refine cSeq (fun K5 hK5 => ?_);refine cSR fun K6 hK6=>sMv F rfl rfl rfl (qLen underlying25 rfl rfl rfl (qMv rfl rfl rfl (qNK hK6 ?_)));clear hK6;clear F a;intro a F;refine wp_block ?_
  refine cLoopR [0, 1, 12] (fun m ups w => ∃ j : Nat, m = l.length - j ∧ ups = [(13, .int .i64 (j : Int))] ∧ j ≤ l.length ∧ (∀ i, i < j → l[i]? = q[i]?) ∧ Own w0 none w []) F (l.length) [(13, .int .i64 ((0 : Nat) : Int))] (by repeat (first | exact SubR.nil | (apply SubR.cons; · rfl))) ?_ ?_ ?_
  · exact ⟨0, rfl, rfl, by omega, fun i hi => by omega, H⟩
  · repeat (first | exact trivial | refine Le.cons rfl ?_)
  clear F
  clear H
  intro m ups a w hI F
  obtain ⟨j, rfl, rfl, hj, ht, H⟩ := hI
  refine cSR fun K7 hK7=>sBin F rfl rfl rfl rfl bLss (qNK hK7 ?_);clear hK7;clear F a;intro a F;refine cSeq (fun K8 hK8 => ?_)
  refine cIf F rfl (fun h14 => ?_) (fun h14 => ?_)
  ·
   replace h14 := of_decide_eq_true h14
   have hjl : j < l.length := by omega
   have hjq : j < q.length := by omega
   obtain ⟨x, hx⟩ : ∃ x, l[j]? = some x := ⟨_, List.getElem?_eq_getElem hjl⟩
   obtain ⟨y, hy⟩ : ∃ y, q[j]? = some y := ⟨_, List.getElem?_eq_getElem hjq⟩
   obtain ⟨bA, oA, rfl, hR1⟩ := hA j (bs 2 (prF x)) (by rw [List.getElem?_map, hx]; rfl)
   obtain ⟨bB, oB, rfl, hR2⟩ := hB j (bs 2 (prF y)) (by rw [List.getElem?_map, hy]; rfl)
   refine wp_skip (hK8 _ _ ?_);clear hK8;refine cSeq (fun K9 hK9 => ?_);refine wp_block ?_;refine cSR fun K10 hK10=>sMv F rfl rfl rfl (qAs rfl rfl rfl (qNK hK10 ?_));clear hK10;clear F a;intro a F;refine cSeq (fun K11 hK11 => ?_);refine cRegRO (by kernel_rfl) H ?_;replace H := H.drew;refine eTF 0 rfl (by kernel_rfl) F rfl rfl rfl (fun w=>rMv F rfl) H qq0 (qTF 1 rfl (by kernel_rfl) rfl rfl rfl (fun a F w=>rMv F rfl) H qq0 ?_);clear F a;intro a F
   refine eTakeF (k := 2) (i := 2) rfl (by kernel_rfl) F rfl rfl rfl (fun w => rIx underlying25 sizeOf38 F rfl rfl ?_) H (fun _ _ _ h => h) ?_
   focus exact hjl
   clear F a; intro a F;refine eT 3 rfl (by kernel_rfl) F rfl rfl rfl rfl (fun w H=>rLrB underlying38 rfl sizeOf38 F rfl (H.argR hR1)) H qq0 (qTF 4 rfl (by kernel_rfl) rfl rfl rfl (fun a F w=>rMv F rfl) H qq0 (qTF 5 rfl (by kernel_rfl) rfl rfl rfl (fun a F w=>rMv F rfl) H qq0 ?_));clear F a;intro a F
   refine eTakeF (k := 6) (i := 6) rfl (by kernel_rfl) F rfl rfl rfl (fun w => rIx underlying25 sizeOf38 F rfl rfl ?_) H (fun _ _ _ h => h) ?_
   focus exact hjq
   clear F a; intro a F;refine eT 7 rfl (by kernel_rfl) F rfl rfl rfl rfl (fun w H=>rLrB underlying38 rfl sizeOf38 F rfl (H.argR hR2)) H qq0 (qTF 8 rfl (by kernel_rfl) rfl rfl rfl (fun a F w=>rBin F rfl rfl (bNeY eT38 gT38 rfl)) H qq0 ?_);clear F a;intro a F;refine eNil (k := 9) (by kernel_rfl) ?_;refine hK11 _ _ ?_;clear hK11
   refine cIf F rfl (fun h24 => ?_) (fun h24 => ?_)
   ·
    replace h24 := notT h24;refine cSR fun K12 hK12=>sAs F rfl rfl rfl (qNK hK12 ?_);clear hK12;clear F a;intro a F;refine wp_ret ?_;simp only [Exit.inBlock, Exit.then];refine bRet results19 F rfl ?_
    first
      | exact ⟨retB (beq_eq_false_iff_ne.2 (fun e => by subst e; omega)).symm, H.below⟩
      | exact ⟨retB (beq_eq_false_iff_ne.2 (fun e => by subst e; have hxy := Option.some.inj (hx.symm.trans hy); subst hxy; rw [same_pr.2 rfl] at h24; cases h24)).symm, H.below⟩
      | exact ⟨retB (beq_iff_eq.2 (list_eq (by omega) (fun i hi => ht i (by omega)))).symm, H.below⟩
   replace h24 := notF h24;refine wp_skip (hK9 _ _ (cReg ?_));clear hK9
   refine sBin F rfl rfl rfl rfl (bAddN (j := 1) ?_) ?_
   focus omega
   clear F a; intro a F;refine sMv F rfl rfl rfl ?_;clear F a;intro a F;refine sNil ?_
   have he : x = y := same_pr.1 (by simpa using h24)
   exact ⟨_, by omega, _, ⟨j + 1, rfl, rfl, by omega, fun i hi => (by
     rcases Nat.lt_or_ge i j with h | h
     · exact ht i h
     · obtain rfl : i = j := by omega
       rw [hx, hy, he]), H⟩, F.to (by repeat (first | exact trivial | refine Le.cons rfl ?_))⟩
  replace h14 := of_decide_eq_false h14;refine wp_exit ?_;refine hK5 _ _ (cSR fun K13 hK13=>sAs F rfl rfl rfl (qNK hK13 ?_));clear hK5 hK13;clear F a;intro a F;refine wp_ret ?_;refine bRet results19 F rfl ?_
  first
    | exact ⟨retB (beq_eq_false_iff_ne.2 (fun e => by subst e; omega)).symm, H.below⟩
    | exact ⟨retB (beq_eq_false_iff_ne.2 (fun e => by subst e; have hxy := Option.some.inj (hx.symm.trans hy); subst hxy; rw [same_pr.2 rfl] at h24; cases h24)).symm, H.below⟩
    | exact ⟨retB (beq_iff_eq.2 (list_eq (by omega) (fun i hi => ht i (by omega)))).symm, H.below⟩
structure PathAt (w : World) (q : PlP) : Prop where
  evs : RowsAt w q.A1 7 (q.path.evs.map Ev.cells)
  data : RowsAt w q.A2 2 (q.path.data.map prC)
  ctrl : RowsAt w q.A3 2 (q.path.ctrl.map prC)
  rmw : RowsAt w q.A4 2 (q.path.rmw.map prC)
  evsN : q.path.evs.length ≤ 1000000
  dataN : q.path.data.length ≤ 1000000000000
  ctrlN : q.path.ctrl.length ≤ 1000000000000
  rmwN : q.path.rmw.length ≤ 1000000000000
theorem PathAt.own {w0 w : World} {rs : List Res} {q : PlP} (h : PathAt w0 q) (H : Own w0 none w rs) : PathAt w q := ⟨h.evs.own H, h.data.own H, h.ctrl.own H, h.rmw.own H, h.evsN, h.dataN, h.ctrlN, h.rmwN⟩
def sameP (p q : PathP) : Bool := eqEvs p.evs q.evs && same 8 p.regs q.regs && p.data == q.data && p.ctrl == q.ctrl && p.rmw == q.rmw
end Go.Proofs.YtklpiodciblabaaGreatDoor
