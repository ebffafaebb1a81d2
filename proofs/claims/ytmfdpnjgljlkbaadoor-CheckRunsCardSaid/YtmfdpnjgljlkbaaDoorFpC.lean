/-
  Plain Lean: a folded thread runs as the thread. Conditions: none.
-/
import Derived.Test.YtmfdpnjgljlkbaaDoorFpB
import Derived.Test.YtmfdpnjgljlkbaaDoorVcL
set_option linter.unusedSimpArgs false
set_option linter.unusedVariables false
namespace Go.Proofs.YtmfdpnjgljlkbaaDoor

def argP (r : Bool) (n : UInt8) (s : By) : UInt8 := if r = true then s (n % 8).toNat else n
def testP (x : Ins) (a b : UInt8) : Bool := if x.fn = 4 then a == b else if x.fn = 5 then a != b else decide (a < b)
def fnP (k : Nat) (a b : UInt8) : UInt8 := if k = 1 then a + b else if k = 2 then a - b else if k = 3 then a ^^^ b else 0
def loadP (loads : List UInt8) (n : Nat) : UInt8 := if 0 < loads.length then loads.getD (n % loads.length) 0 else 0
/-- One instruction: the next one's number, the registers, what is written out. -/
def stepR (loads : List UInt8) (x : Ins) (i : Nat) (s : By) (out : List UInt8) : Nat × By × List UInt8 :=
  if x.op = 8 then (if testP x (argP x.aR x.aN s) (argP x.bR x.bN s) = true then i + 1 + x.skip.toNat else i + 1, s, out)
  else if x.op = 3 then (i + 1, put s (x.dst % 8).toNat (fnP (x.fn % 4).toNat (argP x.aR x.aN s) (argP x.bR x.bN s)), out)
  else
    let o := out ++ [x.op, x.loc, x.mode, argP x.aR x.aN s, argP x.bR x.bN s]
    (i + 1, if x.op ≠ 2 ∧ x.op ≠ 7 then put s (x.dst % 8).toNat (loadP loads o.length) else s, o)
def runG (l : List Ins) (loads : List UInt8) : Nat → Nat → By → List UInt8 → By × List UInt8
  | 0, _, s, out => (s, out)
  | f + 1, i, s, out => match l[i]? with
    | none => (s, out)
    | some x => runG l loads f (stepR loads x i s out).1 (stepR loads x i s out).2.1 (stepR loads x i s out).2.2
theorem runG_none {l : List Ins} {loads : List UInt8} {f i : Nat} {s : By} {out : List UInt8} (h : l.length ≤ i) : runG l loads f i s out = (s, out) := by
  cases f with
  | zero => rfl
  | succ f => rw [runG, List.getElem?_eq_none h]
theorem runG_some {l : List Ins} {loads : List UInt8} {f i : Nat} {s : By} {out : List UInt8} {x : Ins} (h : l[i]? = some x) : runG l loads (f + 1) i s out = runG l loads f (stepR loads x i s out).1 (stepR loads x i s out).2.1 (stepR loads x i s out).2.2 := by
  rw [runG, h]
theorem step_next {loads : List UInt8} {x : Ins} {i : Nat} {s : By} {out : List UInt8} : i < (stepR loads x i s out).1 := by
  unfold stepR
  split
  · split
    · show i < i + 1 + _; omega
    · exact Nat.lt_succ_self _
  · split <;> exact Nat.lt_succ_self _
/-- What is dead is not reached, or is a skip without effect. -/
def DeadOk (l : List Ins) (al : List Bool) : Prop := ∀ i x, l[i]? = some x → al.getD i false = false → Reach l (List.replicate l.length true) i → x.op = 8 ∧ (wayJ x = false ∨ skippedP al i x.skip.toNat = 0)
theorem all_true {n i : Nat} (h : i < n) : (List.replicate n true).getD i false = true := lgetD_some (by rw [List.getElem?_replicate, if_pos h])
/-- Dead ones are passed. -/
theorem reach_pass {l : List Ins} {al : List Bool} {i : Nat} : ∀ n, Reach l al (i + 1) → i + 1 + n ≤ l.length → ((al.drop (i + 1)).take n).count true = 0 → Reach l al (i + 1 + n)
  | 0, h, _, _ => h
  | n + 1, h, hl, hc => by
    have hx : l[i + 1 + n]? = some l[i + 1 + n] := List.getElem?_eq_getElem (by omega)
    rw [List.take_add_one, List.count_append] at hc
    have ih := reach_pass n h (by omega) (by omega)
    refine .next ih hx (fun ha _ => ?_)
    have this : al[i + 1 + n]? = some true := getD_true ha
    rw [List.getElem?_drop, this] at hc
    simp at hc
theorem reach_dead {l : List Ins} {al : List Bool} (hv : hvP l) (hd : DeadOk l al) {i : Nat} (h : Reach l (List.replicate l.length true) i) : Reach l al i := by
  induction h with
  | zero => exact .zero
  | @next i x hr hx hn ih =>
    have hi := (List.getElem?_eq_some_iff.1 hx).1
    exact .next ih hx (fun _ h8 => hn (all_true hi) h8)
  | @jump i x hr hx _ h8 hj ih =>
    cases ha : al.getD i false with
    | true => exact .jump ih hx ha h8 hj
    | false =>
      rcases (hd i x hx ha hr).2 with h | h
      · rw [hj] at h; cases h
      · exact reach_pass _ (.next ih hx (fun h => by rw [ha] at h; cases h)) (hv i x hx h8).2 h
theorem skipped_set {al : List Bool} {i s k : Nat} (h : skippedP al i s = 0) : skippedP (al.set k false) i s = 0 := by
  unfold skippedP at h ⊢
  rw [List.count_eq_zero] at h ⊢
  intro hm
  obtain ⟨j, hj⟩ := List.mem_iff_getElem?.1 hm
  refine h (List.mem_iff_getElem?.2 ⟨j, ?_⟩)
  rw [List.getElem?_take] at hj ⊢
  split at hj
  · rename_i hjs
    rw [if_pos hjs, List.getElem?_drop] at *
    rw [List.getElem?_set] at hj
    split at hj
    · split at hj <;> cases hj
    · exact hj
  · cases hj
theorem dead_set {l : List Ins} {al : List Bool} {k : Nat} (hd : DeadOk l al) (hk : ∀ x, l[k]? = some x → Reach l (List.replicate l.length true) k → x.op = 8 ∧ (wayJ x = false ∨ skippedP al k x.skip.toNat = 0)) : DeadOk l (al.set k false) := by
  intro i x hx ha hr
  have key : x.op = 8 ∧ (wayJ x = false ∨ skippedP al i x.skip.toNat = 0) := by
    by_cases e : k = i
    · subst e; exact hk x hx hr
    · refine hd i x hx ?_ hr
      rw [List.getD_eq_getElem?_getD, List.getElem?_set_ne e, ← List.getD_eq_getElem?_getD] at ha
      exact ha
  exact ⟨key.1, key.2.imp id skipped_set⟩
theorem dead_sweep {l : List Ins} {al : List Bool} (hv : hvP l) (hd : DeadOk l al) : ∀ K, DeadOk l (sweepK l (reachP l al l.length) al K).1
  | 0 => hd
  | K + 1 => by
    have ih := dead_sweep hv hd K
    cases e : l[K]? with
    | none => rw [sweepK, e]; exact ih
    | some y =>
      rw [sweepK_at e]
      split
      · rename_i hc
        refine dead_set ih (fun x hx hr => ?_)
        rw [e] at hx; cases hx
        have h1 := (reach_full (fun i x hx h8 => (hv i x hx h8).2) (reach_dead hv hd hr)).2 l.length (Nat.le_of_lt (List.getElem?_eq_some_iff.1 e).1)
        rw [h1] at hc
        simp only [Bool.not_true, Bool.false_or, Bool.and_eq_true, beq_iff_eq, idleP, Bool.or_eq_true, Bool.not_eq_true'] at hc
        exact hc.2
      · exact ih
theorem dead_fold {l : List Ins} (hv : hvP l) : ∀ n al, DeadOk l al → DeadOk l (foldA l n al)
  | 0, _, h => h
  | n + 1, al, h => by
    unfold foldA
    split
    · exact dead_fold hv n _ (dead_sweep hv h _)
    · exact dead_sweep hv h _
theorem dead_ok {l : List Ins} (hv : hvP l) : DeadOk l (foldAl l) := dead_fold hv _ _ (fun i x hx ha _ => by rw [all_true (List.getElem?_eq_some_iff.1 hx).1] at ha; cases ha)
theorem argP_const {r : Bool} {n : UInt8} {s : By} (h : r = false) : argP r n s = n := by rw [argP, h]; rfl
theorem test_ways (x : Ins) (s : By) : (testP x (argP x.aR x.aN s) (argP x.bR x.bN s) = true → wayJ x = true) ∧ (testP x (argP x.aR x.aN s) (argP x.bR x.bN s) = false → wayN x = true) := by
  unfold wayJ wayN
  by_cases h : (x.aR || x.bR) = true
  · rw [if_pos h, if_pos h]; exact ⟨fun _ => rfl, fun _ => rfl⟩
  · rw [if_neg h, if_neg h]
    simp only [Bool.or_eq_true, not_or, Bool.not_eq_true] at h
    rw [argP_const h.1, argP_const h.2]
    have : testP x x.aN x.bN = jumpC x := rfl
    rw [this]
    exact ⟨id, fun h => by rw [h]; rfl⟩
/-- A step of a thread, and the next instruction is reached. -/
theorem step_reach {l : List Ins} {loads : List UInt8} {x : Ins} {i : Nat} {s : By} {out : List UInt8} (hx : l[i]? = some x) (h : Reach l (List.replicate l.length true) i) : Reach l (List.replicate l.length true) (stepR loads x i s out).1 := by
  have hi := (List.getElem?_eq_some_iff.1 hx).1
  unfold stepR
  split
  · rename_i h8
    dsimp only
    split
    · rename_i ht
      exact .jump h hx (all_true hi) h8 ((test_ways x s).1 ht)
    · rename_i ht
      exact .next h hx (fun _ _ => (test_ways x s).2 (by simpa using ht))
  · rename_i h8
    split <;> exact .next h hx (fun _ h => absurd h h8)
theorem keep_step {l : List Ins} {loads : List UInt8} {x : Ins} {i : Nat} {s : By} {out : List UInt8} (hx : l[i]? = some x) (ha : (foldAl l).getD i false = true) :
    stepR loads (keepI x (foldAl l) i) (rank (foldAl l) i) s out = (rank (foldAl l) (stepR loads x i s out).1, (stepR loads x i s out).2) := by
  have hr : rank (foldAl l) (i + 1) = rank (foldAl l) i + 1 := by rw [rank_succ, if_pos ha]
  by_cases h8 : x.op = 8
  · obtain ⟨h1, _, h3⟩ := keep_skip hx ha h8
    have hk : keepI x (foldAl l) i = { x with skip := UInt8.ofNat (skippedP (foldAl l) i x.skip.toNat) } := by unfold keepI; rw [if_pos h8]
    rw [hk] at h1 ⊢
    unfold stepR
    rw [if_pos h8, if_pos h8]
    have ht : testP { x with skip := UInt8.ofNat (skippedP (foldAl l) i x.skip.toNat) } (argP x.aR x.aN s) (argP x.bR x.bN s) = testP x (argP x.aR x.aN s) (argP x.bR x.bN s) := rfl
    show (if testP { x with skip := UInt8.ofNat (skippedP (foldAl l) i x.skip.toNat) } (argP x.aR x.aN s) (argP x.bR x.bN s) = true then rank (foldAl l) i + 1 + (UInt8.ofNat (skippedP (foldAl l) i x.skip.toNat)).toNat else rank (foldAl l) i + 1, s, out) = _
    rw [ht]
    split
    · have h1' : (UInt8.ofNat (skippedP (foldAl l) i x.skip.toNat)).toNat = skippedP (foldAl l) i x.skip.toNat := h1
      rw [← h3, h1']
    · rw [hr]
  · have hk : keepI x (foldAl l) i = x := by unfold keepI; rw [if_neg h8]
    rw [hk]
    unfold stepR
    rw [if_neg h8, if_neg h8]
    split <;> simp only [hr]
theorem run_fold {l : List Ins} (loads : List UInt8) (hv : hvP l) : ∀ (f i f' : Nat) (s : By) (out : List UInt8), l.length ≤ i + f → (foldP l).length ≤ rank (foldAl l) i + f' → Reach l (List.replicate l.length true) i → runG (foldP l) loads f' (rank (foldAl l) i) s out = runG l loads f i s out := by
  intro f
  induction f with
  | zero =>
    intro i f' s out h1 _ _
    rw [runG_none (by rw [fold_len]; exact rank_mono (by omega)), runG_none (by omega)]
  | succ f ih =>
    intro i f' s out h1 h2 hr
    cases hx : l[i]? with
    | none =>
      have hi : l.length ≤ i := by
        rcases Nat.lt_or_ge i l.length with h | h
        · rw [List.getElem?_eq_getElem h] at hx; cases hx
        · exact h
      rw [runG_none (by rw [fold_len]; exact rank_mono hi), runG_none hi]
    | some x =>
      have hn := step_next (loads := loads) (x := x) (i := i) (s := s) (out := out)
      have hr2 := step_reach (loads := loads) (s := s) (out := out) hx hr
      rw [runG_some hx]
      cases ha : (foldAl l).getD i false with
      | true =>
        have hg := fold_get hx ha
        have hlt := (List.getElem?_eq_some_iff.1 hg).1
        obtain ⟨g, rfl⟩ : ∃ g, f' = g + 1 := ⟨f' - 1, by omega⟩
        rw [runG_some hg, keep_step hx ha]
        have hm := rank_mono (al := foldAl l) (show i + 1 ≤ (stepR loads x i s out).1 from hn)
        rw [rank_succ, if_pos ha] at hm
        exact ih _ g _ _ (by omega) (by show (foldP l).length ≤ rank (foldAl l) (stepR loads x i s out).1 + g; omega) hr2
      | false =>
        obtain ⟨h8, hd⟩ := dead_ok hv i x hx ha hr
        have hs : (stepR loads x i s out).2 = (s, out) := by unfold stepR; rw [if_pos h8]
        have hrk : rank (foldAl l) (stepR loads x i s out).1 = rank (foldAl l) i := by
          have h0 : rank (foldAl l) (i + 1) = rank (foldAl l) i := by rw [rank_succ, if_neg (by rw [ha]; simp)]; rfl
          unfold stepR
          rw [if_pos h8]
          dsimp only
          split
          · rename_i ht
            rcases hd with h | h
            · rw [(test_ways x s).1 ht] at h; cases h
            · rw [rank_skip, h, h0]; rfl
          · exact h0
        rw [hs, ← hrk]
        exact ih _ f' _ _ (by omega) (by rw [hrk]; exact h2) hr2
/-- What a thread writes out: what it does, then its registers. -/
def runP (l : List Ins) (s : By) (loads : List UInt8) : List UInt8 := (runG l loads l.length 0 s []).2 ++ (List.range 8).map (runG l loads l.length 0 s []).1
theorem runP_fold {l : List Ins} (hv : hvP l) (s : By) (loads : List UInt8) : runP (foldP l) s loads = runP l s loads := by
  have h := run_fold loads hv l.length 0 (foldP l).length s [] (by omega) (by simp [rank]) .zero
  have h0 : rank (foldAl l) 0 = 0 := by simp [rank]
  rw [h0] at h
  rw [runP, runP, h]
end Go.Proofs.YtmfdpnjgljlkbaaDoor
