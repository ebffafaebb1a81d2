/-
  WALK2. The reference's Right. Conditions: the program lies in memory, and its condition's depth is a number that an int holds.
-/
import Derived.Test.YtfemniboggnbiaaDoorRfB
import Derived.Test.YtfemniboggnbiaaDoorRefK
import Derived.Test.YtfemniboggnbiaaDoorCkL
set_option linter.unusedSimpArgs false
set_option linter.unusedVariables false
namespace Go.Proofs.YtfemniboggnbiaaDoor
open Go.RowKit
set_option maxRecDepth 100000

abbrev B8 := b8
section
variable {p : Prg}
theorem re70 (h : oneWord p.name = false) : rightErr p = 70 := by simp [rightErr, rightFrom, demandK, demandE, h]
theorem re71 (h0 : oneWord p.name = true) (h : locsOk p = false) : rightErr p = 71 := by simp [rightErr, rightFrom, demandK, demandE, h, h0]
theorem re72 (h0 : oneWord p.name = true) (h1 : locsOk p = true) (h : threadsShort p = false) : rightErr p = 72 := by simp [rightErr, rightFrom, demandK, demandE, h, h0, h1]
theorem re73 (h0 : oneWord p.name = true) (h1 : locsOk p = true) (h2 : threadsShort p = true) (h : threadsOk p = false) : rightErr p = 73 := by simp [rightErr, rightFrom, demandK, demandE, h, h0, h1, h2]
theorem re75 (h0 : oneWord p.name = true) (h1 : locsOk p = true) (h2 : threadsShort p = true) (h3 : threadsOk p = true) (h : askOk p = false) : rightErr p = 75 := by simp [rightErr, rightFrom, demandK, demandE, h, h0, h1, h2, h3]
theorem re74 (h0 : oneWord p.name = true) (h1 : locsOk p = true) (h2 : threadsShort p = true) (h3 : threadsOk p = true) (h4 : askOk p = true) (h : condOk p.threads.length p.locs.length 20 p.cond = false) : rightErr p = 74 := by simp [rightErr, rightFrom, demandK, demandE, h, h0, h1, h2, h3, h4]
theorem re0 (h0 : oneWord p.name = true) (h1 : locsOk p = true) (h2 : threadsShort p = true) (h3 : threadsOk p = true) (h4 : askOk p = true) (h : condOk p.threads.length p.locs.length 20 p.cond = true) : rightErr p = 0 := by simp [rightErr, rightFrom, demandK, h, h0, h1, h2, h3, h4]
end
theorem ask13 (m : UInt8) : (m == 1 || m == 2 || m == 3) = (decide (1 ≤ m) && decide (m ≤ 3)) := (fn13 m).symm
theorem rlexPost_form {s : ByteArray} {w w' : World} {e : Ending} (h : RLexPost s w e w') : ∃ (sv : Value) (p : Nat) (f : Int), e = .returned (.tuple #[sv, .int .i64 (p : Int), .int .i64 f]) ∧ Below w.heap.size w w' ∧
    ((f = 0 ∧ lexBad s = none ∧ w'.ownsRow w.heap.size 105 3 sv (toks s).length (rcellsOf (toks s))) ∨ (f ≠ 0 ∧ lexBad s ≠ none ∧ sv = .slice none 0 0)) := by
  obtain ⟨h1, ⟨p, f, h2, h3⟩ | ⟨h2, sv, h3, h4, _⟩⟩ := h
  · refine ⟨_, p, f, h3, h1, .inr ⟨?_, by rw [h2]; simp, rfl⟩⟩
    unfold lexBad at h2
    split at h2
    · cases h2; decide
    · obtain ⟨t, ht, he⟩ := Option.map_eq_some_iff.1 h2
      cases he
      have : ∀ l t, firstBad l = some t → faultOf t ≠ 0 := by
        intro l
        induction l with
        | nil => intro t h; cases h
        | cons a r ih =>
          intro t h
          unfold firstBad at h
          split at h
          · exact ih t h
          · cases h; assumption
      exact this _ _ ht
  · exact ⟨sv, 0, 0, h3, h1, .inl ⟨rfl, h2, h4⟩⟩
theorem own_arr {w w' : World} {e : TypeId} {sz n : Nat} {sv : Value} {xs : List Value} (hb : Below w.heap.size w w') (h : w'.ownsRow w.heap.size e sz sv n xs) : Own w none w' [.arr e sz sv n xs] := by
  refine (Own.start w none).add _ hb ?_ ?_
  · refine ⟨h.1, ?_⟩
    rcases h.2 with h1 | ⟨g, cap, cur, h1, h2, h3⟩
    · exact .inl h1
    · exact .inr ⟨g, cap, cur, h1, Nat.zero_le _, h3⟩
  · intro b hbk
    rcases h.2 with h1 | ⟨g, cap, cur, h1, h2, h3, _⟩
    · rw [show sv = _ from h1.1] at hbk
      simp [Res.arr, Value.ownBlock] at hbk
    · subst h1
      have : b = g := by simpa [Res.arr, Value.ownBlock] using hbk.symm
      subst this
      exact ⟨h2, (Array.getElem?_eq_some_iff.1 h3).1⟩
theorem own_tok {w0 w : World} {row : Option Nat} {rs : List Res} (H : Own w0 row w rs) (i : Nat) {e : TypeId} {sz n C g : Nat} {xs : List Value} (hi : rs[i]? = some (.arr e sz (.slice (some ⟨g, 0, none⟩) n C) n xs)) {j : Nat} {v : Value} (hj : xs[j]? = some v) : w.cell? ⟨g, j, none⟩ = some v := by
  obtain ⟨A, C', h1, h2⟩ := owns_form (H.arr i hi)
  cases h1
  obtain ⟨g', h3, h4⟩ := h2 j v hj
  cases h3
  exact h4
theorem rlex_own {s : ByteArray} {w w' : World} {e : Ending} (h : RLexPost s w e w') : ∃ (A : Option Addr) (n C : Nat) (xs : List Value) (p : Nat) (f : Int), e = .returned (.tuple #[.slice A n C, .int .i64 (p : Int), .int .i64 f]) ∧
    ((f = 0 ∧ lexBad s = none ∧ n = (toks s).length ∧ xs = rcellsOf (toks s) ∧ (0 < n → ∃ g, A = some ⟨g, 0, none⟩)) ∨ (f ≠ 0 ∧ lexBad s ≠ none)) ∧ Own w none w' [.arr 105 3 (.slice A n C) n xs] := by
  obtain ⟨sv, p, f, rfl, hb, ⟨h1, h2, h3⟩ | ⟨h1, h2, rfl⟩⟩ := rlexPost_form h
  · obtain ⟨A, C, rfl, h5⟩ := owns_form h3
    refine ⟨A, _, C, _, p, f, rfl, .inl ⟨h1, h2, rfl, rfl, fun hpos => ?_⟩, own_arr hb h3⟩
    rcases h3.2 with h6 | ⟨g, cap, cur, h6, _⟩
    · omega
    · cases h6; exact ⟨g, rfl⟩
  · exact ⟨none, 0, 0, [], p, f, rfl, .inr ⟨h1, h2⟩, own_arr hb (World.ownsRow_nil _ _ _ _)⟩
theorem oneWord_len {s : ByteArray} (h : (toks s).length ≠ 2) : oneWord s = false := by
  unfold oneWord
  rw [Bool.and_eq_false_iff]; right
  split
  · rename_i t u hq; rw [hq] at h; simp at h
  · rfl
theorem oneWord_two {s : ByteArray} {t u : Tok} (h0 : lexBad s = none) (h : toks s = [t, u]) : oneWord s = (t.kind == 1 && t.text.toList == s.toList) := by
  unfold oneWord; rw [h0, h]; rfl
set_option maxHeartbeats 4000000 in
theorem rright_any (cs : List Value) (p : Prg) (w0 : World) (hP : ProgAt w0 cs p) (hd : deepC p.cond ≤ 9223372036854775807) :
    Calls Tryd.prog 39 #[.agg cs.toArray] w0 fun e w' => e = .returned (.int .i64 (rightErr p)) ∧ Below w0.heap.size w0 w' := by
  have H := Own.start w0 none
  obtain ⟨LA, LC, IA, IC, TA, TC, hh, ccs, hp⟩ := hP
  obtain ⟨c1, c2, c3, c4, c5, rfl⟩ := len5 (condAt_len hp.cond)
  have hcs := hp.cs
  subst hcs
  have hn := hp.locsN
  have hi := hp.initN
  have htn := hp.threadsN
  refine enterF Tryd.func39 rfl Tryd.ntmps39 rfl (fun a F => ?_)
  refine cSeq (fun K1 hK1 => ?_)
  refine cReg ?_
  refine sBx H F rfl rfl rfl ?_
  clear F a H; intro b1 a w F H
  refine sAs F rfl rfl rfl ?_
  clear F a; intro a F
  refine sNil ?_
  refine hK1 _ _ ?_; clear hK1
  refine cSeq (fun K2 hK2 => ?_)
  refine cReg ?_
  refine sFa (f := 0) (k := 0) Tryd.underlying29 rfl Tryd.sizeOf9 rfl rfl F rfl rfl rfl ?_
  clear F a; intro a F
  refine sLd Tryd.isAgg9 F rfl rfl rfl (H.cell 0 rfl rfl) ?_
  clear F a; intro a F
  refine sCall Tryd.call59 F rfl rfl rfl (rlex_any p.name _ hp.name) ?_
  rintro e w hx2
  obtain ⟨A, n, C, xs, q, f, rfl, hq, H2⟩ := rlex_own hx2; replace H := H.join H2; clear H2 hx2
  refine ⟨_, rfl, ?_⟩
  clear F a; intro a F
  refine sMv F rfl rfl rfl ?_
  clear F a; intro a F
  refine sExt F rfl rfl rfl rfl ?_
  clear F a; intro a F
  refine sExt F rfl rfl rfl rfl ?_
  clear F a; intro a F
  refine sExt F rfl rfl rfl rfl ?_
  clear F a; intro a F
  refine sAs F rfl rfl rfl ?_
  clear F a; intro a F
  refine sAs F rfl rfl rfl ?_
  clear F a; intro a F
  refine sAs F rfl rfl rfl ?_
  clear F a; intro a F
  refine sNil ?_
  refine hK2 _ _ ?_; clear hK2
  refine cSeq (fun K3 hK3 => ?_)
  refine cSeq (fun K4 hK4 => ?_)
  refine cRegRO (by kernel_rfl) H ?_
  replace H := H.drew
  refine eTakeF (k := 0) (i := 0) rfl (by kernel_rfl) F rfl rfl rfl (fun w => rMv F rfl) (H.sel [0, 1] rfl rfl) (fun _ _ _ h => h) ?_
  clear F a; intro a F
  refine eTakeF (k := 1) (i := 1) rfl (by kernel_rfl) F rfl rfl rfl (fun w => rBin F rfl rfl bNeq) (H.sel [0, 1] rfl rfl) (fun _ _ _ h => h) ?_
  clear F a; intro a F
  refine eTakeF (k := 2) (i := 2) rfl (by kernel_rfl) F rfl rfl rfl (fun w => rMv F rfl) (H.sel [0, 1] rfl rfl) (fun _ _ _ h => h) ?_
  clear F a; intro a F
  refine F.split 19 rfl ?_ ?_ <;> (clear F; intro h19 F)
  ·
   replace h19 := bneT h19
   have hw0 : oneWord p.name = false := by
     rcases hq with ⟨h2, _⟩ | ⟨_, h2⟩
     · exact absurd h2 h19
     · unfold oneWord
       cases hl : lexBad p.name with
       | none => exact absurd hl h2
       | some _ => rfl
   refine eSkip (k := 3) (i := 3) rfl (by kernel_rfl) F rfl rfl rfl (H.sel [0, 1] rfl rfl) (fun _ _ _ h => h) ?_
   clear F a; intro a F
   refine eSkip (k := 4) (i := 4) rfl (by kernel_rfl) F rfl rfl rfl (H.sel [0, 1] rfl rfl) (fun _ _ _ h => h) ?_
   clear F a; intro a F
   refine eSkip (k := 5) (i := 5) rfl (by kernel_rfl) F rfl rfl rfl (H.sel [0, 1] rfl rfl) (fun _ _ _ h => h) ?_
   clear F a; intro a F
   refine eTakeF (k := 6) (i := 6) rfl (by kernel_rfl) F rfl rfl rfl (fun w => rPk F rfl rfl) (H.sel [0, 1] rfl rfl) (fun _ _ _ h => h) ?_
   clear F a; intro a F
   refine eTakeF (k := 7) (i := 7) rfl (by kernel_rfl) F rfl rfl rfl (fun w => rMv F rfl) (H.sel [0, 1] rfl rfl) (fun _ _ _ h => h) ?_
   clear F a; intro a F
   refine eSkip (k := 8) (i := 8) rfl (by kernel_rfl) F rfl rfl rfl (H.sel [0, 1] rfl rfl) (fun _ _ _ h => h) ?_
   clear F a; intro a F
   refine eSkip (k := 9) (i := 9) rfl (by kernel_rfl) F rfl rfl rfl (H.sel [0, 1] rfl rfl) (fun _ _ _ h => h) ?_
   clear F a; intro a F
   refine eSkip (k := 10) (i := 10) rfl (by kernel_rfl) F rfl rfl rfl (H.sel [0, 1] rfl rfl) (fun _ _ _ h => h) ?_
   clear F a; intro a F
   refine eSkip (k := 11) (i := 11) rfl (by kernel_rfl) F rfl rfl rfl (H.sel [0, 1] rfl rfl) (fun _ _ _ h => h) ?_
   clear F a; intro a F
   refine eSkip (k := 12) (i := 12) rfl (by kernel_rfl) F rfl rfl rfl (H.sel [0, 1] rfl rfl) (fun _ _ _ h => h) ?_
   clear F a; intro a F
   refine eTakeF (k := 13) (i := 13) rfl (by kernel_rfl) F rfl rfl rfl (fun w => rPk F rfl rfl) (H.sel [0, 1] rfl rfl) (fun _ _ _ h => h) ?_
   clear F a; intro a F
   refine eTakeF (k := 14) (i := 14) rfl (by kernel_rfl) F rfl rfl rfl (fun w => rMv F rfl) (H.sel [0, 1] rfl rfl) (fun _ _ _ h => h) ?_
   clear F a; intro a F
   refine eSkip (k := 15) (i := 15) rfl (by kernel_rfl) F rfl rfl rfl (H.sel [0, 1] rfl rfl) (fun _ _ _ h => h) ?_
   clear F a; intro a F
   refine eSkip (k := 16) (i := 16) rfl (by kernel_rfl) F rfl rfl rfl (H.sel [0, 1] rfl rfl) (fun _ _ _ h => h) ?_
   clear F a; intro a F
   refine eSkip (k := 17) (i := 17) rfl (by kernel_rfl) F rfl rfl rfl (H.sel [0, 1] rfl rfl) (fun _ _ _ h => h) ?_
   clear F a; intro a F
   refine eSkip (k := 18) (i := 18) rfl (by kernel_rfl) F rfl rfl rfl (H.sel [0, 1] rfl rfl) (fun _ _ _ h => h) ?_
   clear F a; intro a F
   refine eSkip (k := 19) (i := 19) rfl (by kernel_rfl) F rfl rfl rfl (H.sel [0, 1] rfl rfl) (fun _ _ _ h => h) ?_
   clear F a; intro a F
   refine eSkip (k := 20) (i := 20) rfl (by kernel_rfl) F rfl rfl rfl (H.sel [0, 1] rfl rfl) (fun _ _ _ h => h) ?_
   clear F a; intro a F
   refine eSkip (k := 21) (i := 21) rfl (by kernel_rfl) F rfl rfl rfl (H.sel [0, 1] rfl rfl) (fun _ _ _ h => h) ?_
   clear F a; intro a F
   refine eTakeF (k := 22) (i := 22) rfl (by kernel_rfl) F rfl rfl rfl (fun w => rPk F rfl rfl) (H.sel [0, 1] rfl rfl) (fun _ _ _ h => h) ?_
   clear F a; intro a F
   refine eNil (k := 23) (by kernel_rfl) ?_
   refine hK4 _ _ ?_; clear hK4
   refine cIfT F rfl ?_
   refine cSeq (fun K5 hK5 => ?_)
   refine cReg ?_
   refine sAs F rfl rfl rfl ?_
   clear F a; intro a F
   refine sNil ?_
   refine hK5 _ _ ?_; clear hK5
   refine wp_ret ?_
   simp only [Exit.then]
   refine bRet Tryd.results39 F rfl ?_
   first
     | exact ⟨by rw [re70 hw0], H.below⟩
     | exact ⟨by rw [re71 hw1 hl0], H.below⟩
     | exact ⟨by rw [re72 hw1 hl1 hs0], H.below⟩
     | exact ⟨by rw [re73 hw1 hl1 hs1 ho0], H.below⟩
     | exact ⟨by rw [re75 hw1 hl1 hs1 ho1 ha0], H.below⟩
     | exact ⟨by rw [re74 hw1 hl1 hs1 ho1 ha1 h147], H.below⟩
     | exact ⟨by rw [re0 hw1 hl1 hs1 ho1 ha1 h147], H.below⟩
  ·
   replace h19 := bneF h19
   obtain ⟨hb0, hnl, hxs, hA⟩ : lexBad p.name = none ∧ n = (toks p.name).length ∧ xs = rcellsOf (toks p.name) ∧ (0 < n → ∃ g, A = some ⟨g, 0, none⟩) := by
     rcases hq with ⟨_, h2⟩ | ⟨h2, _⟩
     · exact h2
     · exact absurd h19 h2
   refine eTakeF (k := 3) (i := 3) rfl (by kernel_rfl) F rfl rfl rfl (fun w => rMv F rfl) (H.sel [0, 1] rfl rfl) (fun _ _ _ h => h) ?_
   clear F a; intro a F
   refine eTake (k := 4) (i := 4) rfl (by kernel_rfl) F rfl rfl rfl rfl (fun w H => rLen Tryd.underlying101 F rfl) (H.sel [0, 1] rfl rfl) (fun _ _ _ h => h) ?_
   clear F a; intro a F
   refine eTakeF (k := 5) (i := 5) rfl (by kernel_rfl) F rfl rfl rfl (fun w => rBin F rfl rfl bNeq) (H.sel [0, 1] rfl rfl) (fun _ _ _ h => h) ?_
   clear F a; intro a F
   refine eTakeF (k := 6) (i := 6) rfl (by kernel_rfl) F rfl rfl rfl (fun w => rPk F rfl rfl) (H.sel [0, 1] rfl rfl) (fun _ _ _ h => h) ?_
   clear F a; intro a F
   refine eTakeF (k := 7) (i := 7) rfl (by kernel_rfl) F rfl rfl rfl (fun w => rMv F rfl) (H.sel [0, 1] rfl rfl) (fun _ _ _ h => h) ?_
   clear F a; intro a F
   refine F.split 24 rfl ?_ ?_ <;> (clear F; intro h24 F)
   ·
    replace h24 := bneT h24
    have hw0 : oneWord p.name = false := oneWord_len (by omega)
    refine eSkip (k := 8) (i := 8) rfl (by kernel_rfl) F rfl rfl rfl (H.sel [0, 1] rfl rfl) (fun _ _ _ h => h) ?_
    clear F a; intro a F
    refine eSkip (k := 9) (i := 9) rfl (by kernel_rfl) F rfl rfl rfl (H.sel [0, 1] rfl rfl) (fun _ _ _ h => h) ?_
    clear F a; intro a F
    refine eSkip (k := 10) (i := 10) rfl (by kernel_rfl) F rfl rfl rfl (H.sel [0, 1] rfl rfl) (fun _ _ _ h => h) ?_
    clear F a; intro a F
    refine eSkip (k := 11) (i := 11) rfl (by kernel_rfl) F rfl rfl rfl (H.sel [0, 1] rfl rfl) (fun _ _ _ h => h) ?_
    clear F a; intro a F
    refine eSkip (k := 12) (i := 12) rfl (by kernel_rfl) F rfl rfl rfl (H.sel [0, 1] rfl rfl) (fun _ _ _ h => h) ?_
    clear F a; intro a F
    refine eTakeF (k := 13) (i := 13) rfl (by kernel_rfl) F rfl rfl rfl (fun w => rPk F rfl rfl) (H.sel [0, 1] rfl rfl) (fun _ _ _ h => h) ?_
    clear F a; intro a F
    refine eTakeF (k := 14) (i := 14) rfl (by kernel_rfl) F rfl rfl rfl (fun w => rMv F rfl) (H.sel [0, 1] rfl rfl) (fun _ _ _ h => h) ?_
    clear F a; intro a F
    refine eSkip (k := 15) (i := 15) rfl (by kernel_rfl) F rfl rfl rfl (H.sel [0, 1] rfl rfl) (fun _ _ _ h => h) ?_
    clear F a; intro a F
    refine eSkip (k := 16) (i := 16) rfl (by kernel_rfl) F rfl rfl rfl (H.sel [0, 1] rfl rfl) (fun _ _ _ h => h) ?_
    clear F a; intro a F
    refine eSkip (k := 17) (i := 17) rfl (by kernel_rfl) F rfl rfl rfl (H.sel [0, 1] rfl rfl) (fun _ _ _ h => h) ?_
    clear F a; intro a F
    refine eSkip (k := 18) (i := 18) rfl (by kernel_rfl) F rfl rfl rfl (H.sel [0, 1] rfl rfl) (fun _ _ _ h => h) ?_
    clear F a; intro a F
    refine eSkip (k := 19) (i := 19) rfl (by kernel_rfl) F rfl rfl rfl (H.sel [0, 1] rfl rfl) (fun _ _ _ h => h) ?_
    clear F a; intro a F
    refine eSkip (k := 20) (i := 20) rfl (by kernel_rfl) F rfl rfl rfl (H.sel [0, 1] rfl rfl) (fun _ _ _ h => h) ?_
    clear F a; intro a F
    refine eSkip (k := 21) (i := 21) rfl (by kernel_rfl) F rfl rfl rfl (H.sel [0, 1] rfl rfl) (fun _ _ _ h => h) ?_
    clear F a; intro a F
    refine eTakeF (k := 22) (i := 22) rfl (by kernel_rfl) F rfl rfl rfl (fun w => rPk F rfl rfl) (H.sel [0, 1] rfl rfl) (fun _ _ _ h => h) ?_
    clear F a; intro a F
    refine eNil (k := 23) (by kernel_rfl) ?_
    refine hK4 _ _ ?_; clear hK4
    refine cIfT F rfl ?_
    refine cSeq (fun K6 hK6 => ?_)
    refine cReg ?_
    refine sAs F rfl rfl rfl ?_
    clear F a; intro a F
    refine sNil ?_
    refine hK6 _ _ ?_; clear hK6
    refine wp_ret ?_
    simp only [Exit.then]
    refine bRet Tryd.results39 F rfl ?_
    first
      | exact ⟨by rw [re70 hw0], H.below⟩
      | exact ⟨by rw [re71 hw1 hl0], H.below⟩
      | exact ⟨by rw [re72 hw1 hl1 hs0], H.below⟩
      | exact ⟨by rw [re73 hw1 hl1 hs1 ho0], H.below⟩
      | exact ⟨by rw [re75 hw1 hl1 hs1 ho1 ha0], H.below⟩
      | exact ⟨by rw [re74 hw1 hl1 hs1 ho1 ha1 h147], H.below⟩
      | exact ⟨by rw [re0 hw1 hl1 hs1 ho1 ha1 h147], H.below⟩
   ·
    replace h24 := bneF h24
    have h2 : (toks p.name).length = 2 := by omega
    obtain ⟨t, u, htk⟩ : ∃ t u, toks p.name = [t, u] := by match toks p.name, h2 with | [t, u], _ => exact ⟨t, u, rfl⟩
    rw [htk] at hxs
    obtain ⟨q1, rfl⟩ := hA (by omega)
    subst hxs
    have how := oneWord_two hb0 htk
    refine eTakeF (k := 8) (i := 8) rfl (by kernel_rfl) F rfl rfl rfl (fun w => rMv F rfl) (H.sel [0, 1] rfl rfl) (fun _ _ _ h => h) ?_
    clear F a; intro a F
    refine eTakeF (k := 9) (i := 9) rfl (by kernel_rfl) F rfl rfl rfl (fun w => rIx (j := 0) Tryd.underlying101 Tryd.sizeOf105 F rfl rfl ?_) (H.sel [0, 1] rfl rfl) (fun _ _ _ h => h) ?_
    focus (first | omega | decide | (simp; omega))
    clear F a; intro a F
    refine eTakeF (k := 10) (i := 10) rfl (by kernel_rfl) F rfl rfl rfl (fun w => rFa (f := 0) Tryd.underlying105 rfl Tryd.sizeOf3 rfl rfl F rfl) (H.sel [0, 1] rfl rfl) (fun _ _ _ h => h) ?_
    clear F a; intro a F
    refine eTake (k := 11) (i := 11) rfl (by kernel_rfl) F rfl rfl rfl rfl (fun w H => rLd Tryd.isAgg3 F rfl (own_tok H 0 rfl (j := 0) rfl)) (H.sel [0, 1] rfl rfl) (fun _ _ _ h => h) ?_
    clear F a; intro a F
    refine eTakeF (k := 12) (i := 12) rfl (by kernel_rfl) F rfl rfl rfl (fun w => rBin F rfl rfl bNeq) (H.sel [0, 1] rfl rfl) (fun _ _ _ h => h) ?_
    clear F a; intro a F
    refine eTakeF (k := 13) (i := 13) rfl (by kernel_rfl) F rfl rfl rfl (fun w => rPk F rfl rfl) (H.sel [0, 1] rfl rfl) (fun _ _ _ h => h) ?_
    clear F a; intro a F
    refine eTakeF (k := 14) (i := 14) rfl (by kernel_rfl) F rfl rfl rfl (fun w => rMv F rfl) (H.sel [0, 1] rfl rfl) (fun _ _ _ h => h) ?_
    clear F a; intro a F
    refine F.split 31 rfl ?_ ?_ <;> (clear F; intro h31 F)
    ·
     replace h31 := bneT h31
     have hw0 : oneWord p.name = false := (by rw [how, Bool.and_eq_false_iff]; left; exact beq_false_of_ne (fun e => h31 (by simp [e])))
     refine eSkip (k := 15) (i := 15) rfl (by kernel_rfl) F rfl rfl rfl (H.sel [0, 1] rfl rfl) (fun _ _ _ h => h) ?_
     clear F a; intro a F
     refine eSkip (k := 16) (i := 16) rfl (by kernel_rfl) F rfl rfl rfl (H.sel [0, 1] rfl rfl) (fun _ _ _ h => h) ?_
     clear F a; intro a F
     refine eSkip (k := 17) (i := 17) rfl (by kernel_rfl) F rfl rfl rfl (H.sel [0, 1] rfl rfl) (fun _ _ _ h => h) ?_
     clear F a; intro a F
     refine eSkip (k := 18) (i := 18) rfl (by kernel_rfl) F rfl rfl rfl (H.sel [0, 1] rfl rfl) (fun _ _ _ h => h) ?_
     clear F a; intro a F
     refine eSkip (k := 19) (i := 19) rfl (by kernel_rfl) F rfl rfl rfl (H.sel [0, 1] rfl rfl) (fun _ _ _ h => h) ?_
     clear F a; intro a F
     refine eSkip (k := 20) (i := 20) rfl (by kernel_rfl) F rfl rfl rfl (H.sel [0, 1] rfl rfl) (fun _ _ _ h => h) ?_
     clear F a; intro a F
     refine eSkip (k := 21) (i := 21) rfl (by kernel_rfl) F rfl rfl rfl (H.sel [0, 1] rfl rfl) (fun _ _ _ h => h) ?_
     clear F a; intro a F
     refine eTakeF (k := 22) (i := 22) rfl (by kernel_rfl) F rfl rfl rfl (fun w => rPk F rfl rfl) (H.sel [0, 1] rfl rfl) (fun _ _ _ h => h) ?_
     clear F a; intro a F
     refine eNil (k := 23) (by kernel_rfl) ?_
     refine hK4 _ _ ?_; clear hK4
     refine cIfT F rfl ?_
     refine cSeq (fun K7 hK7 => ?_)
     refine cReg ?_
     refine sAs F rfl rfl rfl ?_
     clear F a; intro a F
     refine sNil ?_
     refine hK7 _ _ ?_; clear hK7
     refine wp_ret ?_
     simp only [Exit.then]
     refine bRet Tryd.results39 F rfl ?_
     first
       | exact ⟨by rw [re70 hw0], H.below⟩
       | exact ⟨by rw [re71 hw1 hl0], H.below⟩
       | exact ⟨by rw [re72 hw1 hl1 hs0], H.below⟩
       | exact ⟨by rw [re73 hw1 hl1 hs1 ho0], H.below⟩
       | exact ⟨by rw [re75 hw1 hl1 hs1 ho1 ha0], H.below⟩
       | exact ⟨by rw [re74 hw1 hl1 hs1 ho1 ha1 h147], H.below⟩
       | exact ⟨by rw [re0 hw1 hl1 hs1 ho1 ha1 h147], H.below⟩
    ·
     replace h31 := bneF h31
     have hk1 : (t.kind == 1) = true := by simp; omega
     refine eTakeF (k := 15) (i := 15) rfl (by kernel_rfl) F rfl rfl rfl (fun w => rMv F rfl) (H.sel [0, 1] rfl rfl) (fun _ _ _ h => h) ?_
     clear F a; intro a F
     refine eTakeF (k := 16) (i := 16) rfl (by kernel_rfl) F rfl rfl rfl (fun w => rIx (j := 0) Tryd.underlying101 Tryd.sizeOf105 F rfl rfl ?_) (H.sel [0, 1] rfl rfl) (fun _ _ _ h => h) ?_
     focus (first | omega | decide | (simp; omega))
     clear F a; intro a F
     refine eTakeF (k := 17) (i := 17) rfl (by kernel_rfl) F rfl rfl rfl (fun w => rFa (f := 1) Tryd.underlying105 rfl Tryd.sizeOf9 rfl rfl F rfl) (H.sel [0, 1] rfl rfl) (fun _ _ _ h => h) ?_
     clear F a; intro a F
     refine eTake (k := 18) (i := 18) rfl (by kernel_rfl) F rfl rfl rfl rfl (fun w H => rLd Tryd.isAgg9 F rfl (own_tok H 0 rfl (j := 1) rfl)) (H.sel [0, 1] rfl rfl) (fun _ _ _ h => h) ?_
     clear F a; intro a F
     refine eTakeF (k := 19) (i := 19) rfl (by kernel_rfl) F rfl rfl rfl (fun w => rFa (f := 0) (k := 0) Tryd.underlying29 rfl Tryd.sizeOf9 rfl rfl F rfl) (H.sel [0, 1] rfl rfl) (fun _ _ _ h => h) ?_
     clear F a; intro a F
     refine eTake (k := 20) (i := 20) rfl (by kernel_rfl) F rfl rfl rfl rfl (fun w H => rLd Tryd.isAgg9 F rfl (H.cell 1 rfl rfl)) (H.sel [0, 1] rfl rfl) (fun _ _ _ h => h) ?_
     clear F a; intro a F
     refine eTakeF (k := 21) (i := 21) rfl (by kernel_rfl) F rfl rfl rfl (fun w => rBin F rfl rfl bStrNe) (H.sel [0, 1] rfl rfl) (fun _ _ _ h => h) ?_
     clear F a; intro a F
     refine eTakeF (k := 22) (i := 22) rfl (by kernel_rfl) F rfl rfl rfl (fun w => rPk F rfl rfl) (H.sel [0, 1] rfl rfl) (fun _ _ _ h => h) ?_
     clear F a; intro a F
     refine eNil (k := 23) (by kernel_rfl) ?_
     refine hK4 _ _ ?_; clear hK4
     refine cIf F rfl (fun h39 => ?_) (fun h39 => ?_)
     ·
      replace h39 := nbeqT h39
      have hw0 : oneWord p.name = false := (by rw [how, Bool.and_eq_false_iff]; right; simpa using h39)
      refine cSeq (fun K8 hK8 => ?_)
      refine cReg ?_
      refine sAs F rfl rfl rfl ?_
      clear F a; intro a F
      refine sNil ?_
      refine hK8 _ _ ?_; clear hK8
      refine wp_ret ?_
      simp only [Exit.then]
      refine bRet Tryd.results39 F rfl ?_
      first
        | exact ⟨by rw [re70 hw0], H.below⟩
        | exact ⟨by rw [re71 hw1 hl0], H.below⟩
        | exact ⟨by rw [re72 hw1 hl1 hs0], H.below⟩
        | exact ⟨by rw [re73 hw1 hl1 hs1 ho0], H.below⟩
        | exact ⟨by rw [re75 hw1 hl1 hs1 ho1 ha0], H.below⟩
        | exact ⟨by rw [re74 hw1 hl1 hs1 ho1 ha1 h147], H.below⟩
        | exact ⟨by rw [re0 hw1 hl1 hs1 ho1 ha1 h147], H.below⟩
     ·
      replace h39 := nbeqF h39
      have hw1 : oneWord p.name = true := (by rw [how, hk1, Bool.true_and]; simpa using h39)
      refine wp_skip ?_
      refine hK3 _ _ ?_; clear hK3
      refine cSeq (fun K9 hK9 => ?_)
      refine cSeq (fun K10 hK10 => ?_)
      refine cReg ?_
      refine sFa (f := 1) (k := 1) Tryd.underlying29 rfl Tryd.sizeOf22 rfl rfl F rfl rfl rfl ?_
      clear F a; intro a F
      refine sLd Tryd.isAgg22 F rfl rfl rfl (H.cell 1 rfl rfl) ?_
      clear F a; intro a F
      refine sLen Tryd.underlying22 F rfl rfl rfl ?_
      clear F a; intro a F
      refine sBin F rfl rfl rfl rfl bLss ?_
      clear F a; intro a F
      refine sMv F rfl rfl rfl ?_
      clear F a; intro a F
      refine F.split 44 rfl ?_ ?_ <;> (clear F; intro h44 F)
      ·
       replace h44 := of_decide_eq_true h44
       have hl0 : locsOk p = false := (by unfold locsOk; rw [decide_eq_false (show ¬ 1 ≤ p.locs.length by omega)]; rfl)
       refine sSk F rfl rfl ?_
       clear F a; intro a F
       refine sSk F rfl rfl ?_
       clear F a; intro a F
       refine sSk F rfl rfl ?_
       clear F a; intro a F
       refine sSk F rfl rfl ?_
       clear F a; intro a F
       refine sPk F rfl rfl rfl rfl ?_
       clear F a; intro a F
       refine sMv F rfl rfl rfl ?_
       clear F a; intro a F
       refine sSk F rfl rfl ?_
       clear F a; intro a F
       refine sSk F rfl rfl ?_
       clear F a; intro a F
       refine sSk F rfl rfl ?_
       clear F a; intro a F
       refine sSk F rfl rfl ?_
       clear F a; intro a F
       refine sSk F rfl rfl ?_
       clear F a; intro a F
       refine sSk F rfl rfl ?_
       clear F a; intro a F
       refine sSk F rfl rfl ?_
       clear F a; intro a F
       refine sPk F rfl rfl rfl rfl ?_
       clear F a; intro a F
       refine sNil ?_
       refine hK10 _ _ ?_; clear hK10
       refine cIfT F rfl ?_
       refine cSeq (fun K11 hK11 => ?_)
       refine cReg ?_
       refine sAs F rfl rfl rfl ?_
       clear F a; intro a F
       refine sNil ?_
       refine hK11 _ _ ?_; clear hK11
       refine wp_ret ?_
       simp only [Exit.then]
       refine bRet Tryd.results39 F rfl ?_
       first
         | exact ⟨by rw [re70 hw0], H.below⟩
         | exact ⟨by rw [re71 hw1 hl0], H.below⟩
         | exact ⟨by rw [re72 hw1 hl1 hs0], H.below⟩
         | exact ⟨by rw [re73 hw1 hl1 hs1 ho0], H.below⟩
         | exact ⟨by rw [re75 hw1 hl1 hs1 ho1 ha0], H.below⟩
         | exact ⟨by rw [re74 hw1 hl1 hs1 ho1 ha1 h147], H.below⟩
         | exact ⟨by rw [re0 hw1 hl1 hs1 ho1 ha1 h147], H.below⟩
      ·
       replace h44 := of_decide_eq_false h44
       refine sFa (f := 1) (k := 1) Tryd.underlying29 rfl Tryd.sizeOf22 rfl rfl F rfl rfl rfl ?_
       clear F a; intro a F
       refine sLd Tryd.isAgg22 F rfl rfl rfl (H.cell 1 rfl rfl) ?_
       clear F a; intro a F
       refine sLen Tryd.underlying22 F rfl rfl rfl ?_
       clear F a; intro a F
       refine sBin F rfl rfl rfl rfl bGtr ?_
       clear F a; intro a F
       refine sPk F rfl rfl rfl rfl ?_
       clear F a; intro a F
       refine sMv F rfl rfl rfl ?_
       clear F a; intro a F
       refine F.split 50 rfl ?_ ?_ <;> (clear F; intro h50 F)
       ·
        replace h50 := of_decide_eq_true h50
        have hl0 : locsOk p = false := (by unfold locsOk; rw [decide_eq_false (show ¬ p.locs.length ≤ 6 by omega)]; simp)
        refine sSk F rfl rfl ?_
        clear F a; intro a F
        refine sSk F rfl rfl ?_
        clear F a; intro a F
        refine sSk F rfl rfl ?_
        clear F a; intro a F
        refine sSk F rfl rfl ?_
        clear F a; intro a F
        refine sSk F rfl rfl ?_
        clear F a; intro a F
        refine sSk F rfl rfl ?_
        clear F a; intro a F
        refine sSk F rfl rfl ?_
        clear F a; intro a F
        refine sPk F rfl rfl rfl rfl ?_
        clear F a; intro a F
        refine sNil ?_
        refine hK10 _ _ ?_; clear hK10
        refine cIfT F rfl ?_
        refine cSeq (fun K12 hK12 => ?_)
        refine cReg ?_
        refine sAs F rfl rfl rfl ?_
        clear F a; intro a F
        refine sNil ?_
        refine hK12 _ _ ?_; clear hK12
        refine wp_ret ?_
        simp only [Exit.then]
        refine bRet Tryd.results39 F rfl ?_
        first
          | exact ⟨by rw [re70 hw0], H.below⟩
          | exact ⟨by rw [re71 hw1 hl0], H.below⟩
          | exact ⟨by rw [re72 hw1 hl1 hs0], H.below⟩
          | exact ⟨by rw [re73 hw1 hl1 hs1 ho0], H.below⟩
          | exact ⟨by rw [re75 hw1 hl1 hs1 ho1 ha0], H.below⟩
          | exact ⟨by rw [re74 hw1 hl1 hs1 ho1 ha1 h147], H.below⟩
          | exact ⟨by rw [re0 hw1 hl1 hs1 ho1 ha1 h147], H.below⟩
       ·
        replace h50 := of_decide_eq_false h50
        refine sFa (f := 2) (k := 2) Tryd.underlying29 rfl Tryd.sizeOf23 rfl rfl F rfl rfl rfl ?_
        clear F a; intro a F
        refine sLd Tryd.isAgg23 F rfl rfl rfl (H.cell 1 rfl rfl) ?_
        clear F a; intro a F
        refine sLen Tryd.underlying23 F rfl rfl rfl ?_
        clear F a; intro a F
        refine sFa (f := 1) (k := 1) Tryd.underlying29 rfl Tryd.sizeOf22 rfl rfl F rfl rfl rfl ?_
        clear F a; intro a F
        refine sLd Tryd.isAgg22 F rfl rfl rfl (H.cell 1 rfl rfl) ?_
        clear F a; intro a F
        refine sLen Tryd.underlying22 F rfl rfl rfl ?_
        clear F a; intro a F
        refine sBin F rfl rfl rfl rfl bNeq ?_
        clear F a; intro a F
        refine sPk F rfl rfl rfl rfl ?_
        clear F a; intro a F
        refine sNil ?_
        refine hK10 _ _ ?_; clear hK10
        refine cIf F rfl (fun h58 => ?_) (fun h58 => ?_)
        ·
         replace h58 := bneT h58
         have hl0 : locsOk p = false := (by unfold locsOk; rw [show (p.init.length == p.locs.length) = false from beq_false_of_ne (fun e => h58 (by rw [e]))]; simp)
         refine cSeq (fun K13 hK13 => ?_)
         refine cReg ?_
         refine sAs F rfl rfl rfl ?_
         clear F a; intro a F
         refine sNil ?_
         refine hK13 _ _ ?_; clear hK13
         refine wp_ret ?_
         simp only [Exit.then]
         refine bRet Tryd.results39 F rfl ?_
         first
           | exact ⟨by rw [re70 hw0], H.below⟩
           | exact ⟨by rw [re71 hw1 hl0], H.below⟩
           | exact ⟨by rw [re72 hw1 hl1 hs0], H.below⟩
           | exact ⟨by rw [re73 hw1 hl1 hs1 ho0], H.below⟩
           | exact ⟨by rw [re75 hw1 hl1 hs1 ho1 ha0], H.below⟩
           | exact ⟨by rw [re74 hw1 hl1 hs1 ho1 ha1 h147], H.below⟩
           | exact ⟨by rw [re0 hw1 hl1 hs1 ho1 ha1 h147], H.below⟩
        ·
         replace h58 := bneF h58
         have hsz : (decide (1 ≤ p.locs.length) && decide (p.locs.length ≤ 6) && p.init.length == p.locs.length) = true := by
           rw [decide_eq_true (show 1 ≤ p.locs.length by omega), decide_eq_true (show p.locs.length ≤ 6 by omega), show p.init.length = p.locs.length by omega]; simp
         have hlo : locsOk p = namesOk p.locs 0 p.locs := by unfold locsOk; rw [hsz, Bool.true_and]
         refine wp_skip ?_
         refine hK9 _ _ ?_; clear hK9
         refine cSeq (fun K14 hK14 => ?_)
         refine cSeq (fun K15 hK15 => ?_)
         refine cReg ?_
         refine sAs F rfl rfl rfl ?_
         clear F a; intro a F
         refine sNil ?_
         refine hK15 _ _ ?_; clear hK15
         refine wp_block ?_
         refine cLoopR [1] (fun m ups w => ∃ j : Nat, m = p.locs.length - j ∧ ups = [(6, .int .i64 ((j : Nat) : Int))] ∧ j ≤ p.locs.length ∧ namesOk p.locs 0 p.locs = namesOk p.locs j (p.locs.drop j) ∧ Own w0 none w [.blk b1 ([.string p.name, .slice LA p.locs.length LC, .slice IA p.init.length IC, .slice TA p.threads.length TC, B8 p.ask] ++ [c1, c2, c3, c4, c5]) 29]) F (p.locs.length) [(6, .int .i64 ((0 : Nat) : Int))] (by repeat (first | exact SubR.nil | (apply SubR.cons; · rfl))) ?_ ?_ ?_
         · exact ⟨0, rfl, rfl, by omega, rfl, H.sel [1] rfl rfl⟩
         · repeat (first | exact trivial | refine Le.cons rfl ?_)
         clear F
         clear H
         intro m ups a w hI F
         obtain ⟨j, rfl, rfl, hj, ht, H⟩ := hI
         refine cSeq (fun K16 hK16 => ?_)
         refine cSeq (fun K17 hK17 => ?_)
         refine cReg ?_
         refine sMv F rfl rfl rfl ?_
         clear F a; intro a F
         refine sFa (f := 1) (k := 1) Tryd.underlying29 rfl Tryd.sizeOf22 rfl rfl F rfl rfl rfl ?_
         clear F a; intro a F
         refine sLd Tryd.isAgg22 F rfl rfl rfl (H.cell 0 rfl rfl) ?_
         clear F a; intro a F
         refine sLen Tryd.underlying22 F rfl rfl rfl ?_
         clear F a; intro a F
         refine sBin F rfl rfl rfl rfl bLss ?_
         clear F a; intro a F
         refine sNil ?_
         refine hK17 _ _ ?_; clear hK17
         refine cIf F rfl (fun h63 => ?_) (fun h63 => ?_)
         ·
          replace h63 := of_decide_eq_true h63
          have hjl : j < p.locs.length := by omega
          obtain ⟨x, hx⟩ : ∃ x, p.locs[j]? = some x := ⟨_, List.getElem?_eq_getElem hjl⟩
          obtain ⟨bx, ox, rfl, hcx⟩ := hp.locs.get hx
          have hno := namesOk_at (l := p.locs) (m := p.locs) hx
          refine wp_skip ?_
          refine hK16 _ _ ?_; clear hK16
          refine cSeq (fun K18 hK18 => ?_)
          refine wp_block ?_
          refine cSeq (fun K19 hK19 => ?_)
          refine cSeq (fun K20 hK20 => ?_)
          refine cReg ?_
          refine sFa (f := 1) (k := 1) Tryd.underlying29 rfl Tryd.sizeOf22 rfl rfl F rfl rfl rfl ?_
          clear F a; intro a F
          refine sLd Tryd.isAgg22 F rfl rfl rfl (H.cell 0 rfl rfl) ?_
          clear F a; intro a F
          refine sMv F rfl rfl rfl ?_
          clear F a; intro a F
          refine sIx Tryd.underlying22 Tryd.sizeOf9 F rfl rfl rfl rfl ?_ ?_
          focus (first | omega | decide | (simp; omega))
          clear F a; intro a F
          refine sLd Tryd.isAgg9 F rfl rfl rfl (H.arg hcx) ?_
          clear F a; intro a F
          refine sCall Tryd.call60 F rfl rfl rfl (rname_any x _ (hp.locsS x (List.mem_of_getElem? hx)) _ rfl) ?_
          rintro e w ⟨rfl, hb⟩
          replace H := H.grow hb; clear hb
          refine ⟨_, rfl, ?_⟩
          clear F a; intro a F
          refine sNot F rfl rfl rfl ?_
          clear F a; intro a F
          refine sNil ?_
          refine hK20 _ _ ?_; clear hK20
          refine cIf F rfl (fun h72 => ?_) (fun h72 => ?_)
          ·
           replace h72 := notT h72
           have hl0 : locsOk p = false := (by rw [hlo, ht, hno, h72]; rfl)
           refine cSeq (fun K21 hK21 => ?_)
           refine cReg ?_
           refine sAs F rfl rfl rfl ?_
           clear F a; intro a F
           refine sNil ?_
           refine hK21 _ _ ?_; clear hK21
           refine wp_ret ?_
           simp only [Exit.inBlock, Exit.then]
           refine bRet Tryd.results39 F rfl ?_
           first
             | exact ⟨by rw [re70 hw0], H.below⟩
             | exact ⟨by rw [re71 hw1 hl0], H.below⟩
             | exact ⟨by rw [re72 hw1 hl1 hs0], H.below⟩
             | exact ⟨by rw [re73 hw1 hl1 hs1 ho0], H.below⟩
             | exact ⟨by rw [re75 hw1 hl1 hs1 ho1 ha0], H.below⟩
             | exact ⟨by rw [re74 hw1 hl1 hs1 ho1 ha1 h147], H.below⟩
             | exact ⟨by rw [re0 hw1 hl1 hs1 ho1 ha1 h147], H.below⟩
          ·
           replace h72 := notF h72
           refine wp_skip ?_
           refine hK19 _ _ ?_; clear hK19
           refine cSeq (fun K22 hK22 => ?_)
           refine cReg ?_
           refine sAs F rfl rfl rfl ?_
           clear F a; intro a F
           refine sNil ?_
           refine hK22 _ _ ?_; clear hK22
           refine wp_block ?_
           refine cLoopR [1, 6] (fun m ups w => ∃ k : Nat, m = j - k ∧ ups = [(7, .int .i64 ((k : Nat) : Int))] ∧ k ≤ j ∧ idxOf x (p.locs.take j) 0 = idxOf x ((p.locs.take j).drop k) k ∧ Own w0 none w [.blk b1 ([.string p.name, .slice (some ⟨bx, ox, none⟩) p.locs.length LC, .slice IA p.init.length IC, .slice TA p.threads.length TC, B8 p.ask] ++ [c1, c2, c3, c4, c5]) 29]) F (j) [(7, .int .i64 ((0 : Nat) : Int))] (by repeat (first | exact SubR.nil | (apply SubR.cons; · rfl))) ?_ ?_ ?_
           · exact ⟨0, rfl, rfl, by omega, rfl, H⟩
           · repeat (first | exact trivial | refine Le.cons rfl ?_)
           clear F
           clear H
           intro m ups a w hI F
           obtain ⟨k, rfl, rfl, hk, hix, H⟩ := hI
           refine cSeq (fun K23 hK23 => ?_)
           refine cSeq (fun K24 hK24 => ?_)
           refine cReg ?_
           refine sMv F rfl rfl rfl ?_
           clear F a; intro a F
           refine sMv F rfl rfl rfl ?_
           clear F a; intro a F
           refine sBin F rfl rfl rfl rfl bLss ?_
           clear F a; intro a F
           refine sNil ?_
           refine hK24 _ _ ?_; clear hK24
           refine cIf F rfl (fun h75 => ?_) (fun h75 => ?_)
           ·
            replace h75 := of_decide_eq_true h75
            have hkj : k < j := by omega
            obtain ⟨y, hy⟩ : ∃ y, p.locs[k]? = some y := ⟨_, List.getElem?_eq_getElem (by omega)⟩
            have hyt : (p.locs.take j)[k]? = some y := by rw [List.getElem?_take, if_pos hkj, hy]
            obtain ⟨by', oy, hya, hcy⟩ := hp.locs.get hy
            cases hya
            have hia := idxOf_at (s := x) hyt
            refine wp_skip ?_
            refine hK23 _ _ ?_; clear hK23
            refine cSeq (fun K25 hK25 => ?_)
            refine wp_block ?_
            refine cSeq (fun K26 hK26 => ?_)
            refine cRegRO (by kernel_rfl) H ?_
            replace H := H.drew
            refine eTakeF (k := 0) (i := 0) rfl (by kernel_rfl) F rfl rfl rfl (fun w => rFa (f := 1) (k := 1) Tryd.underlying29 rfl Tryd.sizeOf22 rfl rfl F rfl) (H.sel [0] rfl rfl) (fun _ _ _ h => h) ?_
            clear F a; intro a F
            refine eTake (k := 1) (i := 1) rfl (by kernel_rfl) F rfl rfl rfl rfl (fun w H => rLd Tryd.isAgg22 F rfl (H.cell 0 rfl rfl)) (H.sel [0] rfl rfl) (fun _ _ _ h => h) ?_
            clear F a; intro a F
            refine eTakeF (k := 2) (i := 2) rfl (by kernel_rfl) F rfl rfl rfl (fun w => rMv F rfl) (H.sel [0] rfl rfl) (fun _ _ _ h => h) ?_
            clear F a; intro a F
            refine eTakeF (k := 3) (i := 3) rfl (by kernel_rfl) F rfl rfl rfl (fun w => rIx Tryd.underlying22 Tryd.sizeOf9 F rfl rfl ?_) (H.sel [0] rfl rfl) (fun _ _ _ h => h) ?_
            focus (first | omega | decide | (simp; omega))
            clear F a; intro a F
            refine eTake (k := 4) (i := 4) rfl (by kernel_rfl) F rfl rfl rfl rfl (fun w H => rLd Tryd.isAgg9 F rfl (H.arg hcy)) (H.sel [0] rfl rfl) (fun _ _ _ h => h) ?_
            clear F a; intro a F
            refine eTakeF (k := 5) (i := 5) rfl (by kernel_rfl) F rfl rfl rfl (fun w => rFa (f := 1) (k := 1) Tryd.underlying29 rfl Tryd.sizeOf22 rfl rfl F rfl) (H.sel [0] rfl rfl) (fun _ _ _ h => h) ?_
            clear F a; intro a F
            refine eTake (k := 6) (i := 6) rfl (by kernel_rfl) F rfl rfl rfl rfl (fun w H => rLd Tryd.isAgg22 F rfl (H.cell 0 rfl rfl)) (H.sel [0] rfl rfl) (fun _ _ _ h => h) ?_
            clear F a; intro a F
            refine eTakeF (k := 7) (i := 7) rfl (by kernel_rfl) F rfl rfl rfl (fun w => rMv F rfl) (H.sel [0] rfl rfl) (fun _ _ _ h => h) ?_
            clear F a; intro a F
            refine eTakeF (k := 8) (i := 8) rfl (by kernel_rfl) F rfl rfl rfl (fun w => rIx Tryd.underlying22 Tryd.sizeOf9 F rfl rfl ?_) (H.sel [0] rfl rfl) (fun _ _ _ h => h) ?_
            focus (first | omega | decide | (simp; omega))
            clear F a; intro a F
            refine eTake (k := 9) (i := 9) rfl (by kernel_rfl) F rfl rfl rfl rfl (fun w H => rLd Tryd.isAgg9 F rfl (H.arg hcx)) (H.sel [0] rfl rfl) (fun _ _ _ h => h) ?_
            clear F a; intro a F
            refine eTakeF (k := 10) (i := 10) rfl (by kernel_rfl) F rfl rfl rfl (fun w => rBin F rfl rfl bStrEq) (H.sel [0] rfl rfl) (fun _ _ _ h => h) ?_
            clear F a; intro a F
            refine eNil (k := 11) (by kernel_rfl) ?_
            refine hK26 _ _ ?_; clear hK26
            refine cIf F rfl (fun h88 => ?_) (fun h88 => ?_)
            ·
             replace h88 := beqT h88
             have hl0 : locsOk p = false := (by rw [hlo, ht, hno, hix, hia, if_pos (by simpa using (by simpa using h88 : y.toList = x.toList).symm)]; simp)
             refine cSeq (fun K27 hK27 => ?_)
             refine cReg ?_
             refine sAs F rfl rfl rfl ?_
             clear F a; intro a F
             refine sNil ?_
             refine hK27 _ _ ?_; clear hK27
             refine wp_ret ?_
             simp only [Exit.inBlock, Exit.then]
             refine bRet Tryd.results39 F rfl ?_
             first
               | exact ⟨by rw [re70 hw0], H.below⟩
               | exact ⟨by rw [re71 hw1 hl0], H.below⟩
               | exact ⟨by rw [re72 hw1 hl1 hs0], H.below⟩
               | exact ⟨by rw [re73 hw1 hl1 hs1 ho0], H.below⟩
               | exact ⟨by rw [re75 hw1 hl1 hs1 ho1 ha0], H.below⟩
               | exact ⟨by rw [re74 hw1 hl1 hs1 ho1 ha1 h147], H.below⟩
               | exact ⟨by rw [re0 hw1 hl1 hs1 ho1 ha1 h147], H.below⟩
            ·
             replace h88 := beqF h88
             refine wp_skip ?_
             refine hK25 _ _ ?_; clear hK25
             refine cReg ?_
             refine sMv F rfl rfl rfl ?_
             clear F a; intro a F
             refine sBin F rfl rfl rfl rfl (bAddN (j := 1) ?_) ?_
             focus omega
             clear F a; intro a F
             refine sAs F rfl rfl rfl ?_
             clear F a; intro a F
             refine sNil ?_
             exact ⟨_, by omega, _, ⟨k + 1, rfl, rfl, by omega, by rw [hix, hia, if_neg (fun e => h88 (by simpa using (by simpa using e : x.toList = y.toList).symm))], H⟩, F.to (by repeat (first | exact trivial | refine Le.cons rfl ?_))⟩
           ·
            replace h75 := of_decide_eq_false h75
            rw [List.drop_eq_nil_of_le (by rw [List.length_take]; omega)] at hix
            refine wp_exit ?_
            refine hK18 _ _ ?_; clear hK18
            refine cReg ?_
            refine sMv F rfl rfl rfl ?_
            clear F a; intro a F
            refine sBin F rfl rfl rfl rfl (bAddN (j := 1) ?_) ?_
            focus omega
            clear F a; intro a F
            refine sAs F rfl rfl rfl ?_
            clear F a; intro a F
            refine sNil ?_
            exact ⟨_, by omega, _, ⟨j + 1, rfl, rfl, by omega, by rw [ht, hno, h72, hix]; rfl, H⟩, F.to (by repeat (first | exact trivial | refine Le.cons rfl ?_))⟩
         ·
          replace h63 := of_decide_eq_false h63
          have hl1 : locsOk p = true := (by rw [hlo, ht, List.drop_eq_nil_of_le (by omega)]; rfl)
          refine wp_exit ?_
          refine hK14 _ _ ?_; clear hK14
          refine cSeq (fun K28 hK28 => ?_)
          refine cSeq (fun K29 hK29 => ?_)
          refine cReg ?_
          refine sFa (f := 3) (k := 3) Tryd.underlying29 rfl Tryd.sizeOf24 rfl rfl F rfl rfl rfl ?_
          clear F a; intro a F
          refine sLd Tryd.isAgg24 F rfl rfl rfl (H.cell 0 rfl rfl) ?_
          clear F a; intro a F
          refine sLen Tryd.underlying24 F rfl rfl rfl ?_
          clear F a; intro a F
          refine sBin F rfl rfl rfl rfl bLss ?_
          clear F a; intro a F
          refine sMv F rfl rfl rfl ?_
          clear F a; intro a F
          refine F.split 93 rfl ?_ ?_ <;> (clear F; intro h93 F)
          ·
           replace h93 := of_decide_eq_true h93
           have hs0 : threadsShort p = false := (by unfold threadsShort; rw [decide_eq_false (show ¬ 1 ≤ p.threads.length by omega)]; rfl)
           refine sSk F rfl rfl ?_
           clear F a; intro a F
           refine sSk F rfl rfl ?_
           clear F a; intro a F
           refine sSk F rfl rfl ?_
           clear F a; intro a F
           refine sSk F rfl rfl ?_
           clear F a; intro a F
           refine sPk F rfl rfl rfl rfl ?_
           clear F a; intro a F
           refine sNil ?_
           refine hK29 _ _ ?_; clear hK29
           refine cIfT F rfl ?_
           refine cSeq (fun K30 hK30 => ?_)
           refine cReg ?_
           refine sAs F rfl rfl rfl ?_
           clear F a; intro a F
           refine sNil ?_
           refine hK30 _ _ ?_; clear hK30
           refine wp_ret ?_
           simp only [Exit.then]
           refine bRet Tryd.results39 F rfl ?_
           first
             | exact ⟨by rw [re70 hw0], H.below⟩
             | exact ⟨by rw [re71 hw1 hl0], H.below⟩
             | exact ⟨by rw [re72 hw1 hl1 hs0], H.below⟩
             | exact ⟨by rw [re73 hw1 hl1 hs1 ho0], H.below⟩
             | exact ⟨by rw [re75 hw1 hl1 hs1 ho1 ha0], H.below⟩
             | exact ⟨by rw [re74 hw1 hl1 hs1 ho1 ha1 h147], H.below⟩
             | exact ⟨by rw [re0 hw1 hl1 hs1 ho1 ha1 h147], H.below⟩
          ·
           replace h93 := of_decide_eq_false h93
           refine sFa (f := 3) (k := 3) Tryd.underlying29 rfl Tryd.sizeOf24 rfl rfl F rfl rfl rfl ?_
           clear F a; intro a F
           refine sLd Tryd.isAgg24 F rfl rfl rfl (H.cell 0 rfl rfl) ?_
           clear F a; intro a F
           refine sLen Tryd.underlying24 F rfl rfl rfl ?_
           clear F a; intro a F
           refine sBin F rfl rfl rfl rfl bGtr ?_
           clear F a; intro a F
           refine sPk F rfl rfl rfl rfl ?_
           clear F a; intro a F
           refine sNil ?_
           refine hK29 _ _ ?_; clear hK29
           refine cIf F rfl (fun h98 => ?_) (fun h98 => ?_)
           ·
            replace h98 := of_decide_eq_true h98
            have hs0 : threadsShort p = false := (by unfold threadsShort; rw [decide_eq_false (show ¬ p.threads.length ≤ 4 by omega)]; simp)
            refine cSeq (fun K31 hK31 => ?_)
            refine cReg ?_
            refine sAs F rfl rfl rfl ?_
            clear F a; intro a F
            refine sNil ?_
            refine hK31 _ _ ?_; clear hK31
            refine wp_ret ?_
            simp only [Exit.then]
            refine bRet Tryd.results39 F rfl ?_
            first
              | exact ⟨by rw [re70 hw0], H.below⟩
              | exact ⟨by rw [re71 hw1 hl0], H.below⟩
              | exact ⟨by rw [re72 hw1 hl1 hs0], H.below⟩
              | exact ⟨by rw [re73 hw1 hl1 hs1 ho0], H.below⟩
              | exact ⟨by rw [re75 hw1 hl1 hs1 ho1 ha0], H.below⟩
              | exact ⟨by rw [re74 hw1 hl1 hs1 ho1 ha1 h147], H.below⟩
              | exact ⟨by rw [re0 hw1 hl1 hs1 ho1 ha1 h147], H.below⟩
           ·
            replace h98 := of_decide_eq_false h98
            have hsh : threadsShort p = p.threads.all (fun l => decide (l.length ≤ 12)) := (by unfold threadsShort; rw [decide_eq_true (show 1 ≤ p.threads.length by omega), decide_eq_true (show p.threads.length ≤ 4 by omega)]; rfl)
            refine wp_skip ?_
            refine hK28 _ _ ?_; clear hK28
            refine cSeq (fun K32 hK32 => ?_)
            refine cSeq (fun K33 hK33 => ?_)
            refine cReg ?_
            refine sAs F rfl rfl rfl ?_
            clear F a; intro a F
            refine sNil ?_
            refine hK33 _ _ ?_; clear hK33
            refine wp_block ?_
            refine cLoopR [1] (fun m ups w => ∃ j : Nat, m = p.threads.length - j ∧ ups = [(8, .int .i64 ((j : Nat) : Int))] ∧ j ≤ p.threads.length ∧ p.threads.all (fun l => decide (l.length ≤ 12)) = (p.threads.drop j).all (fun l => decide (l.length ≤ 12)) ∧ Own w0 none w [.blk b1 ([.string p.name, .slice LA p.locs.length LC, .slice IA p.init.length IC, .slice TA p.threads.length TC, B8 p.ask] ++ [c1, c2, c3, c4, c5]) 29]) F (p.threads.length) [(8, .int .i64 ((0 : Nat) : Int))] (by repeat (first | exact SubR.nil | (apply SubR.cons; · rfl))) ?_ ?_ ?_
            · exact ⟨0, rfl, rfl, by omega, rfl, H⟩
            · repeat (first | exact trivial | refine Le.cons rfl ?_)
            clear F
            clear H
            intro m ups a w hI F
            obtain ⟨j, rfl, rfl, hj, ht, H⟩ := hI
            refine cSeq (fun K34 hK34 => ?_)
            refine cSeq (fun K35 hK35 => ?_)
            refine cReg ?_
            refine sMv F rfl rfl rfl ?_
            clear F a; intro a F
            refine sFa (f := 3) (k := 3) Tryd.underlying29 rfl Tryd.sizeOf24 rfl rfl F rfl rfl rfl ?_
            clear F a; intro a F
            refine sLd Tryd.isAgg24 F rfl rfl rfl (H.cell 0 rfl rfl) ?_
            clear F a; intro a F
            refine sLen Tryd.underlying24 F rfl rfl rfl ?_
            clear F a; intro a F
            refine sBin F rfl rfl rfl rfl bLss ?_
            clear F a; intro a F
            refine sNil ?_
            refine hK35 _ _ ?_; clear hK35
            refine cIf F rfl (fun h103 => ?_) (fun h103 => ?_)
            ·
             replace h103 := of_decide_eq_true h103
             obtain ⟨l, hl⟩ : ∃ l, p.threads[j]? = some l := ⟨_, List.getElem?_eq_getElem (by omega)⟩
             obtain ⟨bT, oT, BT, CT, rfl, hT1, hT2, hT3⟩ := hp.threads j l hl
             have had := all_drop (fun l : List Ins => decide (l.length ≤ 12)) hl
             refine wp_skip ?_
             refine hK34 _ _ ?_; clear hK34
             refine cSeq (fun K36 hK36 => ?_)
             refine wp_block ?_
             refine cSeq (fun K37 hK37 => ?_)
             refine cReg ?_
             refine sFa (f := 3) (k := 3) Tryd.underlying29 rfl Tryd.sizeOf24 rfl rfl F rfl rfl rfl ?_
             clear F a; intro a F
             refine sLd Tryd.isAgg24 F rfl rfl rfl (H.cell 0 rfl rfl) ?_
             clear F a; intro a F
             refine sMv F rfl rfl rfl ?_
             clear F a; intro a F
             refine sIx Tryd.underlying24 Tryd.sizeOf53 F rfl rfl rfl rfl ?_ ?_
             focus (first | omega | decide | (simp; omega))
             clear F a; intro a F
             refine sLd Tryd.isAgg53 F rfl rfl rfl (H.arg hT1) ?_
             clear F a; intro a F
             refine sLen Tryd.underlying53 F rfl rfl rfl ?_
             clear F a; intro a F
             refine sBin F rfl rfl rfl rfl bGtr ?_
             clear F a; intro a F
             refine sNil ?_
             refine hK37 _ _ ?_; clear hK37
             refine cIf F rfl (fun h112 => ?_) (fun h112 => ?_)
             ·
              replace h112 := of_decide_eq_true h112
              have hs0 : threadsShort p = false := (by rw [hsh, ht, had, decide_eq_false (show ¬ l.length ≤ 12 by omega)]; rfl)
              refine cSeq (fun K38 hK38 => ?_)
              refine cReg ?_
              refine sAs F rfl rfl rfl ?_
              clear F a; intro a F
              refine sNil ?_
              refine hK38 _ _ ?_; clear hK38
              refine wp_ret ?_
              simp only [Exit.inBlock, Exit.then]
              refine bRet Tryd.results39 F rfl ?_
              first
                | exact ⟨by rw [re70 hw0], H.below⟩
                | exact ⟨by rw [re71 hw1 hl0], H.below⟩
                | exact ⟨by rw [re72 hw1 hl1 hs0], H.below⟩
                | exact ⟨by rw [re73 hw1 hl1 hs1 ho0], H.below⟩
                | exact ⟨by rw [re75 hw1 hl1 hs1 ho1 ha0], H.below⟩
                | exact ⟨by rw [re74 hw1 hl1 hs1 ho1 ha1 h147], H.below⟩
                | exact ⟨by rw [re0 hw1 hl1 hs1 ho1 ha1 h147], H.below⟩
             ·
              replace h112 := of_decide_eq_false h112
              refine wp_skip ?_
              refine hK36 _ _ ?_; clear hK36
              refine cReg ?_
              refine sMv F rfl rfl rfl ?_
              clear F a; intro a F
              refine sBin F rfl rfl rfl rfl (bAddN (j := 1) ?_) ?_
              focus omega
              clear F a; intro a F
              refine sAs F rfl rfl rfl ?_
              clear F a; intro a F
              refine sNil ?_
              exact ⟨_, by omega, _, ⟨j + 1, rfl, rfl, by omega, by rw [ht, had, decide_eq_true (show l.length ≤ 12 by omega), Bool.true_and], H⟩, F.to (by repeat (first | exact trivial | refine Le.cons rfl ?_))⟩
            ·
             replace h103 := of_decide_eq_false h103
             have hs1 : threadsShort p = true := (by rw [hsh, ht, List.drop_eq_nil_of_le (by omega)]; rfl)
             refine wp_exit ?_
             refine hK32 _ _ ?_; clear hK32
             refine cSeq (fun K39 hK39 => ?_)
             refine cSeq (fun K40 hK40 => ?_)
             refine cReg ?_
             refine sAs F rfl rfl rfl ?_
             clear F a; intro a F
             refine sNil ?_
             refine hK40 _ _ ?_; clear hK40
             refine wp_block ?_
             refine cLoopR [1] (fun m ups w => ∃ j : Nat, m = p.threads.length - j ∧ ups = [(9, .int .i64 ((j : Nat) : Int))] ∧ j ≤ p.threads.length ∧ p.threads.all (threadOk p.locs.length) = (p.threads.drop j).all (threadOk p.locs.length) ∧ Own w0 none w [.blk b1 ([.string p.name, .slice LA p.locs.length LC, .slice IA p.init.length IC, .slice TA p.threads.length TC, B8 p.ask] ++ [c1, c2, c3, c4, c5]) 29]) F (p.threads.length) [(9, .int .i64 ((0 : Nat) : Int))] (by repeat (first | exact SubR.nil | (apply SubR.cons; · rfl))) ?_ ?_ ?_
             · exact ⟨0, rfl, rfl, by omega, rfl, H⟩
             · repeat (first | exact trivial | refine Le.cons rfl ?_)
             clear F
             clear H
             intro m ups a w hI F
             obtain ⟨j, rfl, rfl, hj, ht, H⟩ := hI
             refine cSeq (fun K41 hK41 => ?_)
             refine cSeq (fun K42 hK42 => ?_)
             refine cReg ?_
             refine sMv F rfl rfl rfl ?_
             clear F a; intro a F
             refine sFa (f := 3) (k := 3) Tryd.underlying29 rfl Tryd.sizeOf24 rfl rfl F rfl rfl rfl ?_
             clear F a; intro a F
             refine sLd Tryd.isAgg24 F rfl rfl rfl (H.cell 0 rfl rfl) ?_
             clear F a; intro a F
             refine sLen Tryd.underlying24 F rfl rfl rfl ?_
             clear F a; intro a F
             refine sBin F rfl rfl rfl rfl bLss ?_
             clear F a; intro a F
             refine sNil ?_
             refine hK42 _ _ ?_; clear hK42
             refine cIf F rfl (fun h117 => ?_) (fun h117 => ?_)
             ·
              replace h117 := of_decide_eq_true h117
              obtain ⟨l, hl⟩ : ∃ l, p.threads[j]? = some l := ⟨_, List.getElem?_eq_getElem (by omega)⟩
              obtain ⟨bT, oT, BT, CT, rfl, hT1, hT2, hT3⟩ := hp.threads j l hl
              have had := all_drop (threadOk p.locs.length) hl
              refine wp_skip ?_
              refine hK41 _ _ ?_; clear hK41
              refine cSeq (fun K43 hK43 => ?_)
              refine wp_block ?_
              refine cSeq (fun K44 hK44 => ?_)
              refine cRegRO (by kernel_rfl) H ?_
              replace H := H.drew
              refine eTakeF (k := 0) (i := 0) rfl (by kernel_rfl) F rfl rfl rfl (fun w => rFa (f := 3) (k := 3) Tryd.underlying29 rfl Tryd.sizeOf24 rfl rfl F rfl) (H.sel [0] rfl rfl) (fun _ _ _ h => h) ?_
              clear F a; intro a F
              refine eTake (k := 1) (i := 1) rfl (by kernel_rfl) F rfl rfl rfl rfl (fun w H => rLd Tryd.isAgg24 F rfl (H.cell 0 rfl rfl)) (H.sel [0] rfl rfl) (fun _ _ _ h => h) ?_
              clear F a; intro a F
              refine eTakeF (k := 2) (i := 2) rfl (by kernel_rfl) F rfl rfl rfl (fun w => rMv F rfl) (H.sel [0] rfl rfl) (fun _ _ _ h => h) ?_
              clear F a; intro a F
              refine eTakeF (k := 3) (i := 3) rfl (by kernel_rfl) F rfl rfl rfl (fun w => rIx Tryd.underlying24 Tryd.sizeOf53 F rfl rfl ?_) (H.sel [0] rfl rfl) (fun _ _ _ h => h) ?_
              focus (first | omega | decide | (simp; omega))
              clear F a; intro a F
              refine eTake (k := 4) (i := 4) rfl (by kernel_rfl) F rfl rfl rfl rfl (fun w H => rLd Tryd.isAgg53 F rfl (H.arg hT1)) (H.sel [0] rfl rfl) (fun _ _ _ h => h) ?_
              clear F a; intro a F
              refine eTakeF (k := 5) (i := 5) rfl (by kernel_rfl) F rfl rfl rfl (fun w => rFa (f := 1) (k := 1) Tryd.underlying29 rfl Tryd.sizeOf22 rfl rfl F rfl) (H.sel [0] rfl rfl) (fun _ _ _ h => h) ?_
              clear F a; intro a F
              refine eTake (k := 6) (i := 6) rfl (by kernel_rfl) F rfl rfl rfl rfl (fun w H => rLd Tryd.isAgg22 F rfl (H.cell 0 rfl rfl)) (H.sel [0] rfl rfl) (fun _ _ _ h => h) ?_
              clear F a; intro a F
              refine eTake (k := 7) (i := 7) rfl (by kernel_rfl) F rfl rfl rfl rfl (fun w H => rLen Tryd.underlying22 F rfl) (H.sel [0] rfl rfl) (fun _ _ _ h => h) ?_
              clear F a; intro a F
              refine eOne (k := 8) (i := 8) rfl (by kernel_rfl) F rfl (oCall Tryd.call61 F rfl rfl (rthread_any BT CT l p.locs.length _ (RowsAt.own hT2 H) hT3) ?_)
              rintro e w ⟨rfl, hb⟩
              replace H := H.grow hb; clear hb
              refine ⟨_, rfl, ?_⟩
              clear F a; intro a F
              refine ePartO (by kernel_rfl) H ?_
              refine eTakeF (k := 9) (i := 9) rfl (by kernel_rfl) F rfl rfl rfl (fun w => rNot F rfl) (H.sel [0] rfl rfl) (fun _ _ _ h => h) ?_
              clear F a; intro a F
              refine eNil (k := 10) (by kernel_rfl) ?_
              refine hK44 _ _ ?_; clear hK44
              refine cIf F rfl (fun h129 => ?_) (fun h129 => ?_)
              ·
               replace h129 := notT h129
               have ho0 : threadsOk p = false := (by unfold threadsOk; rw [ht, had, h129]; rfl)
               refine cSeq (fun K45 hK45 => ?_)
               refine cReg ?_
               refine sAs F rfl rfl rfl ?_
               clear F a; intro a F
               refine sNil ?_
               refine hK45 _ _ ?_; clear hK45
               refine wp_ret ?_
               simp only [Exit.inBlock, Exit.then]
               refine bRet Tryd.results39 F rfl ?_
               first
                 | exact ⟨by rw [re70 hw0], H.below⟩
                 | exact ⟨by rw [re71 hw1 hl0], H.below⟩
                 | exact ⟨by rw [re72 hw1 hl1 hs0], H.below⟩
                 | exact ⟨by rw [re73 hw1 hl1 hs1 ho0], H.below⟩
                 | exact ⟨by rw [re75 hw1 hl1 hs1 ho1 ha0], H.below⟩
                 | exact ⟨by rw [re74 hw1 hl1 hs1 ho1 ha1 h147], H.below⟩
                 | exact ⟨by rw [re0 hw1 hl1 hs1 ho1 ha1 h147], H.below⟩
              ·
               replace h129 := notF h129
               refine wp_skip ?_
               refine hK43 _ _ ?_; clear hK43
               refine cReg ?_
               refine sMv F rfl rfl rfl ?_
               clear F a; intro a F
               refine sBin F rfl rfl rfl rfl (bAddN (j := 1) ?_) ?_
               focus omega
               clear F a; intro a F
               refine sAs F rfl rfl rfl ?_
               clear F a; intro a F
               refine sNil ?_
               exact ⟨_, by omega, _, ⟨j + 1, rfl, rfl, by omega, by rw [ht, had, h129, Bool.true_and], H⟩, F.to (by repeat (first | exact trivial | refine Le.cons rfl ?_))⟩
             ·
              replace h117 := of_decide_eq_false h117
              have ho1 : threadsOk p = true := (by unfold threadsOk; rw [ht, List.drop_eq_nil_of_le (by omega)]; rfl)
              refine wp_exit ?_
              refine hK39 _ _ ?_; clear hK39
              refine cSeq (fun K46 hK46 => ?_)
              refine cSeq (fun K47 hK47 => ?_)
              refine cReg ?_
              refine sFa (f := 4) (k := 4) Tryd.underlying29 rfl Tryd.sizeOf5 rfl rfl F rfl rfl rfl ?_
              clear F a; intro a F
              refine sLd Tryd.isAgg5 F rfl rfl rfl (H.cell 0 rfl rfl) ?_
              clear F a; intro a F
              refine sBin F rfl rfl rfl rfl (bLssB (y := 1)) ?_
              clear F a; intro a F
              refine sMv F rfl rfl rfl ?_
              clear F a; intro a F
              refine F.split 133 rfl ?_ ?_ <;> (clear F; intro h133 F)
              ·
               replace h133 := of_decide_eq_true h133
               have ha0 : askOk p = false := (by unfold askOk; rw [ask13, decide_eq_false (UInt8.not_le.2 h133)]; rfl)
               refine sSk F rfl rfl ?_
               clear F a; intro a F
               refine sSk F rfl rfl ?_
               clear F a; intro a F
               refine sSk F rfl rfl ?_
               clear F a; intro a F
               refine sPk F rfl rfl rfl rfl ?_
               clear F a; intro a F
               refine sNil ?_
               refine hK47 _ _ ?_; clear hK47
               refine cIfT F rfl ?_
               refine cSeq (fun K48 hK48 => ?_)
               refine cReg ?_
               refine sAs F rfl rfl rfl ?_
               clear F a; intro a F
               refine sNil ?_
               refine hK48 _ _ ?_; clear hK48
               refine wp_ret ?_
               simp only [Exit.then]
               refine bRet Tryd.results39 F rfl ?_
               first
                 | exact ⟨by rw [re70 hw0], H.below⟩
                 | exact ⟨by rw [re71 hw1 hl0], H.below⟩
                 | exact ⟨by rw [re72 hw1 hl1 hs0], H.below⟩
                 | exact ⟨by rw [re73 hw1 hl1 hs1 ho0], H.below⟩
                 | exact ⟨by rw [re75 hw1 hl1 hs1 ho1 ha0], H.below⟩
                 | exact ⟨by rw [re74 hw1 hl1 hs1 ho1 ha1 h147], H.below⟩
                 | exact ⟨by rw [re0 hw1 hl1 hs1 ho1 ha1 h147], H.below⟩
              ·
               replace h133 := of_decide_eq_false h133
               refine sFa (f := 4) (k := 4) Tryd.underlying29 rfl Tryd.sizeOf5 rfl rfl F rfl rfl rfl ?_
               clear F a; intro a F
               refine sLd Tryd.isAgg5 F rfl rfl rfl (H.cell 0 rfl rfl) ?_
               clear F a; intro a F
               refine sBin F rfl rfl rfl rfl (bGtrB (y := 3)) ?_
               clear F a; intro a F
               refine sPk F rfl rfl rfl rfl ?_
               clear F a; intro a F
               refine sNil ?_
               refine hK47 _ _ ?_; clear hK47
               refine cIf F rfl (fun h137 => ?_) (fun h137 => ?_)
               ·
                replace h137 := of_decide_eq_true h137
                have ha0 : askOk p = false := (by unfold askOk; rw [ask13, decide_eq_false (UInt8.not_le.2 h137)]; simp)
                refine cSeq (fun K49 hK49 => ?_)
                refine cReg ?_
                refine sAs F rfl rfl rfl ?_
                clear F a; intro a F
                refine sNil ?_
                refine hK49 _ _ ?_; clear hK49
                refine wp_ret ?_
                simp only [Exit.then]
                refine bRet Tryd.results39 F rfl ?_
                first
                  | exact ⟨by rw [re70 hw0], H.below⟩
                  | exact ⟨by rw [re71 hw1 hl0], H.below⟩
                  | exact ⟨by rw [re72 hw1 hl1 hs0], H.below⟩
                  | exact ⟨by rw [re73 hw1 hl1 hs1 ho0], H.below⟩
                  | exact ⟨by rw [re75 hw1 hl1 hs1 ho1 ha0], H.below⟩
                  | exact ⟨by rw [re74 hw1 hl1 hs1 ho1 ha1 h147], H.below⟩
                  | exact ⟨by rw [re0 hw1 hl1 hs1 ho1 ha1 h147], H.below⟩
               ·
                replace h137 := of_decide_eq_false h137
                have ha1 : askOk p = true := (by unfold askOk; rw [ask13, decide_eq_true (UInt8.not_lt.1 h133), decide_eq_true (UInt8.not_lt.1 h137)]; rfl)
                refine wp_skip ?_
                refine hK46 _ _ ?_; clear hK46
                refine cSeq (fun K50 hK50 => ?_)
                refine cSeq (fun K51 hK51 => ?_)
                refine cReg ?_
                refine sFa (f := 5) (k := 5) Tryd.underlying29 rfl Tryd.sizeOf27 rfl rfl F rfl rfl rfl ?_
                clear F a; intro a F
                refine sLr Tryd.underlying27 rfl ?si F rfl rfl rfl (H.range 0 rfl _ 5) ?_
                case si => exact info_size Tryd.sizeOf27
                clear F a; intro a F
                refine sFa (f := 3) (k := 3) Tryd.underlying29 rfl Tryd.sizeOf24 rfl rfl F rfl rfl rfl ?_
                clear F a; intro a F
                refine sLd Tryd.isAgg24 F rfl rfl rfl (H.cell 0 rfl rfl) ?_
                clear F a; intro a F
                refine sLen Tryd.underlying24 F rfl rfl rfl ?_
                clear F a; intro a F
                refine sFa (f := 1) (k := 1) Tryd.underlying29 rfl Tryd.sizeOf22 rfl rfl F rfl rfl rfl ?_
                clear F a; intro a F
                refine sLd Tryd.isAgg22 F rfl rfl rfl (H.cell 0 rfl rfl) ?_
                clear F a; intro a F
                refine sLen Tryd.underlying22 F rfl rfl rfl ?_
                clear F a; intro a F
                refine sCall Tryd.call62 F rfl rfl rfl (rCond_any _ _ hh _ p.cond _ (CondAt.grown H.grown rfl _ _ _ hp.cond) hd) ?_
                rintro e w ⟨rfl, hb⟩
                replace H := H.grow hb; clear hb
                refine ⟨_, rfl, ?_⟩
                clear F a; intro a F
                refine sNot F rfl rfl rfl ?_
                clear F a; intro a F
                refine sNil ?_
                refine hK51 _ _ ?_; clear hK51
                refine cIf F rfl (fun h147 => ?_) (fun h147 => ?_)
                ·
                 replace h147 := notT h147
                 refine cSeq (fun K52 hK52 => ?_)
                 refine cReg ?_
                 refine sAs F rfl rfl rfl ?_
                 clear F a; intro a F
                 refine sNil ?_
                 refine hK52 _ _ ?_; clear hK52
                 refine wp_ret ?_
                 simp only [Exit.then]
                 refine bRet Tryd.results39 F rfl ?_
                 first
                   | exact ⟨by rw [re70 hw0], H.below⟩
                   | exact ⟨by rw [re71 hw1 hl0], H.below⟩
                   | exact ⟨by rw [re72 hw1 hl1 hs0], H.below⟩
                   | exact ⟨by rw [re73 hw1 hl1 hs1 ho0], H.below⟩
                   | exact ⟨by rw [re75 hw1 hl1 hs1 ho1 ha0], H.below⟩
                   | exact ⟨by rw [re74 hw1 hl1 hs1 ho1 ha1 h147], H.below⟩
                   | exact ⟨by rw [re0 hw1 hl1 hs1 ho1 ha1 h147], H.below⟩
                ·
                 replace h147 := notF h147
                 refine wp_skip ?_
                 refine hK50 _ _ ?_; clear hK50
                 refine cSeq (fun K53 hK53 => ?_)
                 refine cReg ?_
                 refine sAs F rfl rfl rfl ?_
                 clear F a; intro a F
                 refine sNil ?_
                 refine hK53 _ _ ?_; clear hK53
                 refine wp_ret ?_
                 refine bRet Tryd.results39 F rfl ?_
                 first
                   | exact ⟨by rw [re70 hw0], H.below⟩
                   | exact ⟨by rw [re71 hw1 hl0], H.below⟩
                   | exact ⟨by rw [re72 hw1 hl1 hs0], H.below⟩
                   | exact ⟨by rw [re73 hw1 hl1 hs1 ho0], H.below⟩
                   | exact ⟨by rw [re75 hw1 hl1 hs1 ho1 ha0], H.below⟩
                   | exact ⟨by rw [re74 hw1 hl1 hs1 ho1 ha1 h147], H.below⟩
                   | exact ⟨by rw [re0 hw1 hl1 hs1 ho1 ha1 h147], H.below⟩
end Go.Proofs.YtfemniboggnbiaaDoor
