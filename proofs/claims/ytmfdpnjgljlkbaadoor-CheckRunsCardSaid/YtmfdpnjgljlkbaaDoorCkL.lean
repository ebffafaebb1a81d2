/-
  Package check: isWord, locsRight. Conditions: the program lies in memory.
 
  Package check: demands, Right. Conditions: the program lies in memory; block 0 holds the table of needs.
 
  Plain Lean: what a valid program is. Conditions: none.
-/
import Derived.Test.YtmfdpnjgljlkbaaDoorCkK
import Derived.Test.YtmfdpnjgljlkbaaDoorLexK
set_option linter.unusedSimpArgs false
set_option linter.unusedVariables false
namespace Go.Proofs.YtmfdpnjgljlkbaaDoor
open Go.RowKit

/-- A source that is one word. -/
def oneWord (s : ByteArray) : Bool := (lexBad s).isNone && (match toks s with | [t, _] => t.kind == 1 && t.text.toList == s.toList | _ => false)
/-- What Lex answers: an error's number, or the tokens in memory. -/
theorem lexPost_form {s : ByteArray} {w w' : World} {e : Ending} (h : LexPost s w e w') : ∃ (sv : Value) (p : Nat) (f : Int), e = .returned (.tuple #[sv, .int .i64 (p : Int), .int .i64 f]) ∧ Below w.heap.size w w' ∧
    ((f = 0 ∧ lexBad s = none ∧ w'.ownsRow w.heap.size 122 3 sv (toks s).length (cellsOf (toks s))) ∨ (f ≠ 0 ∧ lexBad s ≠ none ∧ sv = .slice none 0 0)) := by
  obtain ⟨h1, ⟨p, f, h2, h3⟩ | ⟨h2, sv, h3, h4, _⟩⟩ := h
  · refine ⟨_, p, f, h3, h1, .inr ⟨?_, by rw [h2]; simp, rfl⟩⟩
    unfold lexBad at h2
    split at h2
    · cases h2; decide
    · obtain ⟨t, ht, he⟩ := Option.map_eq_some_iff.1 h2
      cases he
      have : ∀ l t, firstBad l = some t → faultOf t ≠ 0 := by
        intro l
        induction l with
        | nil => intro t h; cases h
        | cons a r ih =>
          intro t h
          unfold firstBad at h
          split at h
          · exact ih t h
          · cases h; assumption
      exact this _ _ ht
  · exact ⟨sv, 0, 0, h3, h1, .inl ⟨rfl, h2, h4⟩⟩
theorem owns_form {w : World} {base n : Nat} {e : TypeId} {sz : Nat} {sv : Value} {xs : List Value} (h : w.ownsRow base e sz sv n xs) : ∃ A C, sv = .slice A n C ∧ (∀ j v, xs[j]? = some v → ∃ g, A = some ⟨g, 0, none⟩ ∧ w.cell? ⟨g, j, none⟩ = some v) := by
  obtain ⟨hx, ⟨rfl, rfl⟩ | ⟨g, cap, cur, rfl, _, h2, _, _, h5, h6⟩⟩ := h
  · exact ⟨none, 0, rfl, fun j v hj => by rw [Nat.zero_mul] at hx; rw [List.length_eq_zero_iff.1 hx] at hj; simp at hj⟩
  · refine ⟨_, cap, rfl, fun j v hj => ⟨g, rfl, ?_⟩⟩
    rw [← h6, List.getElem?_take] at hj
    split at hj
    · simp [World.cell?, h2]; simpa using hj
    · cases hj
theorem isWord_any (s : ByteArray) (w0 : World) (hs : s.size ≤ maxLen) : Calls Tryd.prog 70 #[.string s] w0 fun e w' => e = .returned (.bool (oneWord s)) ∧ Below w0.heap.size w0 w' := by
  have H := Own.start w0 none
  refine enterF Tryd.func70 rfl Tryd.ntmps70 rfl (fun a F => ?_)
  refine cSeq (fun K1 hK1 => ?_)
  refine cReg ?_
  refine sAs F rfl rfl rfl ?_;clear F a;intro a F
  refine sNil ?_
  refine hK1 _ _ ?_; clear hK1
  refine cSeq (fun K2 hK2 => ?_)
  refine cReg ?_
  refine sMv F rfl rfl rfl ?_;clear F a;intro a F
  refine sCall Tryd.call84 F rfl rfl rfl (lex_any s _ hs) ?_
  rintro e w hp
  obtain ⟨sv, p, f, rfl, hb, hp⟩ := lexPost_form hp
  replace H := H.grow hb; clear hb
  obtain ⟨A, n, C, rfl, hh⟩ : ∃ A n C, sv = .slice A n C ∧ ((f = 0 ∧ lexBad s = none ∧ n = (toks s).length ∧ (∀ j v, (cellsOf (toks s))[j]? = some v → ∃ g, A = some ⟨g, 0, none⟩ ∧ w.cell? ⟨g, j, none⟩ = some v)) ∨ (f ≠ 0 ∧ lexBad s ≠ none)) := by
    rcases hp with ⟨h1, h2, h3⟩ | ⟨h1, h2, h3⟩
    · obtain ⟨A, C, h4, h5⟩ := owns_form h3
      exact ⟨A, _, C, h4, .inl ⟨h1, h2, rfl, h5⟩⟩
    · exact ⟨_, _, _, h3, .inr ⟨h1, h2⟩⟩
  refine ⟨_, rfl, ?_⟩
  clear F a; intro a F
  refine sMv F rfl rfl rfl ?_;clear F a;intro a F
  refine sExt F rfl rfl rfl rfl ?_;clear F a;intro a F
  refine sExt F rfl rfl rfl rfl ?_;clear F a;intro a F
  refine sExt F rfl rfl rfl rfl ?_;clear F a;intro a F
  refine sAs F rfl rfl rfl ?_;clear F a;intro a F
  refine sAs F rfl rfl rfl ?_;clear F a;intro a F
  refine sAs F rfl rfl rfl ?_;clear F a;intro a F
  refine sNil ?_
  refine hK2 _ _ ?_; clear hK2
  refine cSeq (fun K3 hK3 => ?_)
  refine cReg ?_
  refine sMv F rfl rfl rfl ?_;clear F a;intro a F
  refine sBin F rfl rfl rfl rfl bEql ?_;clear F a;intro a F
  refine sMv F rfl rfl rfl ?_;clear F a;intro a F
  refine F.split 14 rfl ?_ ?_ <;> (clear F; intro h14 F)
  ·
   replace h14 := beqT h14
   have hk : lexBad s = none ∧ n = (toks s).length ∧ (∀ j v, (cellsOf (toks s))[j]? = some v → ∃ g, A = some ⟨g, 0, none⟩ ∧ w.cell? ⟨g, j, none⟩ = some v) := by
     rcases hh with ⟨_, h2⟩ | ⟨h2, _⟩
     · exact h2
     · exact absurd h14 h2
   obtain ⟨hb0, hn, hcs⟩ := hk
   refine sMv F rfl rfl rfl ?_;clear F a;intro a F
   refine sLen Tryd.underlying117 F rfl rfl rfl ?_;clear F a;intro a F
   refine sBin F rfl rfl rfl rfl bEql ?_;clear F a;intro a F
   refine sPk F rfl rfl rfl rfl ?_;clear F a;intro a F
   refine sMv F rfl rfl rfl ?_;clear F a;intro a F
   refine F.split 19 rfl ?_ ?_ <;> (clear F; intro h19 F)
   ·
    replace h19 := beqT h19
    have h2 : (toks s).length = 2 := by omega
    obtain ⟨t, u, htk⟩ : ∃ t u, toks s = [t, u] := by match toks s, h2 with | [t, u], _ => exact ⟨t, u, rfl⟩
    rw [htk] at hcs
    obtain ⟨q, rfl, c0⟩ := hcs 0 _ rfl
    obtain ⟨q', hq', c1⟩ := hcs 1 _ rfl
    cases hq'
    refine sMv F rfl rfl rfl ?_;clear F a;intro a F
    refine sIx (j := 0) Tryd.underlying117 Tryd.sizeOf122 F rfl rfl rfl rfl ?_ ?_
    focus (first | omega | decide | (simp; omega))
    clear F a; intro a F
    refine sFa (f := 0) Tryd.underlying122 rfl Tryd.sizeOf120 rfl rfl F rfl rfl rfl ?_;clear F a;intro a F
    refine sLd Tryd.isAgg120 F rfl rfl rfl c0 ?_;clear F a;intro a F
    refine sBin F rfl rfl rfl rfl bEql ?_;clear F a;intro a F
    refine sPk F rfl rfl rfl rfl ?_;clear F a;intro a F
    refine sMv F rfl rfl rfl ?_;clear F a;intro a F
    refine F.split 26 rfl ?_ ?_ <;> (clear F; intro h26 F)
    ·
     replace h26 := beqT h26
     have hk1 : (t.kind == 1) = true := by simp; omega
     refine sMv F rfl rfl rfl ?_;clear F a;intro a F
     refine sIx (j := 0) Tryd.underlying117 Tryd.sizeOf122 F rfl rfl rfl rfl ?_ ?_
     focus (first | omega | decide | (simp; omega))
     clear F a; intro a F
     refine sFa (f := 1) Tryd.underlying122 rfl Tryd.sizeOf9 rfl rfl F rfl rfl rfl ?_;clear F a;intro a F
     refine sLd Tryd.isAgg9 F rfl rfl rfl c1 ?_;clear F a;intro a F
     refine sMv F rfl rfl rfl ?_;clear F a;intro a F
     refine sBin F rfl rfl rfl rfl bStrEq ?_;clear F a;intro a F
     refine sPk F rfl rfl rfl rfl ?_;clear F a;intro a F
     refine sAs F rfl rfl rfl ?_;clear F a;intro a F
     refine sNil ?_
     refine hK3 _ _ ?_; clear hK3
     refine wp_ret ?_
     refine bRet Tryd.results70 F rfl ?_
     first
       | exact ⟨retB (by rw [oneWord, hb0, Bool.false_and]), H.below⟩
       | exact ⟨retB (by rw [oneWord, hb0, htk]; simp only [hk1]; rfl), H.below⟩
       | exact ⟨retB (by rw [oneWord, hb0]; symm; rw [Bool.and_eq_false_iff]; right; split <;> simp_all), H.below⟩
    replace h26 := beqF h26
    have hk1 : (t.kind == 1) = false := by simp; omega
    refine sSk F rfl rfl ?_;clear F a;intro a F
    refine sSk F rfl rfl ?_;clear F a;intro a F
    refine sSk F rfl rfl ?_;clear F a;intro a F
    refine sSk F rfl rfl ?_;clear F a;intro a F
    refine sSk F rfl rfl ?_;clear F a;intro a F
    refine sSk F rfl rfl ?_;clear F a;intro a F
    refine sPk F rfl rfl rfl rfl ?_;clear F a;intro a F
    refine sAs F rfl rfl rfl ?_;clear F a;intro a F
    refine sNil ?_
    refine hK3 _ _ ?_; clear hK3
    refine wp_ret ?_
    refine bRet Tryd.results70 F rfl ?_
    first
      | exact ⟨retB (by rw [oneWord, hb0, Bool.false_and]), H.below⟩
      | exact ⟨retB (by rw [oneWord, hb0, htk]; simp only [hk1]; rfl), H.below⟩
      | exact ⟨retB (by rw [oneWord, hb0]; symm; rw [Bool.and_eq_false_iff]; right; split <;> simp_all), H.below⟩
   replace h19 := beqF h19
   have h2 : (toks s).length ≠ 2 := by omega
   refine sSk F rfl rfl ?_;clear F a;intro a F
   refine sSk F rfl rfl ?_;clear F a;intro a F
   refine sSk F rfl rfl ?_;clear F a;intro a F
   refine sSk F rfl rfl ?_;clear F a;intro a F
   refine sSk F rfl rfl ?_;clear F a;intro a F
   refine sPk F rfl rfl rfl rfl ?_;clear F a;intro a F
   refine sMv F rfl rfl rfl ?_;clear F a;intro a F
   refine sSk F rfl rfl ?_;clear F a;intro a F
   refine sSk F rfl rfl ?_;clear F a;intro a F
   refine sSk F rfl rfl ?_;clear F a;intro a F
   refine sSk F rfl rfl ?_;clear F a;intro a F
   refine sSk F rfl rfl ?_;clear F a;intro a F
   refine sSk F rfl rfl ?_;clear F a;intro a F
   refine sPk F rfl rfl rfl rfl ?_;clear F a;intro a F
   refine sAs F rfl rfl rfl ?_;clear F a;intro a F
   refine sNil ?_
   refine hK3 _ _ ?_; clear hK3
   refine wp_ret ?_
   refine bRet Tryd.results70 F rfl ?_
   first
     | exact ⟨retB (by rw [oneWord, hb0, Bool.false_and]), H.below⟩
     | exact ⟨retB (by rw [oneWord, hb0, htk]; simp only [hk1]; rfl), H.below⟩
     | exact ⟨retB (by rw [oneWord, hb0]; symm; rw [Bool.and_eq_false_iff]; right; split <;> simp_all), H.below⟩
  replace h14 := beqF h14
  have hb0 : (lexBad s).isNone = false := by
    rcases hh with ⟨h2, _⟩ | ⟨_, h2⟩
    · exact absurd h2 h14
    · cases hq : lexBad s with
      | none => exact absurd hq h2
      | some _ => rfl
  refine sSk F rfl rfl ?_;clear F a;intro a F
  refine sSk F rfl rfl ?_;clear F a;intro a F
  refine sSk F rfl rfl ?_;clear F a;intro a F
  refine sPk F rfl rfl rfl rfl ?_;clear F a;intro a F
  refine sMv F rfl rfl rfl ?_;clear F a;intro a F
  refine sSk F rfl rfl ?_;clear F a;intro a F
  refine sSk F rfl rfl ?_;clear F a;intro a F
  refine sSk F rfl rfl ?_;clear F a;intro a F
  refine sSk F rfl rfl ?_;clear F a;intro a F
  refine sSk F rfl rfl ?_;clear F a;intro a F
  refine sPk F rfl rfl rfl rfl ?_;clear F a;intro a F
  refine sMv F rfl rfl rfl ?_;clear F a;intro a F
  refine sSk F rfl rfl ?_;clear F a;intro a F
  refine sSk F rfl rfl ?_;clear F a;intro a F
  refine sSk F rfl rfl ?_;clear F a;intro a F
  refine sSk F rfl rfl ?_;clear F a;intro a F
  refine sSk F rfl rfl ?_;clear F a;intro a F
  refine sSk F rfl rfl ?_;clear F a;intro a F
  refine sPk F rfl rfl rfl rfl ?_;clear F a;intro a F
  refine sAs F rfl rfl rfl ?_;clear F a;intro a F
  refine sNil ?_
  refine hK3 _ _ ?_; clear hK3
  refine wp_ret ?_
  refine bRet Tryd.results70 F rfl ?_
  first
    | exact ⟨retB (by rw [oneWord, hb0, Bool.false_and]), H.below⟩
    | exact ⟨retB (by rw [oneWord, hb0, htk]; simp only [hk1]; rfl), H.below⟩
    | exact ⟨retB (by rw [oneWord, hb0]; symm; rw [Bool.and_eq_false_iff]; right; split <;> simp_all), H.below⟩
/-- The names of locations, from number j on. -/
def namesOk (l : List ByteArray) : Nat → List ByteArray → Bool
  | _, [] => true
  | j, x :: r => (nameOk x && !(idxOf x (l.take j) 0).isSome) && namesOk l (j + 1) r
theorem namesOk_at {l m : List ByteArray} {j : Nat} {x : ByteArray} (hx : l[j]? = some x) : namesOk m j (l.drop j) = ((nameOk x && !(idxOf x (m.take j) 0).isSome) && namesOk m (j + 1) (l.drop (j + 1))) := by
  obtain ⟨hj, rfl⟩ := List.getElem?_eq_some_iff.1 hx
  rw [List.drop_eq_getElem_cons hj]
  rfl
def locsOk (p : Prg) : Bool := (decide (1 ≤ p.locs.length) && decide (p.locs.length ≤ 6) && p.init.length == p.locs.length) && namesOk p.locs 0 p.locs
theorem StrsAt.take {w : World} {A : Option Addr} {l : List ByteArray} (h : StrsAt w A l) (j : Nat) : StrsAt w A (l.take j) := by
  intro k cs hk
  refine h k cs ?_
  rw [List.getElem?_map] at hk ⊢
  rw [List.getElem?_take] at hk
  split at hk
  · exact hk
  · cases hk
set_option maxHeartbeats 1000000 in
set_option maxRecDepth 10000 in
theorem locsRight_any (B : Nat) (cs : List Value) (p : Prg) (w0 : World) (hB : w0.rangeAt B 0 cs) (hP : ProgAt w0 cs p) :
    Calls Tryd.prog 72 #[.pointer (some ⟨B, 0, none⟩)] w0 fun e w' => e = .returned (.bool (locsOk p)) ∧ Below w0.heap.size w0 w' := by
  obtain ⟨LA, LC, IA, IC, TA, TC, h, ccs, hp⟩ := hP
  have hcs := hp.cs
  subst hcs
  have hn := hp.locsN
  have hi := hp.initN
  have hlc := hp.locsC
  have H := Own.start w0 none
  refine enterF Tryd.func72 rfl Tryd.ntmps72 rfl (fun a F => ?_)
  refine cSeq (fun K1 hK1 => ?_)
  refine cReg ?_
  refine sAs F rfl rfl rfl ?_;clear F a;intro a F
  refine sNil ?_
  refine hK1 _ _ ?_; clear hK1
  refine cSeqJ [0] (fun ups w => (decide (1 ≤ p.locs.length) && decide (p.locs.length ≤ 6) && p.init.length == p.locs.length) = true ∧ ups = [] ∧ Own w0 none w []) F (by repeat (first | exact SubR.nil | (apply SubR.cons; · rfl))) ?_ ?_
  ·
   refine cSeq (fun K2 hK2 => ?_)
   refine cRegDO (by kernel_rfl) H ?_
   replace H := H.drew
   refine dTake (k := 0) (by kernel_rfl) (by kernel_rfl) F rfl rfl rfl (fun w H => rMv F rfl) H (fun _ _ _ h => h) ?_;clear F a;intro a F
   refine dTake (k := 1) (by kernel_rfl) (by kernel_rfl) F rfl rfl rfl (fun w H => rNc F rfl) H (fun _ _ _ h => h) ?_;clear F a;intro a F
   refine dTake (k := 2) (by kernel_rfl) (by kernel_rfl) F rfl rfl rfl (fun w H => rFa (f := 1) (k := 1) Tryd.underlying37 rfl Tryd.sizeOf33 rfl rfl F rfl) H (fun _ _ _ h => h) ?_;clear F a;intro a F
   refine dTake (k := 3) (by kernel_rfl) (by kernel_rfl) F rfl rfl rfl (fun w H => rLd Tryd.isAgg33 F rfl (H.arg (hB 1 _ rfl))) H (fun _ _ _ h => h) ?_;clear F a;intro a F
   refine dTake (k := 4) (by kernel_rfl) (by kernel_rfl) F rfl rfl rfl (fun w H => rLen Tryd.underlying33 F rfl) H (fun _ _ _ h => h) ?_;clear F a;intro a F
   refine dTake (k := 5) (by kernel_rfl) (by kernel_rfl) F rfl rfl rfl (fun w H => rBin F rfl rfl bLss) H (fun _ _ _ h => h) ?_;clear F a;intro a F
   refine dTake (k := 6) (by kernel_rfl) (by kernel_rfl) F rfl rfl rfl (fun w H => rMv F rfl) H (fun _ _ _ h => h) ?_;clear F a;intro a F
   refine F.split 11 rfl ?_ ?_ <;> (clear F; intro h11 F)
   ·
    replace h11 := of_decide_eq_true h11
    refine dSkip (k := 7) (by kernel_rfl) (by kernel_rfl) F rfl rfl rfl H (fun _ _ _ h => h) ?_;clear F a;intro a F
    refine dSkip (k := 8) (by kernel_rfl) (by kernel_rfl) F rfl rfl rfl H (fun _ _ _ h => h) ?_;clear F a;intro a F
    refine dSkip (k := 9) (by kernel_rfl) (by kernel_rfl) F rfl rfl rfl H (fun _ _ _ h => h) ?_;clear F a;intro a F
    refine dSkip (k := 10) (by kernel_rfl) (by kernel_rfl) F rfl rfl rfl H (fun _ _ _ h => h) ?_;clear F a;intro a F
    refine dSkip (k := 11) (by kernel_rfl) (by kernel_rfl) F rfl rfl rfl H (fun _ _ _ h => h) ?_;clear F a;intro a F
    refine dSkip (k := 12) (by kernel_rfl) (by kernel_rfl) F rfl rfl rfl H (fun _ _ _ h => h) ?_;clear F a;intro a F
    refine dTake (k := 13) (by kernel_rfl) (by kernel_rfl) F rfl rfl rfl (fun w H => rPk F rfl rfl) H (fun _ _ _ h => h) ?_;clear F a;intro a F
    refine dTake (k := 14) (by kernel_rfl) (by kernel_rfl) F rfl rfl rfl (fun w H => rMv F rfl) H (fun _ _ _ h => h) ?_;clear F a;intro a F
    refine dSkip (k := 15) (by kernel_rfl) (by kernel_rfl) F rfl rfl rfl H (fun _ _ _ h => h) ?_;clear F a;intro a F
    refine dSkip (k := 16) (by kernel_rfl) (by kernel_rfl) F rfl rfl rfl H (fun _ _ _ h => h) ?_;clear F a;intro a F
    refine dSkip (k := 17) (by kernel_rfl) (by kernel_rfl) F rfl rfl rfl H (fun _ _ _ h => h) ?_;clear F a;intro a F
    refine dSkip (k := 18) (by kernel_rfl) (by kernel_rfl) F rfl rfl rfl H (fun _ _ _ h => h) ?_;clear F a;intro a F
    refine dSkip (k := 19) (by kernel_rfl) (by kernel_rfl) F rfl rfl rfl H (fun _ _ _ h => h) ?_;clear F a;intro a F
    refine dSkip (k := 20) (by kernel_rfl) (by kernel_rfl) F rfl rfl rfl H (fun _ _ _ h => h) ?_;clear F a;intro a F
    refine dSkip (k := 21) (by kernel_rfl) (by kernel_rfl) F rfl rfl rfl H (fun _ _ _ h => h) ?_;clear F a;intro a F
    refine dSkip (k := 22) (by kernel_rfl) (by kernel_rfl) F rfl rfl rfl H (fun _ _ _ h => h) ?_;clear F a;intro a F
    refine dSkip (k := 23) (by kernel_rfl) (by kernel_rfl) F rfl rfl rfl H (fun _ _ _ h => h) ?_;clear F a;intro a F
    refine dSkip (k := 24) (by kernel_rfl) (by kernel_rfl) F rfl rfl rfl H (fun _ _ _ h => h) ?_;clear F a;intro a F
    refine dSkip (k := 25) (by kernel_rfl) (by kernel_rfl) F rfl rfl rfl H (fun _ _ _ h => h) ?_;clear F a;intro a F
    refine dTake (k := 26) (by kernel_rfl) (by kernel_rfl) F rfl rfl rfl (fun w H => rPk F rfl rfl) H (fun _ _ _ h => h) ?_;clear F a;intro a F
    refine dNil (k := 27) ?_ rfl
    refine hK2 _ _ ?_; clear hK2
    refine cIfT F rfl ?_
    refine cSeq (fun K3 hK3 => ?_)
    refine cReg ?_
    refine sAs F rfl rfl rfl ?_;clear F a;intro a F
    refine sNil ?_
    refine hK3 _ _ ?_; clear hK3
    refine wp_ret ?_
    simp only [Exit.then]
    refine bRet Tryd.results72 F rfl ?_
    first
      | exact ⟨retB (by rw [locsOk, hsz, Bool.true_and, ht, namesOk_at hx]; clear F hB; simp_all), H.below⟩
      | exact ⟨retB (by rw [locsOk, hsz, Bool.true_and, ht, List.drop_eq_nil_of_le (by omega)]; rfl), H.below⟩
      | exact ⟨retB (by clear F hB; rw [locsOk]; symm; rw [Bool.and_eq_false_iff]; left; simp_all <;> omega), H.below⟩
   replace h11 := of_decide_eq_false h11
   refine dTake (k := 7) (by kernel_rfl) (by kernel_rfl) F rfl rfl rfl (fun w H => rMv F rfl) H (fun _ _ _ h => h) ?_;clear F a;intro a F
   refine dTake (k := 8) (by kernel_rfl) (by kernel_rfl) F rfl rfl rfl (fun w H => rNc F rfl) H (fun _ _ _ h => h) ?_;clear F a;intro a F
   refine dTake (k := 9) (by kernel_rfl) (by kernel_rfl) F rfl rfl rfl (fun w H => rFa (f := 1) (k := 1) Tryd.underlying37 rfl Tryd.sizeOf33 rfl rfl F rfl) H (fun _ _ _ h => h) ?_;clear F a;intro a F
   refine dTake (k := 10) (by kernel_rfl) (by kernel_rfl) F rfl rfl rfl (fun w H => rLd Tryd.isAgg33 F rfl (H.arg (hB 1 _ rfl))) H (fun _ _ _ h => h) ?_;clear F a;intro a F
   refine dTake (k := 11) (by kernel_rfl) (by kernel_rfl) F rfl rfl rfl (fun w H => rLen Tryd.underlying33 F rfl) H (fun _ _ _ h => h) ?_;clear F a;intro a F
   refine dTake (k := 12) (by kernel_rfl) (by kernel_rfl) F rfl rfl rfl (fun w H => rBin F rfl rfl bGtr) H (fun _ _ _ h => h) ?_;clear F a;intro a F
   refine dTake (k := 13) (by kernel_rfl) (by kernel_rfl) F rfl rfl rfl (fun w H => rPk F rfl rfl) H (fun _ _ _ h => h) ?_;clear F a;intro a F
   refine dTake (k := 14) (by kernel_rfl) (by kernel_rfl) F rfl rfl rfl (fun w H => rMv F rfl) H (fun _ _ _ h => h) ?_;clear F a;intro a F
   refine F.split 19 rfl ?_ ?_ <;> (clear F; intro h19 F)
   ·
    replace h19 := of_decide_eq_true h19
    refine dSkip (k := 15) (by kernel_rfl) (by kernel_rfl) F rfl rfl rfl H (fun _ _ _ h => h) ?_;clear F a;intro a F
    refine dSkip (k := 16) (by kernel_rfl) (by kernel_rfl) F rfl rfl rfl H (fun _ _ _ h => h) ?_;clear F a;intro a F
    refine dSkip (k := 17) (by kernel_rfl) (by kernel_rfl) F rfl rfl rfl H (fun _ _ _ h => h) ?_;clear F a;intro a F
    refine dSkip (k := 18) (by kernel_rfl) (by kernel_rfl) F rfl rfl rfl H (fun _ _ _ h => h) ?_;clear F a;intro a F
    refine dSkip (k := 19) (by kernel_rfl) (by kernel_rfl) F rfl rfl rfl H (fun _ _ _ h => h) ?_;clear F a;intro a F
    refine dSkip (k := 20) (by kernel_rfl) (by kernel_rfl) F rfl rfl rfl H (fun _ _ _ h => h) ?_;clear F a;intro a F
    refine dSkip (k := 21) (by kernel_rfl) (by kernel_rfl) F rfl rfl rfl H (fun _ _ _ h => h) ?_;clear F a;intro a F
    refine dSkip (k := 22) (by kernel_rfl) (by kernel_rfl) F rfl rfl rfl H (fun _ _ _ h => h) ?_;clear F a;intro a F
    refine dSkip (k := 23) (by kernel_rfl) (by kernel_rfl) F rfl rfl rfl H (fun _ _ _ h => h) ?_;clear F a;intro a F
    refine dSkip (k := 24) (by kernel_rfl) (by kernel_rfl) F rfl rfl rfl H (fun _ _ _ h => h) ?_;clear F a;intro a F
    refine dSkip (k := 25) (by kernel_rfl) (by kernel_rfl) F rfl rfl rfl H (fun _ _ _ h => h) ?_;clear F a;intro a F
    refine dTake (k := 26) (by kernel_rfl) (by kernel_rfl) F rfl rfl rfl (fun w H => rPk F rfl rfl) H (fun _ _ _ h => h) ?_;clear F a;intro a F
    refine dNil (k := 27) ?_ rfl
    refine hK2 _ _ ?_; clear hK2
    refine cIfT F rfl ?_
    refine cSeq (fun K4 hK4 => ?_)
    refine cReg ?_
    refine sAs F rfl rfl rfl ?_;clear F a;intro a F
    refine sNil ?_
    refine hK4 _ _ ?_; clear hK4
    refine wp_ret ?_
    simp only [Exit.then]
    refine bRet Tryd.results72 F rfl ?_
    first
      | exact ⟨retB (by rw [locsOk, hsz, Bool.true_and, ht, namesOk_at hx]; clear F hB; simp_all), H.below⟩
      | exact ⟨retB (by rw [locsOk, hsz, Bool.true_and, ht, List.drop_eq_nil_of_le (by omega)]; rfl), H.below⟩
      | exact ⟨retB (by clear F hB; rw [locsOk]; symm; rw [Bool.and_eq_false_iff]; left; simp_all <;> omega), H.below⟩
   replace h19 := of_decide_eq_false h19
   refine dTake (k := 15) (by kernel_rfl) (by kernel_rfl) F rfl rfl rfl (fun w H => rMv F rfl) H (fun _ _ _ h => h) ?_;clear F a;intro a F
   refine dTake (k := 16) (by kernel_rfl) (by kernel_rfl) F rfl rfl rfl (fun w H => rNc F rfl) H (fun _ _ _ h => h) ?_;clear F a;intro a F
   refine dTake (k := 17) (by kernel_rfl) (by kernel_rfl) F rfl rfl rfl (fun w H => rFa (f := 2) (k := 2) Tryd.underlying37 rfl Tryd.sizeOf34 rfl rfl F rfl) H (fun _ _ _ h => h) ?_;clear F a;intro a F
   refine dTake (k := 18) (by kernel_rfl) (by kernel_rfl) F rfl rfl rfl (fun w H => rLd Tryd.isAgg34 F rfl (H.arg (hB 2 _ rfl))) H (fun _ _ _ h => h) ?_;clear F a;intro a F
   refine dTake (k := 19) (by kernel_rfl) (by kernel_rfl) F rfl rfl rfl (fun w H => rLen Tryd.underlying34 F rfl) H (fun _ _ _ h => h) ?_;clear F a;intro a F
   refine dTake (k := 20) (by kernel_rfl) (by kernel_rfl) F rfl rfl rfl (fun w H => rMv F rfl) H (fun _ _ _ h => h) ?_;clear F a;intro a F
   refine dTake (k := 21) (by kernel_rfl) (by kernel_rfl) F rfl rfl rfl (fun w H => rNc F rfl) H (fun _ _ _ h => h) ?_;clear F a;intro a F
   refine dTake (k := 22) (by kernel_rfl) (by kernel_rfl) F rfl rfl rfl (fun w H => rFa (f := 1) (k := 1) Tryd.underlying37 rfl Tryd.sizeOf33 rfl rfl F rfl) H (fun _ _ _ h => h) ?_;clear F a;intro a F
   refine dTake (k := 23) (by kernel_rfl) (by kernel_rfl) F rfl rfl rfl (fun w H => rLd Tryd.isAgg33 F rfl (H.arg (hB 1 _ rfl))) H (fun _ _ _ h => h) ?_;clear F a;intro a F
   refine dTake (k := 24) (by kernel_rfl) (by kernel_rfl) F rfl rfl rfl (fun w H => rLen Tryd.underlying33 F rfl) H (fun _ _ _ h => h) ?_;clear F a;intro a F
   refine dTake (k := 25) (by kernel_rfl) (by kernel_rfl) F rfl rfl rfl (fun w H => rBin F rfl rfl bNeq) H (fun _ _ _ h => h) ?_;clear F a;intro a F
   refine dTake (k := 26) (by kernel_rfl) (by kernel_rfl) F rfl rfl rfl (fun w H => rPk F rfl rfl) H (fun _ _ _ h => h) ?_;clear F a;intro a F
   refine dNil (k := 27) ?_ rfl
   refine hK2 _ _ ?_; clear hK2
   refine cIf F rfl (fun h31 => ?_) (fun h31 => ?_)
   ·
    replace h31 := bneT h31
    refine cSeq (fun K5 hK5 => ?_)
    refine cReg ?_
    refine sAs F rfl rfl rfl ?_;clear F a;intro a F
    refine sNil ?_
    refine hK5 _ _ ?_; clear hK5
    refine wp_ret ?_
    simp only [Exit.then]
    refine bRet Tryd.results72 F rfl ?_
    first
      | exact ⟨retB (by rw [locsOk, hsz, Bool.true_and, ht, namesOk_at hx]; clear F hB; simp_all), H.below⟩
      | exact ⟨retB (by rw [locsOk, hsz, Bool.true_and, ht, List.drop_eq_nil_of_le (by omega)]; rfl), H.below⟩
      | exact ⟨retB (by clear F hB; rw [locsOk]; symm; rw [Bool.and_eq_false_iff]; left; simp_all <;> omega), H.below⟩
   replace h31 := bneF h31
   refine wp_skip ?_
   refine ⟨[], ⟨?_, rfl, H⟩, F.to (by repeat (first | exact trivial | refine Le.cons rfl ?_))⟩
   clear F hB
   simp_all <;> omega
  clear F H
  intro ups a w hI F
  obtain ⟨hsz, rfl, H⟩ := hI
  refine cSeq (fun K6 hK6 => ?_)
  refine cSeq (fun K7 hK7 => ?_)
  refine cReg ?_
  refine sMv F rfl rfl rfl ?_;clear F a;intro a F
  refine sNc F rfl rfl rfl ?_;clear F a;intro a F
  refine sFa (f := 1) (k := 1) Tryd.underlying37 rfl Tryd.sizeOf33 rfl rfl F rfl rfl rfl ?_;clear F a;intro a F
  refine sLd Tryd.isAgg33 F rfl rfl rfl (H.arg (hB 1 _ rfl)) ?_;clear F a;intro a F
  refine sLen Tryd.underlying33 F rfl rfl rfl ?_;clear F a;intro a F
  refine sMv F rfl rfl rfl ?_;clear F a;intro a F
  refine sNil ?_
  refine hK7 _ _ ?_; clear hK7
  refine wp_block ?_
  refine cLoopR [0, 35, 36] (fun m ups w => ∃ j : Nat, m = p.locs.length - j ∧ ups = [(37, .int .i64 (j : Int))] ∧ j ≤ p.locs.length ∧ namesOk p.locs 0 p.locs = namesOk p.locs j (p.locs.drop j) ∧ Own w0 none w []) F (p.locs.length) [(37, .int .i64 ((0 : Nat) : Int))] (by repeat (first | exact SubR.nil | (apply SubR.cons; · rfl))) ?_ ?_ ?_
  · exact ⟨0, rfl, rfl, Nat.zero_le _, rfl, H⟩
  · repeat (first | exact trivial | refine Le.cons rfl ?_)
  clear F
  clear H
  intro m ups a w hI F
  obtain ⟨j, rfl, rfl, hj, ht, H⟩ := hI
  refine cSeq (fun K8 hK8 => ?_)
  refine cReg ?_
  refine sBin F rfl rfl rfl rfl bLss ?_;clear F a;intro a F
  refine sNil ?_
  refine hK8 _ _ ?_; clear hK8
  refine cSeq (fun K9 hK9 => ?_)
  refine cIf F rfl (fun h38 => ?_) (fun h38 => ?_)
  ·
   replace h38 := of_decide_eq_true h38
   have hjl : j < p.locs.length := by omega
   obtain ⟨x, hx⟩ : ∃ x, p.locs[j]? = some x := ⟨_, List.getElem?_eq_getElem hjl⟩
   obtain ⟨b, off, rfl, hc⟩ := hp.locs.get hx
   have hjt : (p.locs.take j).length = j := by rw [List.length_take]; omega
   refine wp_skip ?_
   refine hK9 _ _ ?_; clear hK9
   refine cSeq (fun K10 hK10 => ?_)
   refine wp_block ?_
   refine cSeq (fun K11 hK11 => ?_)
   refine cReg ?_
   refine sMv F rfl rfl rfl ?_;clear F a;intro a F
   refine sIx Tryd.underlying33 Tryd.sizeOf9 F rfl rfl rfl rfl ?_ ?_
   focus (first | omega | decide | (simp; omega))
   clear F a; intro a F
   refine sLd Tryd.isAgg9 F rfl rfl rfl (H.arg hc) ?_;clear F a;intro a F
   refine sAs F rfl rfl rfl ?_;clear F a;intro a F
   refine sAs F rfl rfl rfl ?_;clear F a;intro a F
   refine sNil ?_
   refine hK11 _ _ ?_; clear hK11
   refine cSeq (fun K12 hK12 => ?_)
   refine cReg ?_
   refine sMv F rfl rfl rfl ?_;clear F a;intro a F
   refine sCall Tryd.call85 F rfl rfl rfl (name_any x _ (hp.locsS x (List.mem_of_getElem? hx)) _ rfl) ?_
   rintro e w ⟨rfl, rfl⟩
   refine ⟨_, rfl, ?_⟩
   clear F a; intro a F
   refine sNot F rfl rfl rfl ?_;clear F a;intro a F
   refine sMv F rfl rfl rfl ?_;clear F a;intro a F
   refine F.split 45 rfl ?_ ?_ <;> (clear F; intro h45 F)
   ·
    replace h45 := notT h45
    refine sSk F rfl rfl ?_;clear F a;intro a F
    refine sSk F rfl rfl ?_;clear F a;intro a F
    refine sSk F rfl rfl ?_;clear F a;intro a F
    refine sSk F rfl rfl ?_;clear F a;intro a F
    refine sSk F rfl rfl ?_;clear F a;intro a F
    refine sSk F rfl rfl ?_;clear F a;intro a F
    refine sSk F rfl rfl ?_;clear F a;intro a F
    refine sSk F rfl rfl ?_;clear F a;intro a F
    refine sPk F rfl rfl rfl rfl ?_;clear F a;intro a F
    refine sNil ?_
    refine hK12 _ _ ?_; clear hK12
    refine cIfT F rfl ?_
    refine cSeq (fun K13 hK13 => ?_)
    refine cReg ?_
    refine sAs F rfl rfl rfl ?_;clear F a;intro a F
    refine sNil ?_
    refine hK13 _ _ ?_; clear hK13
    refine wp_ret ?_
    simp only [Exit.inBlock, Exit.then]
    refine bRet Tryd.results72 F rfl ?_
    first
      | exact ⟨retB (by rw [locsOk, hsz, Bool.true_and, ht, namesOk_at hx]; clear F hB; simp_all), H.below⟩
      | exact ⟨retB (by rw [locsOk, hsz, Bool.true_and, ht, List.drop_eq_nil_of_le (by omega)]; rfl), H.below⟩
      | exact ⟨retB (by clear F hB; rw [locsOk]; symm; rw [Bool.and_eq_false_iff]; left; simp_all <;> omega), H.below⟩
   replace h45 := notF h45
   refine sMv F rfl rfl rfl ?_;clear F a;intro a F
   refine sNc F rfl rfl rfl ?_;clear F a;intro a F
   refine sFa (f := 1) (k := 1) Tryd.underlying37 rfl Tryd.sizeOf33 rfl rfl F rfl rfl rfl ?_;clear F a;intro a F
   refine sLd Tryd.isAgg33 F rfl rfl rfl (H.arg (hB 1 _ rfl)) ?_;clear F a;intro a F
   refine sMv F rfl rfl rfl ?_;clear F a;intro a F
   refine sSlH Tryd.underlying33 (fun w => ⟨_, Tryd.sizeOf9 w⟩) F rfl rfl rfl rfl ?_ ?_
   focus (first | omega | decide | (simp; omega))
   clear F a; intro a F
   refine sMv F rfl rfl rfl ?_;clear F a;intro a F
   refine sCall Tryd.call86 F rfl rfl rfl ((by have := contains_any (some ⟨b, off, none⟩) LC (p.locs.take j) x w (RowsAt.own (hp.locs.take j) H) (by omega); rw [hjt] at this; exact this)) ?_
   rintro e w ⟨rfl, hb⟩
   replace H := H.grow hb; clear hb
   refine ⟨_, rfl, ?_⟩
   clear F a; intro a F
   refine sPk F rfl rfl rfl rfl ?_;clear F a;intro a F
   refine sNil ?_
   refine hK12 _ _ ?_; clear hK12
   refine cIf F rfl (fun h54 => ?_) (fun h54 => ?_)
   ·
    refine cSeq (fun K14 hK14 => ?_)
    refine cReg ?_
    refine sAs F rfl rfl rfl ?_;clear F a;intro a F
    refine sNil ?_
    refine hK14 _ _ ?_; clear hK14
    refine wp_ret ?_
    simp only [Exit.inBlock, Exit.then]
    refine bRet Tryd.results72 F rfl ?_
    first
      | exact ⟨retB (by rw [locsOk, hsz, Bool.true_and, ht, namesOk_at hx]; clear F hB; simp_all), H.below⟩
      | exact ⟨retB (by rw [locsOk, hsz, Bool.true_and, ht, List.drop_eq_nil_of_le (by omega)]; rfl), H.below⟩
      | exact ⟨retB (by clear F hB; rw [locsOk]; symm; rw [Bool.and_eq_false_iff]; left; simp_all <;> omega), H.below⟩
   refine wp_skip ?_
   refine hK10 _ _ ?_; clear hK10
   refine cReg ?_
   refine sBin F rfl rfl rfl rfl (bAddN (j := 1) ?_) ?_
   focus omega
   clear F a; intro a F
   refine sMv F rfl rfl rfl ?_;clear F a;intro a F
   refine sNil ?_
   exact ⟨p.locs.length - (j + 1), by omega, _, ⟨j + 1, rfl, rfl, by omega, by rw [ht, namesOk_at hx]; simp_all, H⟩, F.to (by repeat (first | exact trivial | refine Le.cons rfl ?_))⟩
  replace h38 := of_decide_eq_false h38
  refine wp_exit ?_
  refine hK6 _ _ ?_; clear hK6
  refine cSeq (fun K15 hK15 => ?_)
  refine cReg ?_
  refine sAs F rfl rfl rfl ?_;clear F a;intro a F
  refine sNil ?_
  refine hK15 _ _ ?_; clear hK15
  refine wp_ret ?_
  refine bRet Tryd.results72 F rfl ?_
  first
    | exact ⟨retB (by rw [locsOk, hsz, Bool.true_and, ht, namesOk_at hx]; clear F hB; simp_all), H.below⟩
    | exact ⟨retB (by rw [locsOk, hsz, Bool.true_and, ht, List.drop_eq_nil_of_le (by omega)]; rfl), H.below⟩
    | exact ⟨retB (by clear F hB; rw [locsOk]; symm; rw [Bool.and_eq_false_iff]; left; simp_all <;> omega), H.below⟩
end Go.Proofs.YtmfdpnjgljlkbaaDoor

namespace Go.Proofs.YtmfdpnjgljlkbaaDoor
open Go.RowKit

theorem demand2_any (V B : Nat) (cs : List Value) (p : Prg) (w0 : World) (hP : PvAt w0 V B cs p) :
    Calls Tryd.prog 69 #[.pointer (some ⟨V, 0, none⟩)] w0 fun e w' => e = .returned (.bool (oneWord p.name)) ∧ Below w0.heap.size w0 w' := by
  obtain ⟨hV, hB, LA, LC, IA, IC, TA, TC, h, ccs, hp⟩ := hP
  have hcs := hp.cs
  subst hcs
  have H := Own.start w0 none
  refine enterF Tryd.func69 rfl Tryd.ntmps69 rfl (fun a F => ?_)
  refine cSeq (fun K1 hK1 => ?_)
  refine cReg ?_
  refine sAs F rfl rfl rfl ?_;clear F a;intro a F
  refine sNil ?_
  refine hK1 _ _ ?_; clear hK1
  refine cSeq (fun K2 hK2 => ?_)
  refine cReg ?_
  refine sLd Tryd.isAgg86 F rfl rfl rfl (H.arg (hV 0 _ rfl)) ?_;clear F a;intro a F
  refine sNc F rfl rfl rfl ?_;clear F a;intro a F
  refine sFa (f := 0) (k := 0) Tryd.underlying37 rfl Tryd.sizeOf9 rfl rfl F rfl rfl rfl ?_;clear F a;intro a F
  refine sLd Tryd.isAgg9 F rfl rfl rfl (H.arg (hB 0 _ rfl)) ?_;clear F a;intro a F
  refine sCall Tryd.call70 F rfl rfl rfl (isWord_any p.name _ hp.name) ?_
  rintro e w ⟨rfl, hb⟩
  replace H := H.grow hb; clear hb
  refine ⟨_, rfl, ?_⟩
  clear F a; intro a F
  refine sAs F rfl rfl rfl ?_;clear F a;intro a F
  refine sNil ?_
  refine hK2 _ _ ?_; clear hK2
  refine wp_ret ?_
  refine bRet Tryd.results69 F rfl ?_
  exact ⟨rfl, H.below⟩
theorem demand3_any (V B : Nat) (cs : List Value) (p : Prg) (w0 : World) (hP : PvAt w0 V B cs p) :
    Calls Tryd.prog 71 #[.pointer (some ⟨V, 0, none⟩)] w0 fun e w' => e = .returned (.bool (locsOk p)) ∧ Below w0.heap.size w0 w' := by
  obtain ⟨hV, hB, hp⟩ := hP
  have H := Own.start w0 none
  refine enterF Tryd.func71 rfl Tryd.ntmps71 rfl (fun a F => ?_)
  refine cSeq (fun K1 hK1 => ?_)
  refine cReg ?_
  refine sAs F rfl rfl rfl ?_;clear F a;intro a F
  refine sNil ?_
  refine hK1 _ _ ?_; clear hK1
  refine cSeq (fun K2 hK2 => ?_)
  refine cReg ?_
  refine sLd Tryd.isAgg86 F rfl rfl rfl (H.arg (hV 0 _ rfl)) ?_;clear F a;intro a F
  refine sCall Tryd.call72 F rfl rfl rfl (locsRight_any B cs p _ (H.argR hB) (hp.own H)) ?_
  rintro e w ⟨rfl, hb⟩
  replace H := H.grow hb; clear hb
  refine ⟨_, rfl, ?_⟩
  clear F a; intro a F
  refine sAs F rfl rfl rfl ?_;clear F a;intro a F
  refine sNil ?_
  refine hK2 _ _ ?_; clear hK2
  refine wp_ret ?_
  refine bRet Tryd.results71 F rfl ?_
  exact ⟨rfl, H.below⟩
def demandFns (V E : Nat) : List (Int × Value) := [(70, .func (.func 69) #[] #[.pointer (some ⟨V, 0, none⟩)]), (71, .func (.func 71) #[] #[.pointer (some ⟨V, 0, none⟩)]),
  (72, .func (.func 73) #[] #[.pointer (some ⟨V, 0, none⟩), .pointer (some ⟨E, 0, none⟩)]), (73, .func (.func 75) #[] #[.pointer (some ⟨E, 0, none⟩), .pointer (some ⟨V, 0, none⟩)]),
  (75, .func (.func 77) #[] #[.pointer (some ⟨V, 0, none⟩)]), (74, .func (.func 78) #[] #[.pointer (some ⟨V, 0, none⟩)])]
def demandCells (V E : Nat) : List Value := (demandFns V E).flatMap fun q => [.int .i64 q.1, q.2]
theorem demands_any (B : Nat) (w0 : World) :
    Calls Tryd.prog 44 #[.pointer (some ⟨B, 0, none⟩)] w0 fun e w' => ∃ V E D, e = .returned (.slice (some ⟨D, 0, none⟩) 6 6) ∧
      Own w0 none w' [.blk D (demandCells V E) 88, .blk E [.func (.func 68) #[] #[.pointer (some ⟨V, 0, none⟩)]] 106, .blk V [.pointer (some ⟨B, 0, none⟩)] 86] := by
  have H := Own.start w0 none
  refine enterF Tryd.func44 rfl Tryd.ntmps44 rfl (fun a F => ?_)
  refine cSeq (fun K1 hK1 => ?_)
  refine cReg ?_
  refine sBx H F rfl rfl rfl ?_
  clear F a H; intro b1 a w F H
  refine sAs F rfl rfl rfl ?_;clear F a;intro a F
  refine sNil ?_
  refine hK1 _ _ ?_; clear hK1
  refine cSeq (fun K2 hK2 => ?_)
  refine cReg ?_
  refine sFn F rfl rfl rfl rfl ?_;clear F a;intro a F
  refine sAl H Tryd.zeroValue106 F rfl rfl ?_
  clear F a H; intro b3 a w F H
  refine sSt H 0 Tryd.sizeOf106 F rfl rfl rfl rfl rfl rfl ?_
  clear H; intro w H
  refine sNil ?_
  refine hK2 _ _ ?_; clear hK2
  refine cSeq (fun K3 hK3 => ?_)
  refine cReg ?_
  refine sFn F rfl rfl rfl rfl ?_;clear F a;intro a F
  refine sBd (places := [(0, 1), (1, 1)]) Tryd.zeroValue88 Tryd.underlying88 (by kernel_rfl) F rfl rfl rfl rfl ?_;clear F a;intro a F
  refine sFn F rfl rfl rfl rfl ?_;clear F a;intro a F
  refine sBd (places := [(0, 1), (1, 1)]) Tryd.zeroValue88 Tryd.underlying88 (by kernel_rfl) F rfl rfl rfl rfl ?_;clear F a;intro a F
  refine sFn F rfl rfl rfl rfl ?_;clear F a;intro a F
  refine sBd (places := [(0, 1), (1, 1)]) Tryd.zeroValue88 Tryd.underlying88 (by kernel_rfl) F rfl rfl rfl rfl ?_;clear F a;intro a F
  refine sFn F rfl rfl rfl rfl ?_;clear F a;intro a F
  refine sBd (places := [(0, 1), (1, 1)]) Tryd.zeroValue88 Tryd.underlying88 (by kernel_rfl) F rfl rfl rfl rfl ?_;clear F a;intro a F
  refine sFn F rfl rfl rfl rfl ?_;clear F a;intro a F
  refine sBd (places := [(0, 1), (1, 1)]) Tryd.zeroValue88 Tryd.underlying88 (by kernel_rfl) F rfl rfl rfl rfl ?_;clear F a;intro a F
  refine sFn F rfl rfl rfl rfl ?_;clear F a;intro a F
  refine sBd (places := [(0, 1), (1, 1)]) Tryd.zeroValue88 Tryd.underlying88 (by kernel_rfl) F rfl rfl rfl rfl ?_;clear F a;intro a F
  refine sBs H Tryd.underlying84 Tryd.sizeOf88 Tryd.zeroValue88 rfl F rfl rfl rfl rfl rfl ?_
  clear F a H; intro b17 a w F H
  refine sAs F rfl rfl rfl ?_;clear F a;intro a F
  refine sNil ?_
  refine hK3 _ _ ?_; clear hK3
  refine wp_ret ?_
  refine bRet Tryd.results44 F rfl ?_
  exact ⟨_, _, _, rfl, H⟩
/-- The k-th demand. -/
def demandK (p : Prg) : Nat → Bool
  | 0 => oneWord p.name
  | 1 => locsOk p
  | 2 => threadsShort p
  | 3 => threadsOk p
  | 4 => askOk p
  | 5 => condOk p.threads.length p.locs.length 20 p.cond
  | _ => true
def demandE : Nat → Int
  | 0 => 70 | 1 => 71 | 2 => 72 | 3 => 73 | 4 => 75 | 5 => 74 | _ => 0
/-- The first demand that fails, from number k of n on. -/
def rightFrom (p : Prg) : Nat → Nat → Int
  | 0, _ => 0
  | n + 1, k => if demandK p k then rightFrom p n (k + 1) else demandE k
def rightErr (p : Prg) : Int := rightFrom p 6 0
theorem holds_any (k V E B : Nat) (q : Int × Value) (cs : List Value) (p : Prg) (w0 : World) (hP : PvAt w0 V B cs p) (hE : w0.rangeAt E 0 [.func (.func 68) #[] #[.pointer (some ⟨V, 0, none⟩)]]) (hN : NeedsAt w0) (hk : (demandFns V E)[k]? = some q) :
    q.1 = demandE k ∧ CallsF Tryd.prog q.2 [] w0 (fun e w' => e = .returned (.bool (demandK p k)) ∧ Below w0.heap.size w0 w') := by
  match k, hk with
  | 0, hk => cases hk; exact ⟨rfl, _, [], [.pointer (some ⟨V, 0, none⟩)], rfl, Tryd.call69, demand2_any V B cs p w0 hP⟩
  | 1, hk => cases hk; exact ⟨rfl, _, [], [.pointer (some ⟨V, 0, none⟩)], rfl, Tryd.call71, demand3_any V B cs p w0 hP⟩
  | 2, hk => cases hk; exact ⟨rfl, _, [], [.pointer (some ⟨V, 0, none⟩), .pointer (some ⟨E, 0, none⟩)], rfl, Tryd.call73, demand4_any E V B cs p w0 hP hE⟩
  | 3, hk => cases hk; exact ⟨rfl, _, [], [.pointer (some ⟨E, 0, none⟩), .pointer (some ⟨V, 0, none⟩)], rfl, Tryd.call75, demand5_any E V B cs p w0 hP hN hE⟩
  | 4, hk => cases hk; exact ⟨rfl, _, [], [.pointer (some ⟨V, 0, none⟩)], rfl, Tryd.call77, demand6_any V B cs p w0 hP⟩
  | 5, hk => cases hk; exact ⟨rfl, _, [], [.pointer (some ⟨V, 0, none⟩)], rfl, Tryd.call78, demand7_any V B cs p w0 hP⟩
  | n + 6, hk => simp [demandFns] at hk
theorem demand_cells (V E k : Nat) (q : Int × Value) (hk : (demandFns V E)[k]? = some q) : ((demandCells V E).drop (k * 2)).take 2 = [.int .i64 q.1, q.2] := by
  match k, hk with
  | 0, hk => cases hk; rfl
  | 1, hk => cases hk; rfl
  | 2, hk => cases hk; rfl
  | 3, hk => cases hk; rfl
  | 4, hk => cases hk; rfl
  | 5, hk => cases hk; rfl
  | n + 6, hk => simp [demandFns] at hk
theorem demand_one (V E k : Nat) (q : Int × Value) (hk : (demandFns V E)[k]? = some q) : q.2.oneCell' = true := by
  match k, hk with
  | 0, hk => cases hk; rfl
  | 1, hk => cases hk; rfl
  | 2, hk => cases hk; rfl
  | 3, hk => cases hk; rfl
  | 4, hk => cases hk; rfl
  | 5, hk => cases hk; rfl
  | n + 6, hk => simp [demandFns] at hk
theorem rightFrom_at {p : Prg} {k : Nat} (hk : k < 6) : rightFrom p (6 - k) k = if demandK p k then rightFrom p (6 - (k + 1)) (k + 1) else demandE k := by
  have : 6 - k = (6 - (k + 1)) + 1 := by omega
  rw [this]; rfl
set_option maxHeartbeats 1000000 in
theorem right_any' (cs : List Value) (p : Prg) (w0 : World) (hP : ProgAt w0 cs p) (hN : NeedsAt w0) :
    Calls Tryd.prog 17 #[.agg cs.toArray] w0 fun e w' => e = .returned (.int .i64 (rightErr p)) ∧ Below w0.heap.size w0 w' := by
  have H := Own.start w0 none
  refine enterF Tryd.func17 rfl Tryd.ntmps17 rfl (fun a F => ?_)
  refine cSeq (fun K1 hK1 => ?_)
  refine cReg ?_
  refine sBx H F rfl rfl rfl ?_
  clear F a H; intro b1 a w F H
  refine sAs F rfl rfl rfl ?_;clear F a;intro a F
  refine sNil ?_
  refine hK1 _ _ ?_; clear hK1
  refine cSeq (fun K2 hK2 => ?_)
  refine cSeq (fun K3 hK3 => ?_)
  refine cReg ?_
  refine sCall Tryd.call44 F rfl rfl rfl (demands_any _ _) ?_
  rintro e w ⟨V, E, D, rfl, H2⟩
  replace H := H.join H2; clear H2
  refine ⟨_, rfl, ?_⟩
  clear F a; intro a F
  refine sLen Tryd.underlying84 F rfl rfl rfl ?_;clear F a;intro a F
  refine sMv F rfl rfl rfl ?_;clear F a;intro a F
  refine sNil ?_
  refine hK3 _ _ ?_; clear hK3
  refine wp_block ?_
  refine cLoopR [5, 6] (fun m ups w => ∃ k : Nat, m = 6 - k ∧ ups = [(7, .int .i64 (k : Int))] ∧ k ≤ 6 ∧ rightErr p = rightFrom p (6 - k) k ∧ Own w0 none w [.blk D (demandCells V E) 88, .blk E [.func (.func 68) #[] #[.pointer (some ⟨V, 0, none⟩)]] 106, .blk V [.pointer (some ⟨b1, 0, none⟩)] 86, .blk b1 cs 37]) F (6) [(7, .int .i64 ((0 : Nat) : Int))] (by repeat (first | exact SubR.nil | (apply SubR.cons; · rfl))) ?_ ?_ ?_
  · exact ⟨0, rfl, rfl, by omega, rfl, H⟩
  · repeat (first | exact trivial | refine Le.cons rfl ?_)
  clear F
  clear H
  intro m ups a w hI F
  obtain ⟨k, rfl, rfl, hk, ht, H⟩ := hI
  refine cSeq (fun K4 hK4 => ?_)
  refine cReg ?_
  refine sBin F rfl rfl rfl rfl bLss ?_;clear F a;intro a F
  refine sNil ?_
  refine hK4 _ _ ?_; clear hK4
  refine cSeq (fun K5 hK5 => ?_)
  refine cIf F rfl (fun h8 => ?_) (fun h8 => ?_)
  ·
   replace h8 := of_decide_eq_true h8
   have hk6 : k < 6 := by omega
   obtain ⟨q, hq⟩ : ∃ q, (demandFns V E)[k]? = some q := ⟨_, List.getElem?_eq_getElem (by simp only [demandFns, List.length_cons, List.length_nil]; omega)⟩
   have hqc := demand_one V E k q hq
   refine wp_skip ?_
   refine hK5 _ _ ?_; clear hK5
   refine cSeq (fun K6 hK6 => ?_)
   refine wp_block ?_
   refine cSeq (fun K7 hK7 => ?_)
   refine cReg ?_
   refine sIx Tryd.underlying84 Tryd.sizeOf88 F rfl rfl rfl rfl ?_ ?_
   focus (first | omega | decide | (simp; omega))
   clear F a; intro a F
   refine sLr Tryd.underlying88 rfl ?si F rfl rfl rfl (by have := H.range 0 rfl (0 + k * 2) 2; rw [Nat.zero_add] at this ⊢; rw [demand_cells V E k q hq] at this; exact this) ?_
   case si => exact info_size Tryd.sizeOf88
   clear F a; intro a F
   refine sAl H Tryd.zeroValue88 F rfl rfl ?_
   clear F a H; intro b4 a w F H
   refine sSr H 0 ?si F rfl rfl rfl ?s1 rfl rfl ?_
   case si => exact info_size Tryd.sizeOf88
   case s1 => first | rfl | (repeat (first | exact one_nil | (apply one_cons; · first | rfl | assumption | exact one_bif rfl rfl)))
   clear H; intro w H
   refine sNil ?_
   refine hK7 _ _ ?_; clear hK7
   refine cSeq (fun K8 hK8 => ?_)
   refine cReg ?_
   refine sFa (f := 1) (k := 1) Tryd.underlying88 rfl Tryd.sizeOf27 rfl rfl F rfl rfl rfl ?_;clear F a;intro a F
   refine sLd Tryd.isAgg27 F rfl rfl rfl (H.cell 0 rfl rfl) ?_;clear F a;intro a F
   obtain ⟨hq1, hq2⟩ := holds_any k V E b1 q cs p w ⟨H.whole 3 rfl, H.whole 4 rfl, hP.own H⟩ (H.whole 2 rfl) (hN.own H) hq
   refine sCallV F rfl rfl rfl rfl hq2 ?_
   rintro e w ⟨rfl, hb⟩
   replace H := H.grow hb; clear hb hq2
   refine ⟨_, rfl, ?_⟩
   clear F a; intro a F
   refine sNot F rfl rfl rfl ?_;clear F a;intro a F
   refine sNil ?_
   refine hK8 _ _ ?_; clear hK8
   refine cIf F rfl (fun h14 => ?_) (fun h14 => ?_)
   ·
    replace h14 := notT h14
    refine cSeq (fun K9 hK9 => ?_)
    refine cReg ?_
    refine sFa (f := 0) (k := 0) Tryd.underlying88 rfl Tryd.sizeOf39 rfl rfl F rfl rfl rfl ?_;clear F a;intro a F
    refine sLd Tryd.isAgg39 F rfl rfl rfl (H.cell 0 rfl rfl) ?_;clear F a;intro a F
    refine sAs F rfl rfl rfl ?_;clear F a;intro a F
    refine sNil ?_
    refine hK9 _ _ ?_; clear hK9
    refine wp_ret ?_
    simp only [Exit.inBlock, Exit.then]
    refine bRet Tryd.results17 F rfl ?_
    first
      | exact ⟨by rw [ht, rightFrom_at hk6, if_neg (by simp [h14]), ← hq1], H.below⟩
      | exact ⟨by rw [ht, (by omega : 6 - k = 0)]; rfl, H.below⟩
   replace h14 := notF h14
   refine wp_skip ?_
   refine hK6 _ _ ?_; clear hK6
   refine cReg ?_
   refine sBin F rfl rfl rfl rfl (bAddN (j := 1) ?_) ?_
   focus omega
   clear F a; intro a F
   refine sMv F rfl rfl rfl ?_;clear F a;intro a F
   refine sNil ?_
   exact ⟨6 - (k + 1), by omega, _, ⟨k + 1, rfl, rfl, by omega, by rw [ht, rightFrom_at hk6, if_pos h14], H.tail⟩, F.to (by repeat (first | exact trivial | refine Le.cons rfl ?_))⟩
  replace h8 := of_decide_eq_false h8
  refine wp_exit ?_
  refine hK2 _ _ ?_; clear hK2
  refine cSeq (fun K10 hK10 => ?_)
  refine cReg ?_
  refine sAs F rfl rfl rfl ?_;clear F a;intro a F
  refine sNil ?_
  refine hK10 _ _ ?_; clear hK10
  refine wp_ret ?_
  refine bRet Tryd.results17 F rfl ?_
  first
    | exact ⟨by rw [ht, rightFrom_at hk6, if_neg (by simp [h14]), ← hq1], H.below⟩
    | exact ⟨by rw [ht, (by omega : 6 - k = 0)]; rfl, H.below⟩
end Go.Proofs.YtmfdpnjgljlkbaaDoor

namespace Go.Proofs.YtmfdpnjgljlkbaaDoor

theorem demandE_ne : ∀ k, k < 6 → demandE k ≠ 0
  | 0, _ => by decide
  | 1, _ => by decide
  | 2, _ => by decide
  | 3, _ => by decide
  | 4, _ => by decide
  | 5, _ => by decide
  | k + 6, h => by omega
theorem rightFrom_zero {p : Prg} : ∀ (n k : Nat), n + k ≤ 6 → rightFrom p n k = 0 → ∀ i, k ≤ i → i < k + n → demandK p i = true
  | 0, _, _, _, i, h1, h2 => by omega
  | n + 1, k, hn, h, i, h1, h2 => by
    unfold rightFrom at h
    split at h
    · rename_i hd
      rcases Nat.lt_or_ge k i with h3 | h3
      · exact rightFrom_zero n (k + 1) (by omega) h i (by omega) (by omega)
      · obtain rfl : k = i := by omega
        exact hd
    · exact absurd h (demandE_ne k (by omega))
theorem right_demand {p : Prg} (h : rightErr p = 0) (i : Nat) (hi : i < 6) : demandK p i = true := rightFrom_zero 6 0 (by omega) h i (by omega) (by omega)
structure Valid (p : Prg) : Prop where
  locs1 : 1 ≤ p.locs.length
  locs6 : p.locs.length ≤ 6
  init : p.init.length = p.locs.length
  thr1 : 1 ≤ p.threads.length
  thr4 : p.threads.length ≤ 4
  long : ∀ (t : Nat) (l : List Ins), p.threads[t]? = some l → l.length ≤ 12
  ins : ∀ (t : Nat) (l : List Ins), p.threads[t]? = some l → insesOk p.locs.length l.length 0 l = true
  ask : p.ask = 1 ∨ p.ask = 2 ∨ p.ask = 3
theorem valid {p : Prg} (h : rightErr p = 0) : Valid p := by
  have h1 : locsOk p = true := right_demand h 1 (by omega)
  have h2 : threadsShort p = true := right_demand h 2 (by omega)
  have h3 : threadsOk p = true := right_demand h 3 (by omega)
  have h4 : askOk p = true := right_demand h 4 (by omega)
  simp only [locsOk, threadsShort, threadsOk, askOk, Bool.and_eq_true, decide_eq_true_eq, beq_iff_eq, Bool.or_eq_true, List.all_eq_true] at h1 h2 h3 h4
  refine ⟨h1.1.1.1, h1.1.1.2, h1.1.2, h2.1.1, h2.1.2, fun t l hl => h2.2 l (List.mem_of_getElem? hl), fun t l hl => ?_, by rcases h4 with (h | h) | h <;> simp [h]⟩
  have := h3 l (List.mem_of_getElem? hl)
  simp only [threadOk, Bool.and_eq_true] at this
  exact this.2
theorem inses_at {locs : Int} {n : Nat} : ∀ {l : List Ins} {i k : Nat} {x : Ins}, insesOk locs n i l = true → l[k]? = some x → insOk x locs ((n : Int) - 1 - ((i + k : Nat) : Int)) = true
  | [], _, _, _, _, hk => by simp at hk
  | y :: r, i, 0, x, h, hk => by
    simp only [insesOk, Bool.and_eq_true] at h
    simp only [List.getElem?_cons_zero, Option.some.injEq] at hk
    subst hk
    exact h.1
  | y :: r, i, k + 1, x, h, hk => by
    simp only [insesOk, Bool.and_eq_true] at h
    have := inses_at (k := k) h.2 (by simpa using hk)
    rwa [show i + 1 + k = i + (k + 1) by omega] at this
theorem ins_cond {x : Ins} {locs after : Int} (h : insOk x locs after = true) (k : Nat) (hk : k < 8) : condK x locs after k = true := by
  simp only [insOk, List.all_eq_true, List.mem_range] at h
  exact h k hk
theorem op_cases (x : UInt8) (h : (decide (1 ≤ x) && decide (x ≤ 8)) = true) : x = 1 ∨ x = 2 ∨ x = 3 ∨ x = 4 ∨ x = 5 ∨ x = 6 ∨ x = 7 ∨ x = 8 := by
  simp only [Bool.and_eq_true, decide_eq_true_eq, UInt8.le_iff_toNat_le] at h
  have h1 : x = UInt8.ofNat x.toNat := by simp
  have h2 : (1 : UInt8).toNat = 1 := rfl
  have h3 : (8 : UInt8).toNat = 8 := rfl
  rw [h2, h3] at h
  rcases (by omega : x.toNat = 1 ∨ x.toNat = 2 ∨ x.toNat = 3 ∨ x.toNat = 4 ∨ x.toNat = 5 ∨ x.toNat = 6 ∨ x.toNat = 7 ∨ x.toNat = 8) with h | h | h | h | h | h | h | h <;> rw [h] at h1 <;> simp [h1]
end Go.Proofs.YtmfdpnjgljlkbaaDoor
