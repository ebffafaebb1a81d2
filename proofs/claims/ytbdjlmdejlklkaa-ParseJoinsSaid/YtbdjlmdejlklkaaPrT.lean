/-
  Plain Lean: parsing looks at the kinds and texts of tokens alone; a fault stands where a token begins, or at the end. Nothing of the program. Conditions: none.
-/
import Derived.Test.YtbdjlmdejlklkaaPrG
set_option linter.unusedSimpArgs false
set_option linter.unusedVariables false
namespace Go.Proofs.Ytbdjlmdejlklkaa

/-- The same kinds and texts. -/
structure SameX (c d : PX) : Prop where
  fixed : d.fixed = c.fixed
  len : d.ts.length = c.ts.length
  kind : d.kind = c.kind
  text : d.text = c.text
theorem SameX.word {c d : PX} (h : SameX c d) : d.word = c.word := by funext i; unfold PX.word; rw [h.kind, h.text]
theorem SameX.is {c d : PX} (h : SameX c d) : d.is = c.is := by funext i s; unfold PX.is; rw [h.kind, h.text]
theorem SameX.kw {c d : PX} (h : SameX c d) : d.kw = c.kw := by funext i s; unfold PX.kw; rw [h.word]
theorem sameX_of {a b : List Tok} {m n : Nat} {fx : Bool} (h : a.map (fun t => (t.kind, t.text)) = b.map (fun t => (t.kind, t.text))) : SameX ⟨a, m, fx⟩ ⟨b, n, fx⟩ := by
  have hi : ∀ i, (b[i]?).map (fun t : Tok => (t.kind, t.text)) = (a[i]?).map (fun t : Tok => (t.kind, t.text)) := fun i => by rw [← List.getElem?_map, ← List.getElem?_map, h]
  refine ⟨rfl, ?_, ?_, ?_⟩
  · have := congrArg List.length h
    simpa using this.symm
  · funext i
    have := hi i
    show (match b[i]? with | some t => t.kind | none => 0) = (match a[i]? with | some t => t.kind | none => 0)
    cases ha : a[i]? with
    | none => rw [ha] at this; rw [Option.map_eq_none_iff.1 this]
    | some t =>
      rw [ha] at this
      obtain ⟨u, hu, he⟩ := Option.map_eq_some_iff.1 this
      rw [hu]; exact (Prod.mk.inj he).1
  · funext i
    have := hi i
    show (match b[i]? with | some t => t.text | none => ByteArray.empty) = (match a[i]? with | some t => t.text | none => ByteArray.empty)
    cases ha : a[i]? with
    | none => rw [ha] at this; rw [Option.map_eq_none_iff.1 this]
    | some t =>
      rw [ha] at this
      obtain ⟨u, hu, he⟩ := Option.map_eq_some_iff.1 this
      rw [hu]; exact (Prod.mk.inj he).2
/-- Answers that are alike: equal, or faults at the same token. -/
def Sim {α : Type} (c d : PX) (Rel : α → α → Prop) : Rs α → Rs α → Prop
  | .ok v s, .ok u t => Rel v u ∧ s = t
  | .no p e, .no q f => (e = f ∧ e ≠ 0) ∧ ∃ i, p = c.place i ∧ q = d.place i
  | _, _ => False
section
variable {c d : PX} {α β : Type} {Rel : α → α → Prop} {Rel2 : β → β → Prop}
theorem Sim.ok {v u : α} {s : PS} (h : Rel v u) : Sim c d Rel (.ok v s) (.ok u s) := ⟨h, rfl⟩
theorem Sim.eq {v : α} {s : PS} : Sim c d Eq (.ok v s) (.ok v s) := ⟨rfl, rfl⟩
theorem Sim.fail {s : PS} {e : Nat} (he : e ≠ 0 := by decide) : Sim c d Rel (failP c s e) (failP d s e) := ⟨⟨rfl, he⟩, s.pos, rfl, rfl⟩
theorem Sim.bind {r r' : Rs α} {f f' : α → PS → Rs β} (h : Sim c d Rel r r') (hf : ∀ v u s, Rel v u → Sim c d Rel2 (f v s) (f' u s)) : Sim c d Rel2 (r.bind f) (r'.bind f') := by
  cases r with
  | ok v s =>
    cases r' with
    | ok u t => obtain ⟨h1, rfl⟩ := h; exact hf v u s h1
    | no q f => exact h.elim
  | no p e =>
    cases r' with
    | ok u t => exact h.elim
    | no q f => exact h
theorem Sim.bindE {r r' : Rs α} {f f' : α → PS → Rs β} (h : Sim c d Eq r r') (hf : ∀ v s, Sim c d Rel2 (f v s) (f' v s)) : Sim c d Rel2 (r.bind f) (r'.bind f') := h.bind fun v u s hvu => by subst hvu; exact hf v s
theorem Sim.ite {p : Prop} [Decidable p] {a b a' b' : Rs α} (h1 : p → Sim c d Rel a a') (h2 : ¬ p → Sim c d Rel b b') : Sim c d Rel (if p then a else b) (if p then a' else b') := by
  split
  · exact h1 ‹_›
  · exact h2 ‹_›
end
section
variable {c d : PX} (h : SameX c d)
include h
theorem sign_sim (str : List UInt8) (s : PS) : Sim c d Eq (signP c str s) (signP d str s) := by unfold signP; rw [h.is]; exact .ite (fun _ => .eq) (fun _ => .fail)
theorem end_sim (s : PS) : Sim c d Eq (endP c s) (endP d s) := by unfold endP; rw [h.kind]; exact .ite (fun _ => .eq) (fun _ => .fail)
theorem num_sim (s : PS) : Sim c d Eq (numQ c s) (numQ d s) := by unfold numQ; rw [h.kind, h.text]; exact .ite (fun _ => .eq) (fun _ => .fail)
theorem reg_sim (s : PS) : Sim c d Eq (regQ c s) (regQ d s) := by unfold regQ; rw [h.word]; exact .ite (fun _ => .eq) (fun _ => .fail)
theorem arg_sim (s : PS) : Sim c d Eq (argP' c s) (argP' d s) := by unfold argP'; rw [h.kind]; exact .ite (fun _ => (num_sim h s).bindE fun _ _ => .eq) (fun _ => (reg_sim h s).bindE fun _ _ => .eq)
theorem loc_sim (s : PS) : Sim c d Eq (locP c s) (locP d s) := by
  unfold locP
  rw [h.word, h.fixed]
  refine .ite (fun _ => ?_) (fun _ => .fail)
  cases idxOf (c.word s.pos) s.names 0 with
  | some k => exact .eq
  | none => exact .ite (fun _ => .fail) (fun _ => .ite (fun _ => .fail) (fun _ => .eq))
theorem fence_sim (s : PS) : Sim c d Eq (fenceP c s) (fenceP d s) := by unfold fenceP; rw [h.kw]; exact .ite (fun _ => .eq) (fun _ => .ite (fun _ => .eq) (fun _ => .eq))
theorem test_sim (s : PS) : testP d s = testP c s := by unfold testP; rw [h.is]
theorem fn_sim (s : PS) : fnP d s = fnP c s := by unfold fnP; rw [h.is]
theorem skip_sim (s : PS) : Sim c d Eq (skipP c s) (skipP d s) := by
  unfold skipP
  refine (num_sim h _).bindE fun n s1 => ?_
  rw [h.kw]
  refine .ite (fun _ => (arg_sim h _).bindE fun x s2 => ?_) (fun _ => .fail)
  rw [test_sim h]
  cases testP c s2 with
  | none => exact .fail
  | some f => exact (arg_sim h _).bindE fun y s3 => .eq
theorem store_sim (s : PS) : Sim c d Eq (storeP c s) (storeP d s) := by
  unfold storeP
  rw [h.kw]
  exact (loc_sim h _).bindE fun k s1 => (sign_sim h _ _).bindE fun _ s2 => (arg_sim h _).bindE fun x s3 => .ite (fun _ => .eq) (fun _ => .eq)
theorem move_sim (e : UInt8) (s : PS) : Sim c d Eq (moveP' c e s) (moveP' d e s) := by
  unfold moveP'
  refine (arg_sim h _).bindE fun x s1 => ?_
  rw [fn_sim h]
  cases fnP c s1 with
  | none => exact .fail
  | some f => exact (arg_sim h _).bindE fun y s2 => .eq
theorem assign_sim (s : PS) : Sim c d Eq (assignP c s) (assignP d s) := by
  unfold assignP
  rw [h.kw, h.word]
  refine (reg_sim h _).bindE fun e s1 => (sign_sim h _ _).bindE fun _ s2 => ?_
  refine .ite (fun _ => (loc_sim h _).bindE fun k s3 => (arg_sim h _).bindE fun x s4 => .eq) (fun _ => ?_)
  refine .ite (fun _ => (loc_sim h _).bindE fun k s3 => (arg_sim h _).bindE fun x s4 => .eq) (fun _ => ?_)
  refine .ite (fun _ => (loc_sim h _).bindE fun k s3 => (arg_sim h _).bindE fun x s4 => (arg_sim h _).bindE fun y s5 => .eq) (fun _ => ?_)
  exact .ite (fun _ => (loc_sim h _).bindE fun k s3 => .ite (fun _ => .eq) (fun _ => .eq)) (fun _ => move_sim h e s2)
theorem ins_sim (k : Nat) (s : PS) : Sim c d Eq (insP c k s) (insP d k s) := by
  unfold insP
  exact .ite (fun _ => fence_sim h s) (fun _ => .ite (fun _ => skip_sim h s) (fun _ => .ite (fun _ => assign_sim h s) (fun _ => store_sim h s)))
theorem sevL_sim {p q : PS → Rs Cnd} (hp : ∀ s, Sim c d Eq (p s) (q s)) (str : List UInt8) : ∀ (f : Nat) (ks : List Cnd) (s : PS), Sim c d Eq (sevL c p str f ks s) (sevL d q str f ks s)
  | 0, ks, s => .fail
  | f + 1, ks, s => by
    unfold sevL
    rw [h.is]
    exact .ite (fun _ => (hp _).bindE fun k t => sevL_sim hp str f _ t) (fun _ => .eq)
theorem sev_sim {p q : PS → Rs Cnd} (hp : ∀ s, Sim c d Eq (p s) (q s)) (kind : UInt8) (str : List UInt8) (s : PS) : Sim c d Eq (sevP c kind str p s) (sevP d kind str q s) := by
  unfold sevP
  rw [h.is, h.len]
  exact (hp s).bindE fun k t => .ite (fun _ => (sevL_sim h hp str _ _ t).bindE fun ks u => .eq) (fun _ => .eq)
theorem fact_sim : ∀ (n : Nat) (s : PS), Sim c d Eq (factP c n s) (factP d n s)
  | 0, s => .fail
  | n + 1, s => by
    unfold factP
    rw [h.is, h.kw, h.kind]
    refine .ite (fun _ => (fact_sim n _).bindE fun k t => .eq) (fun _ => ?_)
    refine .ite (fun _ => (sev_sim h (sev_sim h (fact_sim n) 3 [38]) 4 [124] _).bindE fun k t => (sign_sim h _ _).bindE fun _ u => .eq) (fun _ => ?_)
    refine .ite (fun _ => .eq) (fun _ => ?_)
    refine .ite (fun _ => (num_sim h _).bindE fun t s1 => (sign_sim h _ _).bindE fun _ s2 => (reg_sim h _).bindE fun n s3 => (sign_sim h _ _).bindE fun _ s4 => (num_sim h _).bindE fun v s5 => .eq) (fun _ => ?_)
    exact (loc_sim h _).bindE fun k s1 => (sign_sim h _ _).bindE fun _ s2 => (num_sim h _).bindE fun v s3 => .eq
theorem disj_sim (n : Nat) (s : PS) : Sim c d Eq (disjP c n s) (disjP d n s) := by
  unfold disjP conjP
  exact sev_sim h (sev_sim h (fact_sim h n) 3 [38]) 4 [124] s
omit h in
/-- Programs under way that are alike, but for the query's place. -/
structure SimQ (c d : PX) (q r : QL) : Prop where
  name : r.name = q.name
  init : r.init = q.init
  threads : r.threads = q.threads
  ask : r.ask = q.ask
  cond : r.cond = q.cond
  wh : r.wh = q.wh
  query : q.wh = 4 → ∃ i, q.query = c.place i ∧ r.query = d.place i
theorem testL_sim {q r : QL} (hq : SimQ c d q r) (s : PS) : Sim c d (SimQ c d) (testL c q s) (testL d r s) := by
  unfold testL
  rw [h.word, hq.wh]
  exact .ite (fun _ => .ite (fun _ => .fail) (fun _ => .ok ⟨rfl, hq.init, hq.threads, hq.ask, hq.cond, rfl, fun e => by cases e⟩)) (fun _ => .fail)
theorem initL_sim : ∀ (f : Nat) {q r : QL} (s : PS), SimQ c d q r → Sim c d (SimQ c d) (initL c f q s) (initL d f r s)
  | 0, q, r, s, hq => .fail
  | f + 1, q, r, s, hq => by
    unfold initL
    rw [h.word, h.kind]
    cases idxOf (c.word s.pos) s.names 0 with
    | some _ => exact .fail
    | none =>
      refine (loc_sim h _).bindE fun _ s1 => (sign_sim h _ _).bindE fun _ s2 => (num_sim h _).bindE fun v s3 => ?_
      refine .ite (fun _ => .ok ⟨hq.name, by show r.init ++ [v] = q.init ++ [v]; rw [hq.init], hq.threads, hq.ask, hq.cond, rfl, fun e => by cases e⟩) (fun _ => initL_sim f s3 ?_)
      exact ⟨hq.name, by show r.init ++ [v] = q.init ++ [v]; rw [hq.init], hq.threads, hq.ask, hq.cond, hq.wh, hq.query⟩
omit h in
theorem threadL_sim {q r : QL} (hq : SimQ c d q r) (s : PS) : Sim c d (SimQ c d) (threadL c q s) (threadL d r s) := by
  unfold threadL
  rw [hq.wh, hq.threads]
  exact .ite (fun _ => .ite (fun _ => .fail) (fun _ => .ok ⟨hq.name, hq.init, by rfl, hq.ask, hq.cond, rfl, fun e => by cases e⟩)) (fun _ => .fail)
theorem may_sim (i : Nat) : mayP d i = mayP c i := by unfold mayP; rw [h.kw, h.word]
theorem start_sim (i : Nat) : startP d i = startP c i := by unfold startP; rw [h.kw, h.word]
theorem addL_sim {q r : QL} (hq : SimQ c d q r) (s : PS) : Sim c d (SimQ c d) (addL c q s) (addL d r s) := by
  unfold addL
  rw [hq.wh, hq.threads, may_sim h, start_sim h]
  refine .ite (fun h3 => .ite (fun _ => .ite (fun _ => .fail) (fun _ => (ins_sim h _ _).bindE fun x t => .ok ?_)) (fun _ => .fail)) (fun _ => .fail)
  exact ⟨hq.name, hq.init, rfl, hq.ask, hq.cond, rfl, hq.query⟩
theorem askL_sim (k : UInt8) {q r : QL} (hq : SimQ c d q r) (s : PS) : Sim c d (SimQ c d) (askL c k q s) (askL d k r s) := by
  unfold askL
  rw [hq.wh, h.len]
  refine .ite (fun h3 => (disj_sim h _ _).bindE fun x t => .ok ?_) (fun _ => .fail)
  exact ⟨hq.name, hq.init, hq.threads, rfl, rfl, rfl, fun _ => ⟨s.pos, rfl, rfl⟩⟩
theorem lineL_sim {q r : QL} (hq : SimQ c d q r) (s : PS) : Sim c d (SimQ c d) (lineL c q s) (lineL d r s) := by
  unfold lineL
  rw [h.kw, h.len, hq.wh]
  exact .ite (fun _ => testL_sim h hq s) (fun _ => .ite (fun _ => .ite (fun _ => initL_sim h _ _ hq) (fun _ => .fail)) (fun _ => .ite (fun _ => threadL_sim hq s) (fun _ => .ite (fun _ => askL_sim h 1 hq s) (fun _ => .ite (fun _ => askL_sim h 2 hq s) (fun _ => .ite (fun _ => askL_sim h 3 hq s) (fun _ => addL_sim h hq s))))))
theorem linesL_sim : ∀ (f : Nat) {q r : QL} (s : PS), SimQ c d q r → Sim c d (fun q r => SimQ c d q r ∧ q.wh = 4) (linesL c f q s) (linesL d f r s)
  | 0, q, r, s, hq => .fail
  | f + 1, q, r, s, hq => by
    unfold linesL
    rw [hq.wh]
    exact .ite (fun h4 => .ok ⟨hq, h4⟩) (fun _ => (lineL_sim h hq s).bind fun q' r' t hq' => (end_sim h t).bindE fun _ u => linesL_sim f u hq')
theorem prog_sim : Sim c d Eq (progP c) (progP d) := by
  unfold progP
  rw [h.len]
  refine (linesL_sim h _ _ ⟨rfl, rfl, rfl, rfl, rfl, rfl, fun e => by cases e⟩).bind fun q r s hq => .ite (fun _ => .fail) (fun _ => ?_)
  obtain ⟨hq, h4⟩ := hq
  rw [hq.cond, hq.name, hq.init, hq.threads, hq.ask]
  refine .ite (fun _ => ?_) (fun _ => .eq)
  exact ⟨⟨rfl, by decide⟩, hq.query h4⟩
theorem cond_sim (s : PS) : Sim c d Eq (condP c s) (condP d s) := by
  unfold condP
  rw [h.len]
  refine (disj_sim h _ _).bindE fun x t => (end_sim h t).bindE fun _ u => .ite (fun _ => .fail) (fun _ => .ite (fun _ => ?_) (fun _ => .eq))
  exact ⟨⟨rfl, by decide⟩, s.pos, rfl, rfl⟩
end
theorem sameX_refl (c : PX) : SameX c c := ⟨rfl, rfl, rfl, rfl⟩
theorem prog_ne {c : PX} {p e : Nat} (h : progP c = .no p e) : e ≠ 0 := by
  have := prog_sim (sameX_refl c)
  rw [h] at this
  exact this.1.2
theorem cond_ne {c : PX} {s : PS} {p e : Nat} (h : condP c s = .no p e) : e ≠ 0 := by
  have := cond_sim (sameX_refl c) s
  rw [h] at this
  exact this.1.2
end Go.Proofs.Ytbdjlmdejlklkaa
