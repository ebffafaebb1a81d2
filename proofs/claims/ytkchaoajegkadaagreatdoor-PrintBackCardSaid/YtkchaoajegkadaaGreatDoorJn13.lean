/-
  Plain Lean: parsing looks at the kinds and texts of tokens alone; a fault stands where a token begins, or at the end. Nothing of the program. Conditions: none.
-/
import Derived.Test.YtkchaoajegkadaaGreatDoorJn12
set_option linter.unusedSimpArgs false
set_option linter.unusedVariables false
namespace Go.Proofs.YtkchaoajegkadaaGreatDoor
-- PrT
structure SameX (c d : PX) : Prop where
  fixed : d.fixed = c.fixed
  len : d.ts.length = c.ts.length
  kind : d.kind = c.kind
  text : d.text = c.text
theorem SameX.word {c d : PX} (h : SameX c d) : d.word = c.word := by funext i; unfold PX.word; rw [h.kind, h.text]
theorem SameX.is {c d : PX} (h : SameX c d) : d.is = c.is := by funext i s; unfold PX.is; rw [h.kind, h.text]
theorem SameX.kw {c d : PX} (h : SameX c d) : d.kw = c.kw := by funext i s; unfold PX.kw; rw [h.word]
def Sim {α : Type} (c d : PX) (Rel : α → α → Prop) : Rs α → Rs α → Prop
  | .ok v s, .ok u t => Rel v u ∧ s = t
  | .no p e, .no q f => (e = f ∧ e ≠ 0) ∧ ∃ i, p = c.place i ∧ q = d.place i
  | _, _ => False
section
variable {c d : PX} {α β : Type} {Rel : α → α → Prop} {Rel2 : β → β → Prop}
theorem Sim.ok {v u : α} {s : PS} (h : Rel v u) : Sim c d Rel (.ok v s) (.ok u s) := ⟨h, rfl⟩
theorem Sim.eq {v : α} {s : PS} : Sim c d Eq (.ok v s) (.ok v s) := ⟨rfl, rfl⟩
theorem Sim.fail {s : PS} {e : Nat} (he : e ≠ 0 := by decide) : Sim c d Rel (failP c s e) (failP d s e) := ⟨⟨rfl, he⟩, s.pos, rfl, rfl⟩
theorem Sim.bind {r r' : Rs α} {f f' : α → PS → Rs β} (h : Sim c d Rel r r') (hf : ∀ v u s, Rel v u → Sim c d Rel2 (f v s) (f' u s)) : Sim c d Rel2 (r.bind f) (r'.bind f') := by
  cases r with
  | ok v s =>
    cases r' with
    | ok u t => obtain ⟨h1, rfl⟩ := h; exact hf v u s h1
    | no q f => exact h.elim
  | no p e =>
    cases r' with
    | ok u t => exact h.elim
    | no q f => exact h
theorem Sim.bindE {r r' : Rs α} {f f' : α → PS → Rs β} (h : Sim c d Eq r r') (hf : ∀ v s, Sim c d Rel2 (f v s) (f' v s)) : Sim c d Rel2 (r.bind f) (r'.bind f') := h.bind fun v u s hvu => by subst hvu; exact hf v s
theorem Sim.ite {p : Prop} [Decidable p] {a b a' b' : Rs α} (h1 : p → Sim c d Rel a a') (h2 : ¬ p → Sim c d Rel b b') : Sim c d Rel (if p then a else b) (if p then a' else b') := by
  split
  · exact h1 ‹_›
  · exact h2 ‹_›
end
section
variable {c d : PX} (h : SameX c d)
include h
theorem sign_sim (str : List UInt8) (s : PS) : Sim c d Eq (signP c str s) (signP d str s) := by unfold signP; rw [h.is]; exact .ite (fun _ => .eq) (fun _ => .fail)
theorem end_sim (s : PS) : Sim c d Eq (endP c s) (endP d s) := by unfold endP; rw [h.kind]; exact .ite (fun _ => .eq) (fun _ => .fail)
theorem num_sim (s : PS) : Sim c d Eq (numQ c s) (numQ d s) := by unfold numQ; rw [h.kind, h.text]; exact .ite (fun _ => .eq) (fun _ => .fail)
theorem reg_sim (s : PS) : Sim c d Eq (regQ c s) (regQ d s) := by unfold regQ; rw [h.word]; exact .ite (fun _ => .eq) (fun _ => .fail)
theorem arg_sim (s : PS) : Sim c d Eq (argP' c s) (argP' d s) := by unfold argP'; rw [h.kind]; exact .ite (fun _ => (num_sim h s).bindE fun _ _ => .eq) (fun _ => (reg_sim h s).bindE fun _ _ => .eq)
theorem loc_sim (s : PS) : Sim c d Eq (locP c s) (locP d s) := by
  unfold locP
  rw [h.word, h.fixed]
  refine .ite (fun _ => ?_) (fun _ => .fail)
  cases idxOf (c.word s.pos) s.names 0 with
  | some k => exact .eq
  | none => exact .ite (fun _ => .fail) (fun _ => .ite (fun _ => .fail) (fun _ => .eq))
theorem fence_sim (s : PS) : Sim c d Eq (fenceP c s) (fenceP d s) := by unfold fenceP; rw [h.kw]; exact .ite (fun _ => .eq) (fun _ => .ite (fun _ => .eq) (fun _ => .eq))
theorem test_sim (s : PS) : testP d s = testP c s := by unfold testP; rw [h.is]
theorem fn_sim (s : PS) : fnP d s = fnP c s := by unfold fnP; rw [h.is]
theorem skip_sim (s : PS) : Sim c d Eq (skipP c s) (skipP d s) := by
  unfold skipP
  refine (num_sim h _).bindE fun n s1 => ?_
  rw [h.kw]
  refine .ite (fun _ => (arg_sim h _).bindE fun x s2 => ?_) (fun _ => .fail)
  rw [test_sim h]
  cases testP c s2 with
  | none => exact .fail
  | some f => exact (arg_sim h _).bindE fun y s3 => .eq
theorem store_sim (s : PS) : Sim c d Eq (storeP c s) (storeP d s) := by
  unfold storeP
  rw [h.kw]
  exact (loc_sim h _).bindE fun k s1 => (sign_sim h _ _).bindE fun _ s2 => (arg_sim h _).bindE fun x s3 => .ite (fun _ => .eq) (fun _ => .eq)
theorem move_sim (e : UInt8) (s : PS) : Sim c d Eq (moveP' c e s) (moveP' d e s) := by
  unfold moveP'
  refine (arg_sim h _).bindE fun x s1 => ?_
  rw [fn_sim h]
  cases fnP c s1 with
  | none => exact .fail
  | some f => exact (arg_sim h _).bindE fun y s2 => .eq
theorem assign_sim (s : PS) : Sim c d Eq (assignP c s) (assignP d s) := by
  unfold assignP
  rw [h.kw, h.word]
  refine (reg_sim h _).bindE fun e s1 => (sign_sim h _ _).bindE fun _ s2 => ?_
  refine .ite (fun _ => (loc_sim h _).bindE fun k s3 => (arg_sim h _).bindE fun x s4 => .eq) (fun _ => ?_);refine .ite (fun _ => (loc_sim h _).bindE fun k s3 => (arg_sim h _).bindE fun x s4 => .eq) (fun _ => ?_);refine .ite (fun _ => (loc_sim h _).bindE fun k s3 => (arg_sim h _).bindE fun x s4 => (arg_sim h _).bindE fun y s5 => .eq) (fun _ => ?_)
  exact .ite (fun _ => (loc_sim h _).bindE fun k s3 => .ite (fun _ => .eq) (fun _ => .eq)) (fun _ => move_sim h e s2)
theorem ins_sim (k : Nat) (s : PS) : Sim c d Eq (insP c k s) (insP d k s) := by
  unfold insP
  exact .ite (fun _ => fence_sim h s) (fun _ => .ite (fun _ => skip_sim h s) (fun _ => .ite (fun _ => assign_sim h s) (fun _ => store_sim h s)))
theorem sevL_sim {p q : PS → Rs Cnd} (hp : ∀ s, Sim c d Eq (p s) (q s)) (str : List UInt8) : ∀ (f : Nat) (ks : List Cnd) (s : PS), Sim c d Eq (sevL c p str f ks s) (sevL d q str f ks s)
  | 0, ks, s => .fail
  | f + 1, ks, s => by
    unfold sevL
    rw [h.is]
    exact .ite (fun _ => (hp _).bindE fun k t => sevL_sim hp str f _ t) (fun _ => .eq)
theorem sev_sim {p q : PS → Rs Cnd} (hp : ∀ s, Sim c d Eq (p s) (q s)) (kind : UInt8) (str : List UInt8) (s : PS) : Sim c d Eq (sevP c kind str p s) (sevP d kind str q s) := by
  unfold sevP
  rw [h.is, h.len]
  exact (hp s).bindE fun k t => .ite (fun _ => (sevL_sim h hp str _ _ t).bindE fun ks u => .eq) (fun _ => .eq)
theorem fact_sim : ∀ (n : Nat) (s : PS), Sim c d Eq (factP c n s) (factP d n s)
  | 0, s => .fail
  | n + 1, s => by
    unfold factP
    rw [h.is, h.kw, h.kind];refine .ite (fun _ => (fact_sim n _).bindE fun k t => .eq) (fun _ => ?_);refine .ite (fun _ => (sev_sim h (sev_sim h (fact_sim n) 3 [38]) 4 [124] _).bindE fun k t => (sign_sim h _ _).bindE fun _ u => .eq) (fun _ => ?_);refine .ite (fun _ => .eq) (fun _ => ?_);refine .ite (fun _ => (num_sim h _).bindE fun t s1 => (sign_sim h _ _).bindE fun _ s2 => (reg_sim h _).bindE fun n s3 => (sign_sim h _ _).bindE fun _ s4 => (num_sim h _).bindE fun v s5 => .eq) (fun _ => ?_)
    exact (loc_sim h _).bindE fun k s1 => (sign_sim h _ _).bindE fun _ s2 => (num_sim h _).bindE fun v s3 => .eq
theorem disj_sim (n : Nat) (s : PS) : Sim c d Eq (disjP c n s) (disjP d n s) := by
  unfold disjP conjP
  exact sev_sim h (sev_sim h (fact_sim h n) 3 [38]) 4 [124] s
omit h in
structure SimQ (c d : PX) (q r : QL) : Prop where
  name : r.name = q.name
  init : r.init = q.init
  threads : r.threads = q.threads
  ask : r.ask = q.ask
  cond : r.cond = q.cond
  wh : r.wh = q.wh
  query : q.wh = 4 → ∃ i, q.query = c.place i ∧ r.query = d.place i
theorem testL_sim {q r : QL} (hq : SimQ c d q r) (s : PS) : Sim c d (SimQ c d) (testL c q s) (testL d r s) := by
  unfold testL
  rw [h.word, hq.wh]
  exact .ite (fun _ => .ite (fun _ => .fail) (fun _ => .ok ⟨rfl, hq.init, hq.threads, hq.ask, hq.cond, rfl, fun e => by cases e⟩)) (fun _ => .fail)
theorem initL_sim : ∀ (f : Nat) {q r : QL} (s : PS), SimQ c d q r → Sim c d (SimQ c d) (initL c f q s) (initL d f r s)
  | 0, q, r, s, hq => .fail
  | f + 1, q, r, s, hq => by
    unfold initL
    rw [h.word, h.kind]
    cases idxOf (c.word s.pos) s.names 0 with
    | some _ => exact .fail
    | none =>
      refine (loc_sim h _).bindE fun _ s1 => (sign_sim h _ _).bindE fun _ s2 => (num_sim h _).bindE fun v s3 => ?_
      refine .ite (fun _ => .ok ⟨hq.name, by show r.init ++ [v] = q.init ++ [v]; rw [hq.init], hq.threads, hq.ask, hq.cond, rfl, fun e => by cases e⟩) (fun _ => initL_sim f s3 ?_)
      exact ⟨hq.name, by show r.init ++ [v] = q.init ++ [v]; rw [hq.init], hq.threads, hq.ask, hq.cond, hq.wh, hq.query⟩
omit h in
theorem threadL_sim {q r : QL} (hq : SimQ c d q r) (s : PS) : Sim c d (SimQ c d) (threadL c q s) (threadL d r s) := by
  unfold threadL
  rw [hq.wh, hq.threads]
  exact .ite (fun _ => .ite (fun _ => .fail) (fun _ => .ok ⟨hq.name, hq.init, by rfl, hq.ask, hq.cond, rfl, fun e => by cases e⟩)) (fun _ => .fail)
theorem may_sim (i : Nat) : mayP d i = mayP c i := by unfold mayP; rw [h.kw, h.word]
theorem start_sim (i : Nat) : startP d i = startP c i := by unfold startP; rw [h.kw, h.word]
theorem addL_sim {q r : QL} (hq : SimQ c d q r) (s : PS) : Sim c d (SimQ c d) (addL c q s) (addL d r s) := by
  unfold addL
  rw [hq.wh, hq.threads, may_sim h, start_sim h]
  refine .ite (fun h3 => .ite (fun _ => .ite (fun _ => .fail) (fun _ => (ins_sim h _ _).bindE fun x t => .ok ?_)) (fun _ => .fail)) (fun _ => .fail)
  exact ⟨hq.name, hq.init, rfl, hq.ask, hq.cond, rfl, hq.query⟩
theorem askL_sim (k : UInt8) {q r : QL} (hq : SimQ c d q r) (s : PS) : Sim c d (SimQ c d) (askL c k q s) (askL d k r s) := by
  unfold askL
  rw [hq.wh, h.len]
  refine .ite (fun h3 => (disj_sim h _ _).bindE fun x t => .ok ?_) (fun _ => .fail)
  exact ⟨hq.name, hq.init, hq.threads, rfl, rfl, rfl, fun _ => ⟨s.pos, rfl, rfl⟩⟩
theorem lineL_sim {q r : QL} (hq : SimQ c d q r) (s : PS) : Sim c d (SimQ c d) (lineL c q s) (lineL d r s) := by
  unfold lineL
  rw [h.kw, h.len, hq.wh]
  exact .ite (fun _ => testL_sim h hq s) (fun _ => .ite (fun _ => .ite (fun _ => initL_sim h _ _ hq) (fun _ => .fail)) (fun _ => .ite (fun _ => threadL_sim hq s) (fun _ => .ite (fun _ => askL_sim h 1 hq s) (fun _ => .ite (fun _ => askL_sim h 2 hq s) (fun _ => .ite (fun _ => askL_sim h 3 hq s) (fun _ => addL_sim h hq s))))))
theorem linesL_sim : ∀ (f : Nat) {q r : QL} (s : PS), SimQ c d q r → Sim c d (fun q r => SimQ c d q r ∧ q.wh = 4) (linesL c f q s) (linesL d f r s)
  | 0, q, r, s, hq => .fail
  | f + 1, q, r, s, hq => by
    unfold linesL
    rw [hq.wh]
    exact .ite (fun h4 => .ok ⟨hq, h4⟩) (fun _ => (lineL_sim h hq s).bind fun q' r' t hq' => (end_sim h t).bindE fun _ u => linesL_sim f u hq')
theorem prog_sim : Sim c d Eq (progP c) (progP d) := by
  unfold progP
  rw [h.len]
  refine (linesL_sim h _ _ ⟨rfl, rfl, rfl, rfl, rfl, rfl, fun e => by cases e⟩).bind fun q r s hq => .ite (fun _ => .fail) (fun _ => ?_)
  obtain ⟨hq, h4⟩ := hq
  rw [hq.cond, hq.name, hq.init, hq.threads, hq.ask]
  refine .ite (fun _ => ?_) (fun _ => .eq)
  exact ⟨⟨rfl, by decide⟩, hq.query h4⟩
theorem cond_sim (s : PS) : Sim c d Eq (condP c s) (condP d s) := by
  unfold condP
  rw [h.len]
  refine (disj_sim h _ _).bindE fun x t => (end_sim h t).bindE fun _ u => .ite (fun _ => .fail) (fun _ => .ite (fun _ => ?_) (fun _ => .eq))
  exact ⟨⟨rfl, by decide⟩, s.pos, rfl, rfl⟩
end
theorem sameX_refl (c : PX) : SameX c c := ⟨rfl, rfl, rfl, rfl⟩
theorem prog_ne {c : PX} {p e : Nat} (h : progP c = .no p e) : e ≠ 0 := by
  have := prog_sim (sameX_refl c)
  rw [h] at this
  exact this.1.2
theorem cond_ne {c : PX} {s : PS} {p e : Nat} (h : condP c s = .no p e) : e ≠ 0 := by
  have := cond_sim (sameX_refl c) s
  rw [h] at this
  exact this.1.2
-- PrJ
theorem Rs.bind_ok {α β : Type} {r : Rs α} {f : α → PS → Rs β} {v : β} {t : PS} (h : r.bind f = .ok v t) : ∃ u s, r = .ok u s ∧ f u s = .ok v t := by
  cases r with
  | ok u s => exact ⟨u, s, rfl, h⟩
  | no p e => cases h
structure Nigh (c d : PX) (i j k : Nat) : Prop where
  kind : ∀ a, a < k → d.kind (j + a) = c.kind (i + a)
  text : ∀ a, a < k → d.text (j + a) = c.text (i + a)
  also : d.is (j + k) [38] = false
  either : d.is (j + k) [124] = false
  room : j + k ≤ d.ts.length
  fixed : d.fixed = c.fixed
structure Near (i j k : Nat) (s t : PS) : Prop where
  pos : t.pos + i = s.pos + j
  ge : i ≤ s.pos
  le : s.pos ≤ i + k
  names : t.names = s.names
section
variable {c d : PX} {i j k : Nat} (h : Nigh c d i j k)
include h
theorem Nigh.kindAt {s t : PS} (hn : Near i j k s t) (hs : s.pos < i + k) : d.kind t.pos = c.kind s.pos := by
  have := h.kind (s.pos - i) (by have := hn.ge; omega)
  have h1 := hn.pos; have h2 := hn.ge
  rwa [show j + (s.pos - i) = t.pos by omega, show i + (s.pos - i) = s.pos by omega] at this
theorem Nigh.textAt {s t : PS} (hn : Near i j k s t) (hs : s.pos < i + k) : d.text t.pos = c.text s.pos := by
  have := h.text (s.pos - i) (by have := hn.ge; omega)
  have h1 := hn.pos; have h2 := hn.ge
  rwa [show j + (s.pos - i) = t.pos by omega, show i + (s.pos - i) = s.pos by omega] at this
theorem Nigh.isAt {s t : PS} (hn : Near i j k s t) (hs : s.pos < i + k) (str : List UInt8) : d.is t.pos str = c.is s.pos str := by unfold PX.is; rw [h.kindAt hn hs, h.textAt hn hs]
omit h in
theorem Near.next {s t : PS} (hn : Near i j k s t) (hs : s.pos < i + k) : Near i j k s.next t.next := ⟨by have := hn.pos; show t.pos + 1 + i = s.pos + 1 + j; omega, Nat.le_succ_of_le hn.ge, hs, hn.names⟩
omit h in
def Lc {α : Type} (i j k : Nat) (r r' : Rs α) : Prop := ∀ v t, r = .ok v t → t.pos ≤ i + k → ∃ t', r' = .ok v t' ∧ Near i j k t t'
omit h in
theorem Lc.ok {α : Type} {v : α} {s t : PS} (hn : Near i j k s t) : Lc i j k (.ok v s) (.ok v t) := fun v' t' he _ => by cases he; exact ⟨t, rfl, hn⟩
omit h in
theorem Lc.no {α : Type} {p e : Nat} {r : Rs α} : Lc i j k (.no p e) r := fun v t he _ => by cases he
omit h in
theorem Lc.bind {α β : Type} {r r' : Rs α} {f f' : α → PS → Rs β} (h1 : Lc i j k r r') (hm : ∀ v t, r = .ok v t → (f v t).All fun _ u => t.pos ≤ u.pos) (h2 : ∀ v t t', r = .ok v t → Near i j k t t' → Lc i j k (f v t) (f' v t')) : Lc i j k (r.bind f) (r'.bind f') := fun v t he hle => by
  obtain ⟨u, s, hr, hf⟩ := Rs.bind_ok he
  have hs := hm u s hr v t hf
  obtain ⟨s', hr', hn⟩ := h1 u s hr (Nat.le_trans hs hle)
  obtain ⟨t', ht', hn'⟩ := h2 u s s' hr hn v t hf hle
  exact ⟨t', by rw [hr']; exact ht', hn'⟩
omit h in
theorem Lc.room {α : Type} {s : PS} {r r' : Rs α} (hg : r.All fun _ t => s.pos < t.pos) (h1 : s.pos < i + k → Lc i j k r r') : Lc i j k r r' := fun v t he hle => h1 (Nat.lt_of_lt_of_le (hg v t he) hle) v t he hle
theorem Nigh.stop {s t : PS} (hn : Near i j k s t) {str : List UInt8} (hstr : str = [38] ∨ str = [124]) (hf : c.is s.pos str = false) : d.is t.pos str = false := by
  rcases Nat.lt_or_ge s.pos (i + k) with h1 | h1
  · rw [h.isAt hn h1, hf]
  · have := hn.le; have := hn.pos
    rw [show t.pos = j + k by omega]
    rcases hstr with rfl | rfl
    · exact h.also
    · exact h.either
end
-- PrL
open Go.RowKit
set_option maxRecDepth 100000
theorem own_oneRws {w0 w : World} {row : Option Nat} {rs : List Res} {b sz : Nat} {cs : List Value} {e : TypeId} (H : Own w0 row w (.blk b cs e :: rs)) (hl : cs.length = sz) : Own w0 row w (.rws e sz (.slice (some ⟨b, 0, none⟩) 1 1) [cs] :: rs) :=
  H.seen _ (show w.ownsRow 0 e sz (.slice (some ⟨b, 0, none⟩) 1 1) 1 ([cs] : List (List Value)).flatten from ⟨by simp [hl], .inr ⟨b, 1, cs.toArray, rfl, Nat.zero_le _, H.blk 0 rfl, Nat.le_refl _, by unfold maxLen; omega, by simp [hl], by simp [hl]; exact List.take_of_length_le (Nat.le_of_eq hl)⟩⟩) (fun c hc => by
    have h2 : (Value.slice (some ⟨b, 0, none⟩) 1 1).ownBlock = some c := hc
    cases h2; rfl)
theorem own_plant2 {w0 w : World} {row : Option Nat} {S T : Nat → Prop} {h : Nat} {cs : List Value} {c : Cnd} {rows : List (List Value)} {kids : List Cnd} {rs : List Res} (H : Own w0 row w (.tree T h cs c :: .forest S h rows kids :: rs)) (hl : rows.length = kids.length) :
    Own w0 row w (.forest (fun b => T b ∨ S b) h (rows ++ [cs]) (kids ++ [c]) :: rs) := by
  have hT : TreeIn T w h cs c := H.pred 0 _ rfl
  have hS : ∀ (j : Nat) (r : List Value) (kid : Cnd), rows[j]? = some r → kids[j]? = some kid → TreeIn S w h r kid := H.pred 1 _ rfl
  refine H.fuse (.forest (fun b => T b ∨ S b) h (rows ++ [cs]) (kids ++ [c])) (show ∀ (j : Nat) (r : List Value) (kid : Cnd), (rows ++ [cs])[j]? = some r → (kids ++ [c])[j]? = some kid → TreeIn (fun b => T b ∨ S b) w h r kid from fun j r kid h1 h2 => ?_) (fun b hb => hb)
  rcases Nat.lt_or_ge j rows.length with hj | hj
  · rw [List.getElem?_append_left hj] at h1
    rw [List.getElem?_append_left (by omega)] at h2
    exact (hS j r kid h1 h2).loc (fun _ _ => rfl) (fun _ h => .inr h)
  · rw [List.getElem?_append_right hj] at h1
    rw [List.getElem?_append_right (by omega)] at h2
    obtain e : j - rows.length = 0 := by
      rcases Nat.eq_zero_or_pos (j - rows.length) with e | e
      · exact e
      · rw [List.getElem?_eq_none (by simp; omega)] at h1; cases h1
    rw [e] at h1;rw [show j - kids.length = 0 by omega] at h2
    cases h1; cases h2
    exact hT.loc (fun _ _ => rfl) (fun _ h => .inl h)
def PartAt (c : PX) (f : Value) (part : PS → Rs Cnd) (h n : Nat) : Prop :=
  ∀ {W w0 : World} {rs : List Res} {A : Option Addr} {C bp : Nat} {S : Nat → Prop} (s : PS) {B : Option Addr} {D : Nat} {X : List Value}, s.pos ≤ c.ts.length → s.names.length ≤ c.lim → c.ts.length < s.pos + n →
    Own W none w0 (.blk bp (parC c A C s B D X) 66 :: .held S A 3 (rowsT c.ts) :: .nms W c.fixed B D s.names :: rs) →
    CallsF Tryz.prog f [.pointer (some ⟨bp, 0, none⟩)] w0 (fun e w' => Ans W rs (part s) (fun v t e w' => ∃ cs T, e = .returned (.agg cs.toArray) ∧ ∃ B D, Own W none w' (.tree T h cs v :: .blk bp (parC c A C t B D X) 66 :: .held S A 3 (rowsT c.ts) :: .nms W c.fixed B D t.names :: rs)) e w')
theorem sev_first {c : PX} {kind : UInt8} {str : List UInt8} {part : PS → Rs Cnd} {s t : PS} {v : Cnd} (h : part s = .ok v t) : sevP c kind str part s = if c.is t.pos str = true then (sevL c part str c.ts.length [v] t).bind fun ks u => .ok (.mk kind 0 0 0 ks) u else .ok v t := by unfold sevP; rw [h]; rfl
theorem sevL_more {c : PX} {str : List UInt8} {part : PS → Rs Cnd} {f : Nat} {ks : List Cnd} {s : PS} (h : c.is s.pos str = true) : sevL c part str (f + 1) ks s = (part s.next).bind fun k t => sevL c part str f (ks ++ [k]) t := by show (if c.is s.pos str = true then _ else _) = _; rw [if_pos h]
theorem sevL_done {c : PX} {str : List UInt8} {part : PS → Rs Cnd} {f : Nat} {ks : List Cnd} {s : PS} (h : c.is s.pos str = false) : sevL c part str (f + 1) ks s = .ok ks s := by show (if c.is s.pos str = true then _ else _) = _; rw [h]; rfl
def PartGo (c : PX) (part : PS → Rs Cnd) : Prop := ∀ s, s.names.length ≤ c.lim → (part s).All fun _ t => s.pos < t.pos ∧ t.pos ≤ c.ts.length ∧ t.names.length ≤ c.lim
set_option maxHeartbeats 16000000 in
theorem pseveral_any {c : PX} (hc : c.Ok) {f : Value} {part : PS → Rs Cnd} {h n : Nat} (hpart : PartAt c f part h n) (hgo : PartGo c part) (kind : UInt8) (str : List UInt8) {W w0 : World} {rs : List Res} {A : Option Addr} {C bp : Nat} {S : Nat → Prop} {s : PS} {B : Option Addr} {D : Nat} {X : List Value} (hp : s.pos ≤ c.ts.length) (hnl : s.names.length ≤ c.lim) (hn : c.ts.length < s.pos + n)
    (H : Own W none w0 (.blk bp (parC c A C s B D X) 66 :: .held S A 3 (rowsT c.ts) :: .nms W c.fixed B D s.names :: rs)) :
    Calls Tryz.prog 121 #[.pointer (some ⟨bp, 0, none⟩), b8 kind, .string ⟨str.toArray⟩, f] w0 fun e w' => Ans W rs (sevP c kind str part s) (fun v t e w' => ∃ cs T, e = .returned (.agg cs.toArray) ∧ ∃ B D, Own W none w' (.tree T (h + 1) cs v :: .blk bp (parC c A C t B D X) 66 :: .held S A 3 (rowsT c.ts) :: .nms W c.fixed B D t.names :: rs)) e w' := by
  have hfew := hc.few
  refine enterF Tryz.func121 rfl Tryz.ntmps121 rfl (fun a F => ?_);refine cSR fun K1 hK1=>?_;refine sAl H Tryz.zeroValue27 F rfl rfl ?_;clear F a H; intro b8 a w F H;refine nK hK1 (cSR fun K2 hK2=>sMv F rfl rfl rfl (qMv rfl rfl rfl ?_));clear hK1;clear F a;intro a F;refine sCallVP F rfl rfl rfl rfl (hpart s hp hnl hn (H.selT 4 [1, 2, 3, 0] rfl rfl)) ?_;rintro e w hq9
  rcases hq9.cases with ⟨p9, e9, hn13, rfl, H⟩ | ⟨v13, t13, hr13, cs13, T13, rfl, B13, D13, H⟩
  ·
   refine .inl ⟨_, rfl, ?_⟩
   exact And.intro F.nod (Ans.no (by unfold sevP; rw [hn13]; rfl) H.tail)
  obtain ⟨g1, g2, g3⟩ := hgo s hnl v13 t13 hr13
  obtain ⟨k0, t0, n0, v0, A0, m0, C0, rfl⟩ := condShape (H.pred 0 _ rfl : TreeIn T13 _ h cs13 v13).at
  refine .inr ⟨_, rfl, ?_⟩
  clear F a; intro a F;refine sAl H Tryz.zeroValue27 F rfl rfl ?_;clear F a H; intro b9 a w F H
  refine sSr H 0 ?si F rfl rfl rfl ?s1 rfl rfl ?_
  case si => exact info_size Tryz.sizeOf27
  case s1 => first | rfl | (repeat (first | exact one_nil | (apply one_cons; · first | rfl | assumption | exact one_bif rfl rfl)))
  clear H; intro w H;refine nK hK2 ?_;clear hK2;refine cSeq (fun K3 hK3 => ?_);refine cSR fun K4 hK4=>sMv F rfl rfl rfl (qNc rfl rfl rfl (qFa (f := 0) (k := 0) Tryz.underlying66 rfl Tryz.sizeOf64 rfl rfl rfl rfl rfl (qMv rfl rfl rfl ?_)));clear F a;intro a F;refine sCall Tryz.call145 F rfl rfl rfl (pis_any str hc (by omega) (H.selT 6 [2, 3, 4, 0, 1, 5] rfl rfl)) ?_;rintro e w ⟨rfl, H⟩;refine ⟨_, rfl, ?_⟩;clear F a; intro a F;refine sNot F rfl rfl rfl (qNK hK4 ?_);clear hK4;clear F a;intro a F
  refine cIf F rfl (fun h19 => ?_) (fun h19 => ?_)
  ·
   replace h19 := notT h19
   have hk : c.is t13.pos str = false := by simpa using h19
   refine cSR fun K5 hK5=>?_
   refine sLr Tryz.underlying27 rfl ?si F rfl rfl rfl (H.whole 3 rfl) ?_
   case si => exact info_size Tryz.sizeOf27
   clear F a; intro a F
   refine sSr H 5 ?si F rfl rfl rfl ?s1 rfl rfl ?_
   case si => exact info_size Tryz.sizeOf27
   case s1 => first | rfl | (repeat (first | exact one_nil | (apply one_cons; · first | rfl | assumption | exact one_bif rfl rfl)))
   clear H; intro w H;refine nK hK5 ?_;clear hK5;refine wp_ret ?_;simp only [Exit.then];refine bRetC Tryz.results121 F rfl Tryz.underlying27 rfl H 5 rfl Tryz.sizeOf27 rfl ?_
   first
   | exact Ans.ok (by rw [sev_first hr13, hk]; rfl) ⟨_, _, rfl, _, _, (H.selT 6 [4, 0, 1, 2] rfl rfl).deeper 1⟩
   | exact Ans.ok (by rw [sev_first hr13, if_pos hk, ← heq]; rfl) ⟨_, _, rfl, _, _, (H.selT 6 [0, 0, 0, 1, 2] rfl rfl).grown1 kind 0 0 0 hrl hr5 (by omega)⟩
  replace h19 := notF h19
  have hk : c.is t13.pos str = true := by simpa using h19
  refine wp_skip (hK3 _ _ (cSR fun K6 hK6=>?_));clear hK3
  refine sLr Tryz.underlying27 rfl ?si F rfl rfl rfl (H.whole 3 rfl) ?_
  case si => exact info_size Tryz.sizeOf27
  clear F a; intro a F;refine sBsA H Tryz.underlying25 Tryz.sizeOf27 Tryz.zeroValue27 rfl F rfl rfl rfl rfl rfl ?_;clear F a H; intro b22 a w F H;refine sAs F rfl rfl rfl (qNK hK6 ?_);clear hK6;clear F a;intro a F;refine cSeq (fun K7 hK7 => ?_);refine wp_block ?_
  have H0 := H.selT 7 [0, 5, 1, 2, 3, 6] rfl rfl
  have H1 := ((own_oneRws H0 rfl).void (.forest (fun _ => False) h [] [v13]) (fun j r kid h1 => by simp at h1) (fun _ hb => hb))
  have H2 := (H1.selT 7 [2, 0, 1, 3, 4, 5, 6] rfl rfl).plant (by rfl)
  refine cLoopR [0, 1, 2, 3, 8] (fun m ups w => ∃ (g : Nat) (ks : List Cnd) (u : PS) (A10 : Option Addr) (c10 : Nat) (rows : List (List Value)) (S10 : Nat → Prop) (Bu : Option Addr) (Du : Nat), m = g ∧ ups = [(10, .slice A10 rows.length c10)] ∧ rows.length = ks.length ∧ (∀ r ∈ rows, r.length = 5) ∧ sevL c part str g ks u = sevL c part str c.ts.length [v13] t13 ∧ c.ts.length < u.pos + g ∧ s.pos < u.pos ∧ u.pos ≤ c.ts.length ∧ u.names.length ≤ c.lim ∧ ks.length ≤ u.pos ∧ Own W none w (.forest S10 h rows ks :: .rws 27 5 (.slice A10 rows.length c10) rows :: .blk bp (parC c A C u Bu Du X) 66 :: .held S A 3 (rowsT c.ts) :: .nms W c.fixed Bu Du u.names :: .blk b8 [Go.Proofs.YtkchaoajegkadaaGreatDoor.b8 0, Go.Proofs.YtkchaoajegkadaaGreatDoor.b8 0, Go.Proofs.YtkchaoajegkadaaGreatDoor.b8 0, Go.Proofs.YtkchaoajegkadaaGreatDoor.b8 0, .slice none 0 0] 27 :: rs)) F (c.ts.length) [(10, .slice (some ⟨b22, 0, none⟩) 1 1)] (by repeat (first | exact SubR.nil | (apply SubR.cons; · rfl))) ?_ ?_ ?_
  · exact ⟨c.ts.length, [v13], t13, _, _, [_], _, _, _, rfl, rfl, rfl, (by intro r hr; rw [List.mem_singleton.1 hr]; rfl), rfl, by omega, by omega, by omega, g3, by show 1 ≤ t13.pos; omega, H2⟩
  · repeat (first | exact trivial | refine Le.cons rfl ?_)
  clear F
  clear H H0 H1 H2
  intro m ups a w hI F
  obtain ⟨g, ks, u, A10, c10, rows, S10, Bu, Du, rfl, rfl, hrl, hr5, heq, hg, hsu, hul, hu6, hks, H⟩ := hI
  refine cSeq (fun K8 hK8 => ?_);refine cSR fun K9 hK9=>sMv F rfl rfl rfl (qNc rfl rfl rfl (qFa (f := 0) (k := 0) Tryz.underlying66 rfl Tryz.sizeOf64 rfl rfl rfl rfl rfl (qMv rfl rfl rfl ?_)));clear F a;intro a F;refine sCall Tryz.call145 F rfl rfl rfl (pis_any str hc (by omega) (H.selT 6 [2, 3, 4, 0, 1, 5] rfl rfl)) ?_;rintro e w ⟨rfl, H⟩;refine ⟨_, rfl, ?_⟩;clear F a; intro a F;refine nK hK9 ?_;clear hK9
  refine cIf F rfl (fun h27 => ?_) (fun h27 => ?_)
  ·
   have hul2 : u.pos < c.ts.length := is_lt h27
   obtain ⟨g, rfl⟩ : ∃ q, m = q + 1 := ⟨m - 1, by omega⟩
   rw [sevL_more h27] at heq;refine wp_skip (hK8 _ _ ?_);clear hK8;refine wp_block ?_;refine cSR fun K10 hK10=>sMv F rfl rfl rfl (qNc rfl rfl rfl (qFa (f := 0) (k := 0) Tryz.underlying66 rfl Tryz.sizeOf64 rfl rfl rfl rfl rfl ?_));clear F a;intro a F;refine sCall Tryz.call102 F rfl rfl rfl (pstep_any hc (by omega) H) ?_;rintro e w ⟨rfl, H⟩;refine ⟨_, rfl, ?_⟩;clear F a; intro a F;refine nK hK10 (cReg (sMv F rfl rfl rfl (qMv rfl rfl rfl (qMv rfl rfl rfl ?_))));clear hK10;clear F a;intro a F;refine sCallVP F rfl rfl rfl rfl (hpart u.next hul2 hu6 (by show c.ts.length < u.pos + 1 + n; omega) H) ?_;rintro e w hq9
   rcases hq9.cases with ⟨p9, e9, hn35, rfl, H⟩ | ⟨v35, t35, hr35, cs35, T35, rfl, B35, D35, H⟩
   ·
    refine .inl ⟨_, rfl, ?_⟩
    exact And.intro F.nod (Ans.no (by rw [sev_first hr13, if_pos hk, ← heq, hn35]; rfl) H.tail.tail.tail)
   obtain ⟨e1, e2, e3⟩ := hgo u.next hu6 v35 t35 hr35
   rw [hr35] at heq
   have e1 : u.pos + 1 < t35.pos := e1
   obtain ⟨k0, t0, n0, v0, A0, m0, C0, rfl⟩ := condShape (H.pred 0 _ rfl : TreeIn T35 _ h cs35 v35).at
   refine .inr ⟨_, rfl, ?_⟩
   clear F a; intro a F;refine sBsA H Tryz.underlying25 Tryz.sizeOf27 Tryz.zeroValue27 rfl F rfl rfl rfl rfl rfl ?_;clear F a H; intro b36 a w F H
   refine sApp1 (bytes := 32) H 6 Tryz.underlying25 Tryz.typeInfo27 rfl rfl rfl rfl rfl rfl F rfl rfl rfl rfl rfl (H.whole 0 rfl) rfl ?s1 ?s2 ?_
   case s1 => first | rfl | (repeat (first | exact one_nil | (apply one_cons; · first | rfl | assumption | exact one_bif rfl rfl)))
   case s2 => omega
   clear F a H; intro A37 c37 a w F H;refine sAs F rfl rfl rfl ?_;clear F a;intro a F;refine sNil ?_
   refine ⟨_, ?_, _, ⟨g, ks ++ [v35], t35, A37, c37, rows ++ [_], _, B35, D35, rfl, rfl, ?_, ?_, heq, ?_, ?_, e2, e3, ?_, own_plant2 (H.selT 8 [1, 5, 6, 2, 3, 4, 7] rfl rfl) hrl⟩, F.to (by repeat (first | exact trivial | refine Le.cons rfl ?_))⟩
   · omega
   · rw [List.length_append, List.length_append, hrl]; rfl
   · intro r hr
     rcases List.mem_append.1 hr with h1 | h1
     · exact hr5 r h1
     · rw [List.mem_singleton.1 h1]; rfl
   · omega
   · omega
   · rw [List.length_append, List.length_singleton]; omega
  obtain ⟨g, rfl⟩ : ∃ q, m = q + 1 := ⟨m - 1, by omega⟩
  rw [sevL_done h27] at heq;refine wp_exit ?_;refine hK7 _ _ (cSR fun K11 hK11=>sMv F rfl rfl rfl (qMv rfl rfl rfl (qBd (places := [(0, 1), (1, 1), (2, 1), (3, 1), (4, 1)]) Tryz.zeroValue27 Tryz.underlying27 (by kernel_rfl) rfl rfl rfl rfl ?_)));clear hK7;clear F a;intro a F
  refine sSr H 5 ?si F rfl rfl rfl ?s1 rfl rfl ?_
  case si => exact info_size Tryz.sizeOf27
  case s1 => first | rfl | (repeat (first | exact one_nil | (apply one_cons; · first | rfl | assumption | exact one_bif rfl rfl)))
  clear H; intro w H;refine nK hK11 ?_;clear hK11;refine wp_ret ?_;refine bRetC Tryz.results121 F rfl Tryz.underlying27 rfl H 5 rfl Tryz.sizeOf27 rfl ?_
  first
  | exact Ans.ok (by rw [sev_first hr13, hk]; rfl) ⟨_, _, rfl, _, _, (H.selT 6 [0, 0, 1, 2] rfl rfl).deeper 1⟩
  | exact Ans.ok (by rw [sev_first hr13, if_pos hk, ← heq]; rfl) ⟨_, _, rfl, _, _, (H.selT 6 [3, 4, 0, 1, 2] rfl rfl).grown1 kind 0 0 0 hrl hr5 (by omega)⟩
-- PrM
open Go.RowKit
set_option maxRecDepth 100000
def factF : Value := .func (.func 146) #[] #[]
def conjF : Value := .func (.func 122) #[] #[]
theorem callsF_out {P : Program} {f : FuncId} {args : List Value} {w : World} {R : Ending → World → Prop} (h : CallsF P (.func (.func f) #[] #[]) args w R) : Calls P f args.toArray w R := by
  obtain ⟨f', fi, ca, he, _, h⟩ := h
  simp only [Value.func.injEq, Fn.func.injEq] at he
  obtain ⟨rfl, h1, h2⟩ := he
  obtain rfl : fi = [] := by cases fi with | nil => rfl | cons _ _ => simp at h1
  obtain rfl : ca = [] := by cases ca with | nil => rfl | cons _ _ => simp at h2
  simpa using h
theorem own_leaf {w0 w : World} {row : Option Nat} {rs : List Res} (m : Nat) (k t n v : UInt8) (H : Own w0 row w rs) : Own w0 row w (.tree (fun _ => False) (m + 1) [b8 k, b8 t, b8 n, b8 v, .slice none 0 0] (.mk k t n v []) :: rs) :=
  H.void _ (show TreeIn (fun _ => False) w (m + 1) [b8 k, b8 t, b8 n, b8 v, .slice none 0 0] (.mk k t n v []) from ⟨none, 0, rfl, Nat.zero_le _, fun j kid h => by simp at h⟩) (fun _ hb => hb)
section
variable {c : PX}
theorem sevL_six {part : PS → Rs Cnd} {str : List UInt8} (hp : ∀ s, s.names.length ≤ c.lim → (part s).All fun _ t => t.names.length ≤ c.lim) : ∀ (f : Nat) (ks : List Cnd) (s : PS), s.names.length ≤ c.lim → (sevL c part str f ks s).All fun _ t => t.names.length ≤ c.lim
  | 0, ks, s, _ => .no
  | f + 1, ks, s, hn => by
    unfold sevL
    exact .ite (fun _ => (hp s.next hn).bind fun k t _ hk => sevL_six hp f _ t hk) (fun _ => .ok hn)
theorem sev_six {part : PS → Rs Cnd} {kind : UInt8} {str : List UInt8} (hp : ∀ s, s.names.length ≤ c.lim → (part s).All fun _ t => t.names.length ≤ c.lim) (s : PS) (hn : s.names.length ≤ c.lim) : (sevP c kind str part s).All fun _ t => t.names.length ≤ c.lim := by
  unfold sevP
  exact (hp s hn).bind fun k t _ hk => .ite (fun _ => (sevL_six hp _ _ _ hk).bind fun ks u _ hu => .ok hu) (fun _ => .ok hk)
theorem fact_six : ∀ (n : Nat) (s : PS), s.names.length ≤ c.lim → (factP c n s).All fun _ t => t.names.length ≤ c.lim
  | 0, s, _ => .no
  | n + 1, s, hn => by
    unfold factP
    refine .ite (fun h => (fact_six n s.next hn).bind fun k t _ hk => .ok hk) (fun _ => ?_);refine .ite (fun h => (sev_six (sev_six (fact_six n)) s.next hn).bind fun k t _ hk => signP_all.bind fun _ u _ hu => .ok (by rw [hu.2]; exact hk)) (fun _ => ?_);refine .ite (fun h => .ok hn) (fun _ => ?_);refine .ite (fun h => numQ_all.bind fun t s1 _ h1 => signP_all.bind fun _ s2 _ h2 => regQ_all.bind fun n s3 _ h3 => signP_all.bind fun _ s4 _ h4 => numQ_all.bind fun v s5 _ h5 => .ok (by rw [h5.2, h4.2, h3.2.1, h2.2, h1.2]; exact hn)) (fun _ => ?_)
    exact (loc_six hn).bind fun k s1 _ h1 => signP_all.bind fun _ s2 _ h2 => numQ_all.bind fun v s3 _ h3 => .ok (by rw [h3.2, h2.2]; exact h1.1)
theorem fact_go (n : Nat) : PartGo c (factP c n) := fun s hn v t h => ⟨(factP_all n s v t h).lt, (factP_all n s v t h).le, fact_six n s hn v t h⟩
theorem conj_go (n : Nat) : PartGo c (conjP c n) := fun s hn v t h => ⟨(conjP_all n s v t h).lt, (conjP_all n s v t h).le, sev_six (fact_six n) s hn v t h⟩
theorem disj_go (n : Nat) : PartGo c (disjP c n) := fun s hn v t h => ⟨(disjP_all n s v t h).lt, (disjP_all n s v t h).le, sev_six (sev_six (fact_six n)) s hn v t h⟩
end
theorem pconj_any {c : PX} (hc : c.Ok) {n : Nat} (hf : PartAt c factF (factP c n) (2 * n) n) {W w0 : World} {rs : List Res} {A : Option Addr} {C bp : Nat} {S : Nat → Prop} {s : PS} {B : Option Addr} {D : Nat} {X : List Value} (hp : s.pos ≤ c.ts.length) (hnl : s.names.length ≤ c.lim) (hn : c.ts.length < s.pos + n)
    (H : Own W none w0 (.blk bp (parC c A C s B D X) 66 :: .held S A 3 (rowsT c.ts) :: .nms W c.fixed B D s.names :: rs)) :
    Calls Tryz.prog 122 #[.pointer (some ⟨bp, 0, none⟩)] w0 fun e w' => Ans W rs (conjP c n s) (fun v t e w' => ∃ cs T, e = .returned (.agg cs.toArray) ∧ ∃ B D, Own W none w' (.tree T (2 * n + 1) cs v :: .blk bp (parC c A C t B D X) 66 :: .held S A 3 (rowsT c.ts) :: .nms W c.fixed B D t.names :: rs)) e w' := by
  refine enterF Tryz.func122 rfl Tryz.ntmps122 rfl (fun a F => ?_);refine cSR fun K1 hK1=>?_;refine sAl H Tryz.zeroValue27 F rfl rfl ?_;clear F a H; intro b2 a w F H;refine nK hK1 (cSR fun K2 hK2=>sMv F rfl rfl rfl ?_);clear hK1;clear F a;intro a F;refine sCallP Tryz.call121 F rfl rfl rfl (pseveral_any hc hf (fact_go n) 3 [38] hp hnl hn (H.selT 4 [1, 2, 3, 0] rfl rfl)) ?_;rintro e w hq9
  rcases hq9.cases with ⟨p9, e9, hn4, rfl, H⟩ | ⟨v4, t4, hr4, cs4, T4, rfl, B4, D4, H⟩
  ·
   refine .inl ⟨_, rfl, ?_⟩
   exact And.intro F.nod (Ans.no (hn4) H.tail)
  obtain ⟨k0, t0, n0, v0, A0, m0, C0, rfl⟩ := condShape (H.pred 0 _ rfl : TreeIn T4 _ _ cs4 v4).at
  refine .inr ⟨_, rfl, ?_⟩
  clear F a; intro a F
  refine sSr H 4 ?si F rfl rfl rfl ?s1 rfl rfl ?_
  case si => exact info_size Tryz.sizeOf27
  case s1 => first | rfl | (repeat (first | exact one_nil | (apply one_cons; · first | rfl | assumption | exact one_bif rfl rfl)))
  clear H; intro w H;refine nK hK2 ?_;clear hK2;refine wp_ret ?_;refine bRetC Tryz.results122 F rfl Tryz.underlying27 rfl H 4 rfl Tryz.sizeOf27 rfl ?_
  exact Ans.ok hr4 ⟨_, _, rfl, _, _, H.selT 5 [0, 1, 2, 3] rfl rfl⟩
theorem conj_at {c : PX} (hc : c.Ok) {n : Nat} (hf : PartAt c factF (factP c n) (2 * n) n) : PartAt c conjF (conjP c n) (2 * n + 1) n := fun {W w0 rs A C bp S} s {B D X} hp hnl hn H =>
  ⟨_, [], [], rfl, Tryz.call122, pconj_any hc hf hp hnl hn H⟩
theorem pdisj_any {c : PX} (hc : c.Ok) {n : Nat} (hf : PartAt c conjF (conjP c n) (2 * n + 1) n) {W w0 : World} {rs : List Res} {A : Option Addr} {C bp : Nat} {S : Nat → Prop} {s : PS} {B : Option Addr} {D : Nat} {X : List Value} (hp : s.pos ≤ c.ts.length) (hnl : s.names.length ≤ c.lim) (hn : c.ts.length < s.pos + n)
    (H : Own W none w0 (.blk bp (parC c A C s B D X) 66 :: .held S A 3 (rowsT c.ts) :: .nms W c.fixed B D s.names :: rs)) :
    Calls Tryz.prog 69 #[.pointer (some ⟨bp, 0, none⟩)] w0 fun e w' => Ans W rs (disjP c n s) (fun v t e w' => ∃ cs T, e = .returned (.agg cs.toArray) ∧ ∃ B D, Own W none w' (.tree T (2 * n + 2) cs v :: .blk bp (parC c A C t B D X) 66 :: .held S A 3 (rowsT c.ts) :: .nms W c.fixed B D t.names :: rs)) e w' := by
  refine enterF Tryz.func69 rfl Tryz.ntmps69 rfl (fun a F => ?_);refine cSR fun K1 hK1=>?_;refine sAl H Tryz.zeroValue27 F rfl rfl ?_;clear F a H; intro b2 a w F H;refine nK hK1 (cSR fun K2 hK2=>sMv F rfl rfl rfl ?_);clear hK1;clear F a;intro a F;refine sCallP Tryz.call121 F rfl rfl rfl (pseveral_any hc hf (conj_go n) 4 [124] hp hnl hn (H.selT 4 [1, 2, 3, 0] rfl rfl)) ?_;rintro e w hq9
  rcases hq9.cases with ⟨p9, e9, hn4, rfl, H⟩ | ⟨v4, t4, hr4, cs4, T4, rfl, B4, D4, H⟩
  ·
   refine .inl ⟨_, rfl, ?_⟩
   exact And.intro F.nod (Ans.no (hn4) H.tail)
  obtain ⟨k0, t0, n0, v0, A0, m0, C0, rfl⟩ := condShape (H.pred 0 _ rfl : TreeIn T4 _ _ cs4 v4).at
  refine .inr ⟨_, rfl, ?_⟩
  clear F a; intro a F
  refine sSr H 4 ?si F rfl rfl rfl ?s1 rfl rfl ?_
  case si => exact info_size Tryz.sizeOf27
  case s1 => first | rfl | (repeat (first | exact one_nil | (apply one_cons; · first | rfl | assumption | exact one_bif rfl rfl)))
  clear H; intro w H;refine nK hK2 ?_;clear hK2;refine wp_ret ?_;refine bRetC Tryz.results69 F rfl Tryz.underlying27 rfl H 4 rfl Tryz.sizeOf27 rfl ?_
  exact Ans.ok hr4 ⟨_, _, rfl, _, _, H.selT 5 [0, 1, 2, 3] rfl rfl⟩
end Go.Proofs.YtkchaoajegkadaaGreatDoor
