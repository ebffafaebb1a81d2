/-
  WALK2. Package parse: a line, by the function that the map of keywords answers. Conditions: the parser and all that it holds lie in memory.
-/
import Derived.Test.YtbdjlmdejlklkaaPrY
import Derived.Test.YtbdjlmdejlklkaaPrG
set_option linter.unusedSimpArgs false
set_option linter.unusedVariables false
namespace Go.Proofs.Ytbdjlmdejlklkaa
open Go.RowKit
set_option maxRecDepth 100000
/-- The program's names, once they are handed over. -/
def locV (z : Bool) (B : Option Addr) (n D : Nat) : Value := bif z then .slice B n D else .slice none 0 0
/-- The parser between two lines, with all that it holds. -/
def LineAt (W w : World) (rs : List Res) (c : PX) (A : Option Addr) (C bp : Nat) (S : Nat → Prop) (z : Bool) (q : QL) (s : PS) : Prop :=
  ∃ (B : Option Addr) (D : Nat) (IA : Option Addr) (IC : Nat) (TA : Option Addr) (TC : Nat) (hrows : List (List Value)) (LA : Option Addr) (LC : Nat) (last : List Ins) (ST : Nat → Prop) (frows : List (List Value)) (front : List (List Ins)) (T : Nat → Prop) (h : Nat) (b1 b2 b3 b4 b5 : Value),
    Own W none w (.blk bp (parC c A C s B D [.string q.name, locV z B s.names.length D, .slice IA q.init.length IC, .slice TA hrows.length TC, b8 q.ask, b1, b2, b3, b4, b5, .int .i64 (q.wh : Int), .int .i64 (q.query : Int)]) 59 :: .held S A 3 (rowsT c.ts) :: .nms W c.fixed B D s.names ::
      .rws 5 1 (.slice IA q.init.length IC) (iniC q.init) :: .rws 38 1 (.slice TA hrows.length TC) hrows :: .rws 42 10 (.slice LA last.length LC) (insC last) :: .thrs ST frows front :: .tree T h [b1, b2, b3, b4, b5] q.cond :: rs) ∧
    frows.length = front.length ∧ (∀ r ∈ hrows, r.length = 1) ∧ hrows.length = q.threads.length ∧
    (q.threads = [] ∧ front = [] ∧ frows = [] ∧ last = [] ∧ hrows = [] ∨ q.threads = front ++ [last] ∧ hrows = frows ++ [[.slice LA last.length LC]]) ∧ h ≤ 2000000
theorem Ans.imp {α : Type} {W w : World} {rs rs' : List Res} {r : Rs α} {K K' : α → PS → Ending → World → Prop} {e : Ending} (h : Ans W rs r K e w) (h1 : Own W none w rs → Own W none w rs') (h2 : ∀ v t, r = .ok v t → K v t e w → K' v t e w) : Ans W rs' r K' e w := by
  cases r with
  | ok v t => exact h2 v t rfl h
  | no p er => exact ⟨h.1, h1 h.2⟩
/-- What a function of a line does. -/
def LineFn (c : PX) (f : Value) (line : QL → PS → Rs QL) : Prop := ∀ {W w0 : World} {rs : List Res} {A : Option Addr} {C bp : Nat} {S : Nat → Prop} {q : QL} {s : PS}, QOk q s → s.pos ≤ c.ts.length → LineAt W w0 rs c A C bp S false q s →
  CallsF Try.prog f [.pointer (some ⟨bp, 0, none⟩)] w0 (fun e w' => Ans W rs (line q s) (fun v t e w' => e = .returned (.tuple #[]) ∧ LineAt W w' rs c A C bp S false v t) e w')
section
variable {c : PX} (hc : c.Ok) (hm : c.ts.length ≤ 900000) {W w0 : World} {rs : List Res} {A : Option Addr} {C bp : Nat} {S : Nat → Prop} {q : QL} {s : PS}
include hc hm
theorem line_test (hs : s.pos ≤ c.ts.length) (hL : LineAt W w0 rs c A C bp S false q s) :
    Calls Try.prog 55 #[.pointer (some ⟨bp, 0, none⟩)] w0 fun e w' => Ans W rs (testL c q s) (fun v t e w' => e = .returned (.tuple #[]) ∧ LineAt W w' rs c A C bp S false v t) e w' := by
  obtain ⟨B, D, IA, IC, TA, TC, hrows, LA, LC, last, ST, frows, front, T, h, b1, b2, b3, b4, b5, H, hf, hr, hl, hth, hh⟩ := hL
  refine (ptest_any hc (q := q) (s := s) (by omega) H).mono fun e w' hA => hA.imp (fun H => H.tail.tail.tail.tail.tail) fun v t ht hk => ?_
  obtain ⟨rfl, hv, H⟩ := hk
  have e2 : v.init = q.init := by have e := congrArg QL.init hv; exact e
  have e3 : v.threads = q.threads := by have e := congrArg QL.threads hv; exact e
  have e4 : v.ask = q.ask := by have e := congrArg QL.ask hv; exact e
  have e5 : v.cond = q.cond := by have e := congrArg QL.cond hv; exact e
  have e7 : v.query = q.query := by have e := congrArg QL.query hv; exact e
  refine ⟨rfl, B, D, IA, IC, TA, TC, hrows, LA, LC, last, ST, frows, front, T, h, b1, b2, b3, b4, b5, ?_, hf, hr, by rw [e3]; exact hl, by rw [e3]; exact hth, hh⟩
  rw [e2, e4, e5, e7]
  have hn : t.names = s.names := by
    unfold testL at ht
    split at ht
    · split at ht
      · cases ht
      · cases ht; rfl
    · cases ht
  rw [hn]
  rw [hn] at H
  exact H
theorem line_init (hq : QOk q s) (hs : s.pos < c.ts.length) (hL : LineAt W w0 rs c A C bp S false q s) :
    Calls Try.prog 56 #[.pointer (some ⟨bp, 0, none⟩)] w0 fun e w' => Ans W rs (if q.wh = 1 then initL c (c.ts.length + 1) q s.next else failP c s 50) (fun v t e w' => e = .returned (.tuple #[]) ∧ LineAt W w' rs c A C bp S false v t) e w' := by
  obtain ⟨B, D, IA, IC, TA, TC, hrows, LA, LC, last, ST, frows, front, T, h, b1, b2, b3, b4, b5, H, hf, hr, hl, hth, hh⟩ := hL
  have h6 : s.names.length ≤ c.lim := by have := hq.nm.few; unfold PX.lim; cases c.fixed <;> simp <;> omega
  refine (pinit_any hc hm (q := q) (s := s) hs h6 hq.ini H).mono fun e w' hA => hA.imp (fun H => H.tail.tail.tail.tail) fun v t ht hk => ?_
  obtain ⟨rfl, hv, B', D', IA', IC', H⟩ := hk
  have e1 : v.name = q.name := by have e := congrArg QL.name hv; exact e
  have e3 : v.threads = q.threads := by have e := congrArg QL.threads hv; exact e
  have e4 : v.ask = q.ask := by have e := congrArg QL.ask hv; exact e
  have e5 : v.cond = q.cond := by have e := congrArg QL.cond hv; exact e
  have e7 : v.query = q.query := by have e := congrArg QL.query hv; exact e
  refine ⟨rfl, B', D', IA', IC', TA, TC, hrows, LA, LC, last, ST, frows, front, T, h, b1, b2, b3, b4, b5, ?_, hf, hr, by rw [e3]; exact hl, by rw [e3]; exact hth, hh⟩
  rw [e1, e4, e5, e7]
  exact H
theorem line_thread (hq : QOk q s) (hs : s.pos ≤ c.ts.length) (hL : LineAt W w0 rs c A C bp S false q s) :
    Calls Try.prog 57 #[.pointer (some ⟨bp, 0, none⟩)] w0 fun e w' => Ans W rs (threadL c q s) (fun v t e w' => e = .returned (.tuple #[]) ∧ LineAt W w' rs c A C bp S false v t) e w' := by
  obtain ⟨B, D, IA, IC, TA, TC, hrows, LA, LC, last, ST, frows, front, T, h, b1, b2, b3, b4, b5, H, hf, hr, hl, hth, hh⟩ := hL
  refine (pthread_any hc (q := q) (s := s) hl hq.thr (by omega) (H.selT 8 [0, 1, 2, 4, 3, 5, 6, 7] rfl rfl)).mono fun e w' hA => hA.imp (fun H => H.tail.tail.tail.tail) fun v t ht hk => ?_
  obtain ⟨rfl, hv, rfl, TA', TC', H⟩ := hk
  subst hv
  have hnr : ∀ r ∈ hrows ++ [[Value.slice none 0 0]], r.length = 1 := fun r h => by
    rcases List.mem_append.1 h with h | h
    · exact hr r h
    · rw [List.mem_singleton.1 h]; rfl
  have hnl : (hrows ++ [[Value.slice none 0 0]]).length = (q.threads ++ [[]]).length := by rw [List.length_append, List.length_append, hl]; rfl
  rcases hth with ⟨t1, rfl, rfl, rfl, rfl⟩ | ⟨t1, rfl⟩
  · refine ⟨rfl, B, D, IA, IC, TA', TC', [] ++ [[Value.slice none 0 0]], none, 0, [], ST, [], [], T, h, b1, b2, b3, b4, b5, ?_, rfl, hnr, hnl, .inr ⟨by show q.threads ++ [[]] = _; rw [t1], rfl⟩, hh⟩
    exact (((H.selT 8 [0, 1, 2, 4, 3, 6, 7] rfl rfl).nilRws 42 10).selT 8 [1, 2, 3, 4, 5, 0, 6, 7] rfl rfl)
  · refine ⟨rfl, B, D, IA, IC, TA', TC', (frows ++ [[.slice LA last.length LC]]) ++ [[Value.slice none 0 0]], none, 0, [], (fun b => (Value.slice LA last.length LC).ownBlock = some b ∨ ST b), frows ++ [[.slice LA last.length LC]], front ++ [last], T, h, b1, b2, b3, b4, b5, ?_, by rw [List.length_append, List.length_append, hf]; rfl, hnr, hnl, .inr ⟨by show q.threads ++ [[]] = _; rw [t1], rfl⟩, hh⟩
    exact (((H.selT 8 [5, 6, 0, 1, 2, 4, 3, 7] rfl rfl).push hf).nilRws 42 10).selT 8 [2, 3, 4, 5, 6, 0, 1, 7] rfl rfl
theorem line_ask (k : UInt8) (hq : QOk q s) (hs : s.pos < c.ts.length) (hk : AskW c s.pos k) (hL : LineAt W w0 rs c A C bp S false q s) :
    Calls Try.prog 58 #[.pointer (some ⟨bp, 0, none⟩)] w0 fun e w' => Ans W rs (askL c k q s) (fun v t e w' => e = .returned (.tuple #[]) ∧ LineAt W w' rs c A C bp S false v t) e w' := by
  obtain ⟨B, D, IA, IC, TA, TC, hrows, LA, LC, last, ST, frows, front, T, h, b1, b2, b3, b4, b5, H, hf, hr, hl, hth, hh⟩ := hL
  have h6 : s.names.length ≤ c.lim := by have := hq.nm.few; unfold PX.lim; cases c.fixed <;> simp <;> omega
  refine (pask_any k hc hm (q := q) (s := s) hs h6 H hk).mono fun e w' hA => hA.imp (fun H => H.tail.tail.tail.tail.tail) fun v t ht hk => ?_
  obtain ⟨rfl, hv, T', h', c1, c2, c3, c4, c5, B', D', hh, H⟩ := hk
  have e2 : v.init = q.init := by have e := congrArg QL.init hv; exact e
  have e3 : v.threads = q.threads := by have e := congrArg QL.threads hv; exact e
  refine ⟨rfl, B', D', IA, IC, TA, TC, hrows, LA, LC, last, ST, frows, front, T', h', c1, c2, c3, c4, c5, ?_, hf, hr, by rw [e3]; exact hl, by rw [e3]; exact hth, hh⟩
  rw [e2]
  exact H.selT 9 [1, 2, 3, 4, 5, 6, 7, 0] rfl rfl
theorem line_add (hq : QOk q s) (hs : s.pos ≤ c.ts.length) (hL : LineAt W w0 rs c A C bp S false q s) :
    Calls Try.prog 44 #[.pointer (some ⟨bp, 0, none⟩)] w0 fun e w' => Ans W rs (addL c q s) (fun v t e w' => e = .returned (.tuple #[]) ∧ LineAt W w' rs c A C bp S false v t) e w' := by
  obtain ⟨B, D, IA, IC, TA, TC, hrows, LA, LC, last, ST, frows, front, T, h, b1, b2, b3, b4, b5, H, hf, hr, hl, hth, hh⟩ := hL
  have h6 : s.names.length ≤ c.lim := by have := hq.nm.few; unfold PX.lim; cases c.fixed <;> simp <;> omega
  have hw3 : q.wh = 3 → q.threads = front ++ [last] ∧ hrows = frows ++ [[.slice LA last.length LC]] := fun h3 => by
    rcases hth with h | h
    · exact absurd h.1 (hq.three (.inl h3))
    · exact h
  have h12 : last.length ≤ 12 := by
    rcases hth with h | h
    · rw [h.2.2.2.1]; exact Nat.zero_le _
    · exact (hq.ins last (by rw [h.1]; exact List.mem_append_right _ (List.mem_singleton.2 rfl))).1
  refine (padd_any hc (q := q) (s := s) (front := front) (frows := frows) (by omega) h6 hw3 (by rw [hl]; exact hq.thr) hr h12 (H.selT 8 [0, 1, 2, 4, 5, 3, 6, 7] rfl rfl)).mono fun e w' hA => hA.imp (fun H => H.tail.tail.tail) fun v t ht hk => ?_
  obtain ⟨rfl, x, rfl, B', D', LA', LC', H⟩ := hk
  have h3 : q.wh = 3 := by
    unfold addL at ht
    split at ht
    · assumption
    · cases ht
  obtain ⟨t1, rfl⟩ := hw3 h3
  have hx : (frows ++ [[Value.slice LA last.length LC]]).length = (frows ++ [[Value.slice LA' (last ++ [x]).length LC']]).length := by rw [List.length_append, List.length_append]; rfl
  rw [hx] at H
  refine ⟨rfl, B', D', IA, IC, TA, TC, frows ++ [[Value.slice LA' (last ++ [x]).length LC']], LA', LC', last ++ [x], ST, frows, front, T, h, b1, b2, b3, b4, b5, H.selT 8 [0, 1, 2, 5, 3, 4, 6, 7] rfl rfl, hf, fun r hr2 => ?_, ?_, .inr ⟨rfl, rfl⟩, hh⟩
  · rcases List.mem_append.1 hr2 with h | h
    · exact hr r (List.mem_append_left _ h)
    · rw [List.mem_singleton.1 h]; rfl
  · rw [← hx, hl, t1, List.length_append, List.length_append]; rfl
end
def addF : Value := .func (.func 44) #[] #[]
/-- What parses the line that begins with a token. -/
def lineF (c : PX) (i : Nat) : Value := ((findT (c.word i) linesM).map (·.2)).getD addF
theorem lineF_eq (c : PX) (i : Nat) : lineF c i = if c.kw i [116, 101, 115, 116] then .func (.func 55) #[] #[] else if c.kw i [105, 110, 105, 116] then .func (.func 56) #[] #[] else if c.kw i [116, 104, 114, 101, 97, 100] then .func (.func 57) #[] #[]
    else if c.kw i [115, 111, 109, 101] then .func (.func 58) #[] #[] else if c.kw i [110, 111, 110, 101] then .func (.func 58) #[] #[] else if c.kw i [97, 108, 108] then .func (.func 58) #[] #[] else addF := by
  unfold lineF linesM
  rw [find_cons, find_cons, find_cons, find_cons, find_cons, find_cons]
  rw [kw_lit [116, 101, 115, 116], kw_lit [105, 110, 105, 116], kw_lit [116, 104, 114, 101, 97, 100], kw_lit [115, 111, 109, 101], kw_lit [110, 111, 110, 101], kw_lit [97, 108, 108]]
  split
  · rfl
  split
  · rfl
  split
  · rfl
  split
  · rfl
  split
  · rfl
  split
  · rfl
  rfl
theorem pline_any {c : PX} (hc : c.Ok) (hm : c.ts.length ≤ 900000) {W w0 : World} {rs : List Res} {A : Option Addr} {C bp : Nat} {S : Nat → Prop} {q : QL} {s : PS} {f : Value} (hf : f = lineF c s.pos) (hq : QOk q s) (hs : s.pos ≤ c.ts.length) (hL : LineAt W w0 rs c A C bp S false q s) :
    CallsF Try.prog f [.pointer (some ⟨bp, 0, none⟩)] w0 (fun e w' => Ans W rs (lineL c q s) (fun v t e w' => e = .returned (.tuple #[]) ∧ LineAt W w' rs c A C bp S false v t) e w') := by
  subst hf
  rw [lineF_eq]
  unfold lineL
  by_cases h1 : c.kw s.pos [116, 101, 115, 116] = true
  · rw [if_pos h1, if_pos h1]
    exact ⟨_, [], [], rfl, Try.call55, line_test hc hm hs hL⟩
  rw [if_neg h1, if_neg h1]
  by_cases h2 : c.kw s.pos [105, 110, 105, 116] = true
  · rw [if_pos h2, if_pos h2]
    exact ⟨_, [], [], rfl, Try.call56, line_init hc hm hq (kw_lt h2) hL⟩
  rw [if_neg h2, if_neg h2]
  by_cases h3 : c.kw s.pos [116, 104, 114, 101, 97, 100] = true
  · rw [if_pos h3, if_pos h3]
    exact ⟨_, [], [], rfl, Try.call57, line_thread hc hm hq hs hL⟩
  rw [if_neg h3, if_neg h3]
  by_cases h4 : c.kw s.pos [115, 111, 109, 101] = true
  · rw [if_pos h4, if_pos h4]
    exact ⟨_, [], [], rfl, Try.call58, line_ask hc hm 1 hq (kw_lt h4) (.inl ⟨rfl, h4⟩) hL⟩
  rw [if_neg h4, if_neg h4]
  by_cases h5 : c.kw s.pos [110, 111, 110, 101] = true
  · rw [if_pos h5, if_pos h5]
    exact ⟨_, [], [], rfl, Try.call58, line_ask hc hm 2 hq (kw_lt h5) (.inr (.inl ⟨rfl, h5⟩)) hL⟩
  rw [if_neg h5, if_neg h5]
  by_cases h6 : c.kw s.pos [97, 108, 108] = true
  · rw [if_pos h6, if_pos h6]
    exact ⟨_, [], [], rfl, Try.call58, line_ask hc hm 3 hq (kw_lt h6) (.inr (.inr ⟨rfl, h6⟩)) hL⟩
  rw [if_neg h6, if_neg h6]
  exact ⟨_, [], [], rfl, Try.call44, line_add hc hm hq hs hL⟩
end Go.Proofs.Ytbdjlmdejlklkaa
