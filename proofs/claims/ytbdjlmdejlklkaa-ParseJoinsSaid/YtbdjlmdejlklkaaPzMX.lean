/-
  Plain Lean: the tokens of a condition's text, put between parentheses, are lexed as they are. Nothing of the program. Conditions: none.
 
  WALK2. Chapter 05: typed; conditions joined by their texts. Conditions: the source is lexed without a fault.
 
  WALK2. Chapter 05: ParseJoins answers true. Conditions: the names lie in memory.
-/
import Derived.Test.YtbdjlmdejlklkaaPzI
import Derived.Test.YtbdjlmdejlklkaaPrK
import Derived.Test.YtbdjlmdejlklkaaBackP
import Derived.Test.YtbdjlmdejlklkaaPzX
import Derived.Test.YtbdjlmdejlklkaaPzH
import Derived.Test.YtbdjlmdejlklkaaKtF
set_option linter.unusedSimpArgs false
set_option linter.unusedVariables false
namespace Go.Proofs.Ytbdjlmdejlklkaa

/-! ### A condition has no end in it -/
section
variable {c : PX}
/-- From s on to t there is no end. -/
def NE (c : PX) (s t : PS) : Prop := s.pos ≤ t.pos ∧ ∀ i, s.pos ≤ i → i < t.pos → c.kind i ≠ 4
theorem NE.trans {s t u : PS} (h : NE c s t) (k : NE c t u) : NE c s u := ⟨Nat.le_trans h.1 k.1, fun i h1 h2 => by
  rcases Nat.lt_or_ge i t.pos with h3 | h3
  · exact h.2 i h1 h3
  · exact k.2 i h3 h2⟩
theorem NE.one {s t : PS} (h : c.kind s.pos ≠ 4) (ht : t.pos = s.pos + 1) : NE c s t := ⟨by omega, fun i h1 h2 => by
  obtain rfl : i = s.pos := by omega
  exact h⟩
theorem word_kind {i : Nat} (h : c.word i ≠ ByteArray.empty) : c.kind i = 1 := by
  unfold PX.word at h
  split at h
  · assumption
  · exact absurd rfl h
theorem kw_kind {i : Nat} {x : UInt8} {r : List UInt8} (h : c.kw i (x :: r) = true) : c.kind i = 1 := word_kind fun e => by
  unfold PX.kw at h
  rw [e] at h
  simp at h
theorem sign_ne {str : List UInt8} {s : PS} : (signP c str s).All fun _ t => NE c s t := by
  unfold signP failP
  exact .ite (fun h => .ok (.one (by rw [(is_kind h).1]; decide) rfl)) (fun _ => .no)
theorem num_ne {s : PS} : (numQ c s).All fun _ t => NE c s t := by
  unfold numQ failP
  exact .ite (fun h => .ok (.one (by rw [h.1]; decide) rfl)) (fun _ => .no)
theorem reg_ne {s : PS} : (regQ c s).All fun _ t => NE c s t := by
  unfold regQ failP
  exact .ite (fun h => .ok (.one (by rw [word_kind (fun e => by rw [e, regOk_nil] at h; cases h)]; decide) rfl)) (fun _ => .no)
theorem loc_ne {s : PS} : (locP c s).All fun _ t => NE c s t := by
  unfold locP failP
  refine .ite (fun h => ?_) (fun _ => .no)
  have hk : c.kind s.pos ≠ 4 := by rw [word_kind (fun e => by rw [e, nameOk_nil] at h; cases h)]; decide
  cases idxOf (c.word s.pos) s.names 0 with
  | some k => exact .ok (.one hk rfl)
  | none => exact .ite (fun _ => .no) (fun _ => .ite (fun _ => .no) (fun _ => .ok (.one hk rfl)))
theorem sevL_ne {part : PS → Rs Cnd} {str : List UInt8} (hp : ∀ s, (part s).All fun _ t => NE c s t) : ∀ (f : Nat) (ks : List Cnd) (s : PS), (sevL c part str f ks s).All fun _ t => NE c s t
  | 0, ks, s => .no
  | f + 1, ks, s => by
    unfold sevL
    refine .ite (fun h => (hp s.next).bind fun k t _ ht => (sevL_ne hp f _ t).imp fun v u hu => ?_) (fun _ => .ok ⟨Nat.le_refl _, fun i h1 h2 => absurd h2 (by omega)⟩)
    exact (NE.one (t := s.next) (by rw [(is_kind h).1]; decide) rfl).trans (ht.trans hu)
theorem sev_ne {part : PS → Rs Cnd} {kind : UInt8} {str : List UInt8} (hp : ∀ s, (part s).All fun _ t => NE c s t) (s : PS) : (sevP c kind str part s).All fun _ t => NE c s t := by
  unfold sevP
  refine (hp s).bind fun k t _ ht => .ite (fun _ => (sevL_ne hp _ _ t).bind fun ks u _ hu => .ok (ht.trans hu)) (fun _ => .ok ht)
theorem fact_ne : ∀ (n : Nat) (s : PS), (factP c n s).All fun _ t => NE c s t
  | 0, s => .no
  | n + 1, s => by
    unfold factP
    refine .ite (fun h => ?_) (fun _ => .ite (fun h => ?_) (fun _ => .ite (fun h => .ok (.one (by rw [kw_kind h]; decide) rfl)) (fun _ => .ite (fun h => ?_) (fun _ => ?_))))
    · exact (fact_ne n s.next).bind fun k t _ ht => .ok ((NE.one (t := s.next) (by rw [(is_kind h).1]; decide) rfl).trans ht)
    · exact (sev_ne (fun s => sev_ne (fun s => fact_ne n s) s) s.next).bind fun k t _ ht => sign_ne.bind fun _ u _ hu => .ok ((NE.one (t := s.next) (by rw [(is_kind h).1]; decide) rfl).trans (ht.trans hu))
    · exact num_ne.bind fun _ s1 _ h1 => sign_ne.bind fun _ s2 _ h2 => reg_ne.bind fun _ s3 _ h3 => sign_ne.bind fun _ s4 _ h4 => num_ne.bind fun _ s5 _ h5 => .ok (h1.trans (h2.trans (h3.trans (h4.trans h5))))
    · exact loc_ne.bind fun _ s1 _ h1 => sign_ne.bind fun _ s2 _ h2 => num_ne.bind fun _ s3 _ h3 => .ok (h1.trans (h2.trans h3))
theorem disj_ne (n : Nat) (s : PS) : (disjP c n s).All fun _ t => NE c s t := sev_ne (fun s => sev_ne (fun s => fact_ne n s) s) s
end
/-! ### Words -/
/-- What typed writes. -/
def wordsT : List Tok → List UInt8
  | [] => []
  | t :: r => 32 :: (t.text.data.toList ++ wordsT r)
theorem wordsT_append (a b : List Tok) : wordsT (a ++ b) = wordsT a ++ wordsT b := by
  induction a with
  | nil => rfl
  | cons t r ih => simp [wordsT, ih]
theorem wordsT_len : ∀ (ts : List Tok) (wi : Bool), G wi (ts.map kt) → (wordsT ts).length ≤ 2 * (typeG wi (ups ts)).length
  | [], _, _ => Nat.le_refl _
  | t :: r, wi, hG => by
    have hu : ups (t :: r) = t.up :: ups r := rfl
    rw [hu, typeG, wordsT]
    by_cases h4 : t.kind = 4
    · obtain ⟨_, h2, h3⟩ := (if_pos h4).mp hG
      have h2 : t.text = ByteArray.empty := h2
      have ih := wordsT_len r false h3
      rw [if_pos (show t.up.kind = 4 by show (t.kind : Int) = 4; omega), h2]
      simp only [List.length_cons, List.length_append]
      have : (ByteArray.empty.data.toList).length = 0 := rfl
      omega
    · obtain ⟨⟨h0, _⟩, h3⟩ := (if_neg h4).mp hG
      have h0 : 0 < t.text.size := h0
      have ih := wordsT_len r true h3
      rw [if_neg (show ¬ t.up.kind = 4 by show ¬ (t.kind : Int) = 4; omega)]
      have hs : t.text.data.toList.length = t.text.size := Array.length_toList
      have hs2 : t.up.text.data.toList.length = t.text.size := hs
      simp only [List.length_cons, List.length_append]
      omega
theorem words_size (s : ByteArray) : (wordsT (toks s)).length ≤ 4 * s.size := by
  have h1 := wordsT_len (toks s) false (G_toks s)
  have h2 := typed_size s
  unfold typed at h2
  rw [mk_size] at h2
  omega
theorem st_words (l : List Tok) (post : List UInt8) (h : post = [] ∨ ∃ r, post = 32 :: r) : St (mk (wordsT l ++ post)) := by
  have key : ∀ x : List UInt8, (x = [] ∨ ∃ r, x = 32 :: r) → St (mk x) := by
    rintro x (rfl | ⟨r, rfl⟩)
    · intro h; exact absurd h (by decide)
    · intro _; exact .inr rfl
  refine key _ ?_
  cases l with
  | nil => exact h
  | cons t r => exact .inr ⟨_, rfl⟩
theorem K_words : ∀ (l : List Tok) (post : List UInt8) (o : Bool), (post = [] ∨ ∃ r, post = 32 :: r) → (∀ t ∈ l, Good t.kind t.text) → K (mk (wordsT l ++ post)) o = l.map kt ++ K (mk post) (o || !l.isEmpty)
  | [], post, o, _, _ => by simp [wordsT]
  | t :: r, post, o, hp, hg => by
    have e1 : mk (wordsT (t :: r) ++ post) = (⟨#[32]⟩ : ByteArray) ++ (t.text ++ mk (wordsT r ++ post)) := by
      show mk (32 :: (t.text.data.toList ++ wordsT r) ++ post) = _
      rw [show 32 :: (t.text.data.toList ++ wordsT r) ++ post = [32] ++ (t.text.data.toList ++ (wordsT r ++ post)) by simp, mk_append, mk_append, mk_data]
      rfl
    rw [e1, K_blank 32 (by rfl), K_tok o (hg t (List.mem_cons_self ..)) (st_words r post hp), K_words r post true hp (fun x hx => hg x (List.mem_cons_of_mem _ hx))]
    simp [kt]
theorem good_lit {b : UInt8} (h : (cls b.toNat ≠ 1 ∧ cls b.toNat ≠ 2 ∧ cls b.toNat ≠ 7 ∧ tokKind (cls b.toNat) = 3) ∧ tokTo (mk [b]) 0 = 1) : Good 3 (mk [b]) := ⟨by show 0 < 1; omega, h.1.1, h.1.2.1, h.1.2.2.1, h.1.2.2.2.symm, h.2⟩
theorem good_open : Good 3 (mk [40]) := good_lit (by decide +kernel)
theorem good_close : Good 3 (mk [41]) := good_lit (by decide +kernel)
theorem good_and : Good 3 (mk [38]) := good_lit (by decide +kernel)
theorem good_or : Good 3 (mk [124]) := good_lit (by decide +kernel)
theorem good_not : Good 3 (mk [33]) := good_lit (by decide +kernel)
theorem K_sign {b : UInt8} (hg : Good 3 (mk [b])) (post : List UInt8) (o : Bool) (hp : post = [] ∨ ∃ r, post = 32 :: r) : K (mk (b :: post)) o = (3, mk [b]) :: K (mk post) true := by
  rw [show b :: post = [b] ++ post from rfl, mk_append, K_tok o hg (by have := st_words [] post hp; exact this)]
theorem K_space (post : List UInt8) (o : Bool) : K (mk (32 :: post)) o = K (mk post) o := by
  rw [show 32 :: post = [32] ++ post from rfl, mk_append]
  exact K_blank 32 (by rfl) _ o
theorem K_nil : K (mk []) true = [(4, ByteArray.empty)] := K_empty true
/-! ### A condition's tokens -/
/-- A source whose tokens are good ones and an end. -/
structure Line1 (s : ByteArray) (l : List Tok) : Prop where
  all : ∃ e, toks s = l ++ [e] ∧ e.kind = 4 ∧ e.text = ByteArray.empty
  good : ∀ t ∈ l, Good t.kind t.text
  fair : ∀ t ∈ l, faultOf t = 0
theorem first_all : ∀ {l : List Tok}, firstBad l = none ↔ ∀ t ∈ l, faultOf t = 0
  | [] => by simp [firstBad]
  | t :: r => by
    rw [firstBad]
    constructor
    · intro h
      split at h
      · rename_i h0
        intro x hx
        rcases List.mem_cons.1 hx with rfl | hx
        · exact h0
        · exact first_all.1 h x hx
      · cases h
    · intro h
      rw [if_pos (h t (List.mem_cons_self ..))]
      exact first_all.2 fun x hx => h x (List.mem_cons_of_mem _ hx)
theorem G_good : ∀ {l : List Tok} {o : Bool} {e : Tok}, G o ((l ++ [e]).map kt) → (∀ t ∈ l, t.kind ≠ 4) → (∀ t ∈ l, Good t.kind t.text) ∧ (e.kind = 4 → e.text = ByteArray.empty)
  | [], o, e, hG, _ => ⟨fun t h => absurd h List.not_mem_nil, fun h4 => ((if_pos h4).mp hG).2.1⟩
  | t :: r, o, e, hG, hk => by
    have h4 : t.kind ≠ 4 := hk t (List.mem_cons_self ..)
    obtain ⟨h1, h2⟩ := (if_neg h4).mp hG
    obtain ⟨h3, h5⟩ := G_good (l := r) (e := e) h2 fun x hx => hk x (List.mem_cons_of_mem _ hx)
    refine ⟨fun x hx => ?_, h5⟩
    rcases List.mem_cons.1 hx with rfl | hx
    · exact h1
    · exact h3 x hx
theorem line_of {s : ByteArray} {ns : List ByteArray} {x : Cnd} {k : Nat} (hl : lexBad s = none) (hc : CondIs (pxOf s true) ns x k) : ∃ l, l.length = k ∧ Line1 s l := by
  have hlen : (toks s).length = k + 1 := hc.len
  have hf : firstBad (toks s) = none := by
    unfold lexBad at hl
    split at hl
    · cases hl
    · exact Option.map_eq_none_iff.1 hl
  have hfa := first_all.1 hf
  obtain ⟨e, he⟩ : ∃ e, (toks s)[k]? = some e := ⟨_, List.getElem?_eq_getElem (by omega)⟩
  have hs : toks s = (toks s).take k ++ [e] := by
    have h1 := List.take_append_drop k (toks s)
    rw [List.drop_eq_getElem_cons (by omega), List.drop_of_length_le (by omega)] at h1
    have h2 : (toks s)[k]'(by omega) = e := by
      have := List.getElem?_eq_getElem (l := toks s) (i := k) (by omega)
      rw [this] at he; cases he; rfl
    rw [h2] at h1
    exact h1.symm
  have hek : e.kind = 4 := by
    have := hc.last
    unfold PX.kind at this
    rw [show (pxOf s true).ts[k]? = some e from he] at this
    exact this
  have hne := disj_ne _ _ _ _ hc.disj
  have hk : ∀ t ∈ (toks s).take k, t.kind ≠ 4 := fun t ht => by
    obtain ⟨i, hi⟩ := List.mem_iff_getElem?.1 ht
    rw [List.getElem?_take] at hi
    split at hi
    next hik =>
      have := hne.2 i (Nat.zero_le _) hik
      unfold PX.kind at this
      rw [show (pxOf s true).ts[i]? = some t from hi] at this
      exact this
    · cases hi
  have hG := G_toks s
  rw [hs] at hG
  obtain ⟨h1, h2⟩ := G_good hG hk
  exact ⟨(toks s).take k, by rw [List.length_take]; omega, ⟨e, hs, hek, h2 hek⟩, h1, fun t ht => hfa t (List.mem_of_mem_take ht)⟩
/-- What typed writes of such a source. -/
theorem words_line {s : ByteArray} {l : List Tok} (h : Line1 s l) : wordsT (toks s) = wordsT l ++ [32] := by
  obtain ⟨e, he, _, h2⟩ := h.all
  rw [he, wordsT_append]
  show _ ++ (32 :: (e.text.data.toList ++ [])) = _
  rw [h2]
  rfl
/-! ### Kinds and texts by place -/
theorem kind_at {c : PX} {i : Nat} {k : Nat} {x : ByteArray} (h : (c.ts.map kt)[i]? = some (k, x)) : c.kind i = k ∧ c.text i = x := by
  rw [List.getElem?_map] at h
  obtain ⟨t, ht, he⟩ := Option.map_eq_some_iff.1 h
  unfold PX.kind PX.text
  rw [ht]
  cases he
  exact ⟨rfl, rfl⟩
theorem is_at {c : PX} {i : Nat} {b : UInt8} (h : (c.ts.map kt)[i]? = some (3, mk [b])) : c.is i [b] = true := by
  obtain ⟨h1, h2⟩ := kind_at h
  unfold PX.is
  rw [h1, h2]
  show (true && ((mk [b]).toList == [b])) = true
  rw [show (mk [b]).toList = [b] from toList_data _]
  simp
end Go.Proofs.Ytbdjlmdejlklkaa

namespace Go.Proofs.Ytbdjlmdejlklkaa
open Go.RowKit
set_option maxRecDepth 100000
/-! ### Joined texts, plain -/
def joinT (a b : ByteArray) (op : UInt8) : List UInt8 := 40 :: (wordsT (toks a) ++ (41 :: 32 :: op :: 32 :: 40 :: (wordsT (toks b) ++ [41])))
def denyT (a : ByteArray) : List UInt8 := 33 :: 32 :: 40 :: (wordsT (toks a) ++ [41])
section
variable {a b : ByteArray} {la lb : List Tok}
theorem K_join (ha : Line1 a la) (hb : Line1 b lb) {op : UInt8} (ho : Good 3 (mk [op])) :
    K (mk (joinT a b op)) false = (3, mk [40]) :: (la.map kt ++ ((3, mk [41]) :: (3, mk [op]) :: (3, mk [40]) :: (lb.map kt ++ [(3, mk [41]), (4, ByteArray.empty)]))) := by
  unfold joinT
  rw [words_line ha, words_line hb]
  have hw : ∀ (l : List Tok) (p : List UInt8), (wordsT l ++ [32]) ++ p = [] ∨ ∃ r, (wordsT l ++ [32]) ++ p = 32 :: r := fun l p => by
    cases l with
    | nil => exact .inr ⟨_, rfl⟩
    | cons t r => exact .inr ⟨_, rfl⟩
  rw [K_sign good_open _ _ (hw la _), List.append_assoc, K_words la ([32] ++ _) true (.inr ⟨_, rfl⟩) ha.good]
  show _ :: (_ ++ K (mk (32 :: 41 :: 32 :: op :: 32 :: 40 :: _)) _) = _
  rw [K_space, K_sign good_close _ _ (.inr ⟨_, rfl⟩), K_space, K_sign ho _ _ (.inr ⟨_, rfl⟩), K_space, K_sign good_open _ _ (hw lb _), List.append_assoc, K_words lb ([32] ++ _) true (.inr ⟨_, rfl⟩) hb.good]
  show _ :: (_ ++ (_ :: _ :: _ :: (_ ++ K (mk (32 :: 41 :: [])) _))) = _
  rw [K_space, K_sign good_close [] _ (.inl rfl), K_nil]
theorem K_deny (ha : Line1 a la) : K (mk (denyT a)) false = (3, mk [33]) :: (3, mk [40]) :: (la.map kt ++ [(3, mk [41]), (4, ByteArray.empty)]) := by
  unfold denyT
  rw [words_line ha]
  have hw : ∀ (l : List Tok) (p : List UInt8), (wordsT l ++ [32]) ++ p = [] ∨ ∃ r, (wordsT l ++ [32]) ++ p = 32 :: r := fun l p => by
    cases l with
    | nil => exact .inr ⟨_, rfl⟩
    | cons t r => exact .inr ⟨_, rfl⟩
  rw [K_sign good_not _ _ (.inr ⟨_, rfl⟩), K_space, K_sign good_open _ _ (hw la _), List.append_assoc, K_words la ([32] ++ _) true (.inr ⟨_, rfl⟩) ha.good]
  show _ :: _ :: (_ ++ K (mk (32 :: 41 :: [])) _) = _
  rw [K_space, K_sign good_close [] _ (.inl rfl), K_nil]
theorem pxOf_ts (s : ByteArray) (fx : Bool) : (pxOf s fx).ts = toks s := by unfold pxOf; rfl
theorem toks_K (s : ByteArray) : (toks s).map kt = K s false := by rw [toks_rest]; rfl
theorem fair_kt {s : ByteArray} {l : List (Nat × ByteArray)} (hk : (toks s).map kt = l) (hz : s.size ≤ 16384) (hf : ∀ q ∈ l, faultOf ⟨q.1, q.2, 0⟩ = 0) : lexBad s = none := by
  unfold lexBad
  rw [if_neg (by omega), Option.map_eq_none_iff]
  refine first_all.2 fun t ht => ?_
  have := hf (kt t) (by rw [← hk]; exact List.mem_map_of_mem ht)
  exact this
theorem fair_sign {b : UInt8} (h : faultOf ⟨3, mk [b], 0⟩ = 0) : faultOf ⟨((3 : Nat), mk [b]).1, ((3 : Nat), mk [b]).2, 0⟩ = 0 := h
theorem fair_line {s : ByteArray} {l : List Tok} (h : Line1 s l) : ∀ q ∈ l.map kt, faultOf ⟨q.1, q.2, 0⟩ = 0 := fun q hq => by
  obtain ⟨t, ht, rfl⟩ := List.mem_map.1 hq
  exact h.fair t ht
theorem join_fair (ha : Line1 a la) (hb : Line1 b lb) {op : UInt8} (ho : Good 3 (mk [op])) (hof : faultOf ⟨3, mk [op], 0⟩ = 0) (hz : (joinT a b op).length ≤ 16384) : lexBad (mk (joinT a b op)) = none := by
  refine fair_kt ((toks_K _).trans (K_join ha hb ho)) (by rw [mk_size]; exact hz) fun q hq => ?_
  simp only [List.mem_cons, List.mem_append, List.not_mem_nil, or_false] at hq
  have h40 : faultOf ⟨3, mk [40], 0⟩ = 0 := by decide +kernel
  have h41 : faultOf ⟨3, mk [41], 0⟩ = 0 := by decide +kernel
  have he : faultOf ⟨4, ByteArray.empty, 0⟩ = 0 := by decide +kernel
  rcases hq with rfl | h | rfl | rfl | rfl | h | rfl | rfl
  · exact h40
  · exact fair_line ha q h
  · exact h41
  · exact hof
  · exact h40
  · exact fair_line hb q h
  · exact h41
  · exact he
theorem deny_fair (ha : Line1 a la) (hz : (denyT a).length ≤ 16384) : lexBad (mk (denyT a)) = none := by
  refine fair_kt ((toks_K _).trans (K_deny ha)) (by rw [mk_size]; exact hz) fun q hq => ?_
  simp only [List.mem_cons, List.mem_append, List.not_mem_nil, or_false] at hq
  have h40 : faultOf ⟨3, mk [40], 0⟩ = 0 := by decide +kernel
  have h33 : faultOf ⟨3, mk [33], 0⟩ = 0 := by decide +kernel
  have h41 : faultOf ⟨3, mk [41], 0⟩ = 0 := by decide +kernel
  have he : faultOf ⟨4, ByteArray.empty, 0⟩ = 0 := by decide +kernel
  rcases hq with rfl | rfl | h | rfl | rfl
  · exact h33
  · exact h40
  · exact fair_line ha q h
  · exact h41
  · exact he
theorem line_kt {s : ByteArray} {l : List Tok} (h : Line1 s l) {i : Nat} (hi : i < l.length) : ∃ t, l[i]? = some t ∧ (pxOf s true).kind (0 + i) = t.kind ∧ (pxOf s true).text (0 + i) = t.text := by
  obtain ⟨e, he, _⟩ := h.all
  obtain ⟨t, ht⟩ : ∃ t, l[i]? = some t := ⟨_, List.getElem?_eq_getElem hi⟩
  have h1 : ((pxOf s true).ts.map kt)[0 + i]? = some (t.kind, t.text) := by
    rw [pxOf_ts, he, Nat.zero_add, List.getElem?_map, List.getElem?_append_left hi, ht]; rfl
  exact ⟨t, ht, (kind_at h1).1, (kind_at h1).2⟩
theorem both_of (ha : Line1 a la) (hb : Line1 b lb) {op : UInt8} (ho : Good 3 (mk [op])) : Both (pxOf a true) (pxOf b true) (pxOf (mk (joinT a b op)) true) la.length lb.length [op] := by
  have hk : (pxOf (mk (joinT a b op)) true).ts.map kt = (3, mk [40]) :: (la.map kt ++ ((3, mk [41]) :: (3, mk [op]) :: (3, mk [40]) :: (lb.map kt ++ [(3, mk [41]), (4, ByteArray.empty)]))) := by rw [pxOf_ts]; exact (toks_K _).trans (K_join ha hb ho)
  have hlen : (pxOf (mk (joinT a b op)) true).ts.length = la.length + lb.length + 6 := by
    have := congrArg List.length hk
    simp only [List.length_map, List.length_cons, List.length_append, List.length_nil] at this
    omega
  have hla : (pxOf a true).ts.length = la.length + 1 := by
    obtain ⟨e, he, _⟩ := ha.all
    rw [pxOf_ts, he]; simp
  have hlb : (pxOf b true).ts.length = lb.length + 1 := by
    obtain ⟨e, he, _⟩ := hb.all
    rw [pxOf_ts, he]; simp
  have hA : ∀ (P : List (Nat × ByteArray)) (j : Nat), ((3, mk [40]) :: (la.map kt ++ P))[la.length + 1 + j]? = P[j]? := fun P j => by
    rw [show la.length + 1 + j = (la.length + j) + 1 by omega, List.getElem?_cons_succ, List.getElem?_append_right (by rw [List.length_map]; omega), List.length_map, show la.length + j - la.length = j by omega]
  have hB : ∀ (P : List (Nat × ByteArray)) (j : Nat), (lb.map kt ++ P)[lb.length + j]? = P[j]? := fun P j => by
    rw [List.getElem?_append_right (by rw [List.length_map]; omega), List.length_map, show lb.length + j - lb.length = j by omega]
  have hB0 : ∀ (P : List (Nat × ByteArray)), (lb.map kt ++ P)[lb.length]? = P[0]? := fun P => hB P 0
  refine ⟨⟨is_at (by rw [hk]; rfl), fun i hi => ?_, fun i hi => ?_, is_at (by rw [hk, show 0 + 1 + la.length = la.length + 1 + 0 by omega, hA]; rfl), (rfl : true = true), by omega⟩, is_at (by rw [hk, show la.length + 2 = la.length + 1 + 1 by omega, hA]; rfl),
    ⟨is_at (by rw [hk, show la.length + 3 = la.length + 1 + 2 by omega, hA]; rfl), fun i hi => ?_, fun i hi => ?_, is_at (by rw [hk, show la.length + 3 + 1 + lb.length = la.length + 1 + (lb.length + 3) by omega, hA, List.getElem?_cons_succ, List.getElem?_cons_succ, List.getElem?_cons_succ, hB0]; rfl), (rfl : true = true), by omega⟩,
    (kind_at (x := ByteArray.empty) (by rw [hk, show la.length + lb.length + 5 = la.length + 1 + (lb.length + 1 + 3) by omega, hA, List.getElem?_cons_succ, List.getElem?_cons_succ, List.getElem?_cons_succ, hB]; rfl)).1, hlen⟩
  · obtain ⟨t, h1, h2, h3⟩ := line_kt ha hi
    have h4 : ((pxOf (mk (joinT a b op)) true).ts.map kt)[0 + 1 + i]? = some (t.kind, t.text) := by
      rw [hk, show 0 + 1 + i = i + 1 by omega, List.getElem?_cons_succ, List.getElem?_append_left (by rw [List.length_map]; exact hi), List.getElem?_map, h1]; rfl
    rw [(kind_at h4).1, h2]
  · obtain ⟨t, h1, h2, h3⟩ := line_kt ha hi
    have h4 : ((pxOf (mk (joinT a b op)) true).ts.map kt)[0 + 1 + i]? = some (t.kind, t.text) := by
      rw [hk, show 0 + 1 + i = i + 1 by omega, List.getElem?_cons_succ, List.getElem?_append_left (by rw [List.length_map]; exact hi), List.getElem?_map, h1]; rfl
    rw [(kind_at h4).2, h3]
  · obtain ⟨t, h1, h2, h3⟩ := line_kt hb hi
    have h4 : ((pxOf (mk (joinT a b op)) true).ts.map kt)[la.length + 3 + 1 + i]? = some (t.kind, t.text) := by
      rw [hk, show la.length + 3 + 1 + i = la.length + 1 + (i + 3) by omega, hA, List.getElem?_cons_succ, List.getElem?_cons_succ, List.getElem?_cons_succ, List.getElem?_append_left (by rw [List.length_map]; exact hi), List.getElem?_map, h1]; rfl
    rw [(kind_at h4).1, h2]
  · obtain ⟨t, h1, h2, h3⟩ := line_kt hb hi
    have h4 : ((pxOf (mk (joinT a b op)) true).ts.map kt)[la.length + 3 + 1 + i]? = some (t.kind, t.text) := by
      rw [hk, show la.length + 3 + 1 + i = la.length + 1 + (i + 3) by omega, hA, List.getElem?_cons_succ, List.getElem?_cons_succ, List.getElem?_cons_succ, List.getElem?_append_left (by rw [List.length_map]; exact hi), List.getElem?_map, h1]; rfl
    rw [(kind_at h4).2, h3]
theorem denied_of (ha : Line1 a la) : Denied (pxOf a true) (pxOf (mk (denyT a)) true) la.length := by
  have hk : (pxOf (mk (denyT a)) true).ts.map kt = (3, mk [33]) :: (3, mk [40]) :: (la.map kt ++ [(3, mk [41]), (4, ByteArray.empty)]) := by rw [pxOf_ts]; exact (toks_K _).trans (K_deny ha)
  have hlen : (pxOf (mk (denyT a)) true).ts.length = la.length + 4 := by
    have := congrArg List.length hk
    simp only [List.length_map, List.length_cons, List.length_append, List.length_nil] at this
    omega
  have hla : (pxOf a true).ts.length = la.length + 1 := by
    obtain ⟨e, he, _⟩ := ha.all
    rw [pxOf_ts, he]; simp
  have hA : ∀ (P : List (Nat × ByteArray)) (j : Nat), ((3, mk [33]) :: (3, mk [40]) :: (la.map kt ++ P))[la.length + 2 + j]? = P[j]? := fun P j => by
    rw [show la.length + 2 + j = (la.length + j) + 1 + 1 by omega, List.getElem?_cons_succ, List.getElem?_cons_succ, List.getElem?_append_right (by rw [List.length_map]; omega), List.length_map, show la.length + j - la.length = j by omega]
  refine ⟨is_at (by rw [hk]; rfl), ⟨is_at (by rw [hk]; rfl), fun i hi => ?_, fun i hi => ?_, is_at (by rw [hk, show 1 + 1 + la.length = la.length + 2 + 0 by omega, hA]; rfl), (rfl : true = true), by omega⟩,
    (kind_at (x := ByteArray.empty) (by rw [hk, show la.length + 3 = la.length + 2 + 1 by omega, hA]; rfl)).1, hlen⟩
  · obtain ⟨t, h1, h2, h3⟩ := line_kt ha hi
    have h4 : ((pxOf (mk (denyT a)) true).ts.map kt)[1 + 1 + i]? = some (t.kind, t.text) := by
      rw [hk, show 1 + 1 + i = i + 1 + 1 by omega, List.getElem?_cons_succ, List.getElem?_cons_succ, List.getElem?_append_left (by rw [List.length_map]; exact hi), List.getElem?_map, h1]; rfl
    rw [(kind_at h4).1, h2]
  · obtain ⟨t, h1, h2, h3⟩ := line_kt ha hi
    have h4 : ((pxOf (mk (denyT a)) true).ts.map kt)[1 + 1 + i]? = some (t.kind, t.text) := by
      rw [hk, show 1 + 1 + i = i + 1 + 1 by omega, List.getElem?_cons_succ, List.getElem?_cons_succ, List.getElem?_append_left (by rw [List.length_map]; exact hi), List.getElem?_map, h1]; rfl
    rw [(kind_at h4).2, h3]
end
/-- Valid conditions joined. -/
theorem cond_in {a : ByteArray} {ns : List ByteArray} {x : Cnd} (h : condT a ns = .inr x) : ∃ k l, CondIs (pxOf a true) ns x k ∧ l.length = k ∧ Line1 a l ∧ lexBad a = none := by
  obtain ⟨hl, t, ht⟩ := runR_inr h
  obtain ⟨k, hc⟩ := condIs rfl ht
  obtain ⟨l, h1, h2⟩ := line_of hl hc
  exact ⟨k, l, hc, h1, h2, hl⟩
theorem join_len (a b : ByteArray) (op : UInt8) (h : a.size + b.size ≤ 4000) : (joinT a b op).length ≤ 16384 := by
  have h1 := words_size a
  have h2 := words_size b
  unfold joinT
  simp only [List.length_cons, List.length_append, List.length_nil]
  omega
theorem deny_len (a : ByteArray) (h : a.size ≤ 4000) : (denyT a).length ≤ 16384 := by
  have h1 := words_size a
  unfold denyT
  simp only [List.length_cons, List.length_append, List.length_nil]
  omega
theorem join_cond {a b : ByteArray} {ns : List ByteArray} {x y : Cnd} (ha : condT a ns = .inr x) (hb : condT b ns = .inr y) (hz : a.size + b.size ≤ 4000) :
    (condT (mk (joinT a b 38)) ns = if 20 < depC (.mk 3 0 0 0 [x, y]) then .inl ((pxOf (mk (joinT a b 38)) true).place 0, 5) else .inr (.mk 3 0 0 0 [x, y])) ∧ (condT (mk (joinT a b 124)) ns = if 20 < depC (.mk 4 0 0 0 [x, y]) then .inl ((pxOf (mk (joinT a b 124)) true).place 0, 5) else .inr (.mk 4 0 0 0 [x, y])) := by
  obtain ⟨k, la, hc, rfl, hla, _⟩ := cond_in ha
  obtain ⟨m, lb, hd, rfl, hlb, _⟩ := cond_in hb
  have f1 := join_fair hla hlb good_and (by decide +kernel) (join_len a b 38 hz)
  have f2 := join_fair hla hlb good_or (by decide +kernel) (join_len a b 124 hz)
  have c1 := both_cond hc hd (both_of hla hlb good_and)
  have c2 := either_cond hc hd (both_of hla hlb good_or)
  unfold condT
  refine ⟨?_, ?_⟩
  · split
    next h => rw [if_pos h] at c1; exact runR_no f1 c1
    next h => rw [if_neg h] at c1; exact runR_ok f1 c1
  · split
    next h => rw [if_pos h] at c2; exact runR_no f2 c2
    next h => rw [if_neg h] at c2; exact runR_ok f2 c2
theorem deny_cond {a : ByteArray} {ns : List ByteArray} {x : Cnd} (ha : condT a ns = .inr x) (hz : a.size ≤ 4000) :
    condT (mk (denyT a)) ns = if 20 < depC (.mk 5 0 0 0 [x]) then .inl ((pxOf (mk (denyT a)) true).place 0, 5) else .inr (.mk 5 0 0 0 [x]) := by
  obtain ⟨k, la, hc, rfl, hla, _⟩ := cond_in ha
  have f1 := deny_fair hla (deny_len a hz)
  have c1 := not_cond hc (denied_of hla)
  unfold condT
  split
  next h => rw [if_pos h] at c1; exact runR_no f1 c1
  next h => rw [if_neg h] at c1; exact runR_ok f1 c1
theorem cond_deep {a : ByteArray} {ns : List ByteArray} {x : Cnd} (ha : condT a ns = .inr x) : depC x ≤ 20 := by
  obtain ⟨k, la, hc, _⟩ := cond_in ha
  exact hc.deep
/-! ### typed -/
theorem bStrAdd {P : Go.Program} {t : TypeId} {x y : Operand} {a b : ByteArray} (h : a.size + b.size ≤ 9223372036854775807) : BinR P .add t x y (.string a) (.string b) (.string (a ++ b)) := fun w => by
  have h0 : (eqGuard .add t x y (.string a) (.string b)).run P w = .ok () w := by simp [eqGuard, go_sem]
  simp only [Sem.run_bind, h0, Result.andThen_ok, binOp_string_add]
  exact run_string_add_sum w a b h
theorem words_take (s : ByteArray) (i : Nat) : (wordsT ((toks s).take i)).length ≤ 4 * s.size := by
  have h := words_size s
  rw [← List.take_append_drop i (toks s), wordsT_append, List.length_append] at h
  omega
theorem typedW_any {W w0 : World} {rs : List Res} (s : ByteArray) (hs : s.size ≤ maxLen) (hl : lexBad s = none) (H : Own W none w0 rs) : Calls Try.prog 14 #[.string s] w0 fun e w' => e = .returned (.string (mk (wordsT (toks s)))) ∧ Own W none w' rs := by
  have htl := toks_len s
  have hsl := lexBad_sizeP hl
  refine enterF Try.func14 rfl Try.ntmps14 rfl (fun a F => ?_)
  refine cSeq (fun K1 hK1 => ?_)
  refine cReg ?_
  refine sAs F rfl rfl rfl ?_;clear F a;intro a F
  refine sNil ?_
  refine hK1 _ _ ?_; clear hK1
  refine cSeq (fun K2 hK2 => ?_)
  refine cReg ?_
  refine sMv F rfl rfl rfl ?_;clear F a;intro a F
  refine sCall Try.call16 F rfl rfl rfl (lex_own s hs H) ?_
  rintro e w ⟨A, n, C, pe, er, S, rows, rfl, H, _, hlx⟩
  obtain ⟨rfl, rfl, _, rfl, rfl⟩ : er = 0 ∧ pe = 0 ∧ lexBad s = none ∧ n = (toks s).length ∧ rows = rowsT (toks s) := by
    rcases hlx with h | ⟨_, h⟩
    · exact h
    · rw [hl] at h; cases h
  have hz : (0 : Nat) = 0 := rfl
  refine ⟨_, rfl, ?_⟩
  clear F a; intro a F
  refine sMv F rfl rfl rfl ?_;clear F a;intro a F
  refine sExt F rfl rfl rfl rfl ?_;clear F a;intro a F
  refine sExt F rfl rfl rfl rfl ?_;clear F a;intro a F
  refine sExt F rfl rfl rfl rfl ?_;clear F a;intro a F
  refine sAs F rfl rfl rfl ?_;clear F a;intro a F
  refine sAs F rfl rfl rfl ?_;clear F a;intro a F
  refine sAs F rfl rfl rfl ?_;clear F a;intro a F
  refine sNil ?_
  refine hK2 _ _ ?_; clear hK2
  refine cSeq (fun K3 hK3 => ?_)
  refine cReg ?_
  refine sAs F rfl rfl rfl ?_;clear F a;intro a F
  refine sNil ?_
  refine hK3 _ _ ?_; clear hK3
  refine cSeq (fun K4 hK4 => ?_)
  refine cSeq (fun K5 hK5 => ?_)
  refine cReg ?_
  refine sAs F rfl rfl rfl ?_;clear F a;intro a F
  refine sNil ?_
  refine hK5 _ _ ?_; clear hK5
  refine wp_block ?_
  refine cLoopR [3] (fun m ups w => ∃ i : Nat, m = (toks s).length - i ∧ ups = [(6, .string (mk (wordsT ((toks s).take i)))), (7, .int .i64 ((i : Nat) : Int))] ∧ i ≤ (toks s).length ∧ Own W none w (.held S A 3 (rowsT (toks s)) :: rs)) F ((toks s).length) [(6, .string (mk (wordsT ((toks s).take 0)))), (7, .int .i64 ((0 : Nat) : Int))] (by repeat (first | exact SubR.nil | (apply SubR.cons; · rfl))) ?_ ?_ ?_
  · exact ⟨0, rfl, rfl, Nat.zero_le _, H⟩
  · repeat (first | exact trivial | refine Le.cons rfl ?_)
  clear F
  clear H
  intro m ups a w hI F
  obtain ⟨i, rfl, rfl, hi, H⟩ := hI
  refine cSeq (fun K6 hK6 => ?_)
  refine cSeq (fun K7 hK7 => ?_)
  refine cReg ?_
  refine sMv F rfl rfl rfl ?_;clear F a;intro a F
  refine sMv F rfl rfl rfl ?_;clear F a;intro a F
  refine sLen Try.underlying48 F rfl rfl rfl ?_;clear F a;intro a F
  refine sBin F rfl rfl rfl rfl bLss ?_;clear F a;intro a F
  refine sNil ?_
  refine hK7 _ _ ?_; clear hK7
  refine cIf F rfl (fun h17 => ?_) (fun h17 => ?_)
  ·
   replace h17 := of_decide_eq_true h17
   obtain ⟨x, hx⟩ : ∃ x, (toks s)[i]? = some x := ⟨_, List.getElem?_eq_getElem (by omega)⟩
   obtain ⟨tb, to, rfl, _⟩ := H.held 0 rfl i _ (rowsT_get hx)
   refine wp_skip ?_
   refine hK6 _ _ ?_; clear hK6
   refine cSeq (fun K8 hK8 => ?_)
   refine wp_block ?_
   refine cReg ?_
   refine sMv F rfl rfl rfl ?_;clear F a;intro a F
   refine sBin F rfl rfl rfl rfl (bStrAdd (by rw [mk_size]; have := words_take s i; have e1 : (⟨#[32]⟩ : ByteArray).size = 1 := rfl; omega)) ?_;clear F a;intro a F
   refine sMv F rfl rfl rfl ?_;clear F a;intro a F
   refine sMv F rfl rfl rfl ?_;clear F a;intro a F
   refine sIx Try.underlying48 Try.sizeOf69 F rfl rfl rfl rfl ?_ ?_
   focus (first | omega | decide | (simp; omega))
   clear F a; intro a F
   refine sFa (f := 1) Try.underlying69 rfl Try.sizeOf9 rfl rfl F rfl rfl rfl ?_;clear F a;intro a F
   refine sLd Try.isAgg9 F rfl rfl rfl ((heldRow H 0 rfl (rowsT_get hx)) 1 _ rfl) ?_;clear F a;intro a F
   refine sBin F rfl rfl rfl rfl (bStrAdd (by have := (toksF_ok (Nat.zero_le _) x (List.mem_of_getElem? hx)).1; have := words_take s i; rw [ByteArray.size_append, mk_size]; have e1 : (⟨#[32]⟩ : ByteArray).size = 1 := rfl; omega)) ?_;clear F a;intro a F
   refine sAs F rfl rfl rfl ?_;clear F a;intro a F
   refine sNil ?_
   refine hK8 _ _ ?_; clear hK8
   refine cReg ?_
   refine sMv F rfl rfl rfl ?_;clear F a;intro a F
   refine sBin F rfl rfl rfl rfl (bAddN (j := 1) ?_) ?_
   focus omega
   clear F a; intro a F
   refine sAs F rfl rfl rfl ?_;clear F a;intro a F
   refine sNil ?_
   have hst : (mk (wordsT ((toks s).take i)) ++ ⟨#[32]⟩) ++ x.text = mk (wordsT ((toks s).take (i + 1))) := by
     obtain ⟨hlt, hxe⟩ := List.getElem?_eq_some_iff.1 hx
     rw [List.take_succ_eq_append_getElem hlt, hxe, wordsT_append, mk_append]
     show _ = _ ++ mk (32 :: (x.text.data.toList ++ []))
     rw [List.append_nil, show 32 :: x.text.data.toList = [32] ++ x.text.data.toList from rfl, mk_append, mk_data]
     rw [ByteArray.append_assoc]
     rfl
   rw [hst] at F
   exact ⟨_, by omega, _, ⟨i + 1, rfl, rfl, by omega, H⟩, F.to (by repeat (first | exact trivial | refine Le.cons rfl ?_))⟩
  replace h17 := of_decide_eq_false h17
  have hil : i = (toks s).length := by omega
  subst hil
  refine wp_exit ?_
  refine hK4 _ _ ?_; clear hK4
  refine cSeq (fun K9 hK9 => ?_)
  refine cReg ?_
  refine sMv F rfl rfl rfl ?_;clear F a;intro a F
  refine sAs F rfl rfl rfl ?_;clear F a;intro a F
  refine sNil ?_
  refine hK9 _ _ ?_; clear hK9
  refine wp_ret ?_
  refine bRet Try.results14 F rfl ?_
  exact ⟨by rw [List.take_length], H.tail⟩
end Go.Proofs.Ytbdjlmdejlklkaa

namespace Go.Proofs.Ytbdjlmdejlklkaa
open Go.RowKit
set_option maxRecDepth 100000
theorem pcond_in {r : (Nat × Int) ⊕ Cnd} {x y : Cnd} {pl : Nat} {er : Int} (h : ParsedAs (.mk 0 0 0 0 []) r x pl er) (hq : r = .inr y) : x = y ∧ pl = 0 ∧ er = 0 := by
  rcases h with ⟨h1, _⟩ | ⟨h1, h2, h3⟩
  · rw [hq] at h1; cases h1
  · rw [hq] at h1; cases h1; exact ⟨rfl, h2, h3⟩
theorem pcond_out {r : (Nat × Int) ⊕ Cnd} {x : Cnd} {pl : Nat} {er : Int} {pf : Nat × Int} (h : ParsedAs (.mk 0 0 0 0 []) r x pl er) (hq : r = .inl pf) : er = pf.2 := by
  rcases h with ⟨h1, h2, h3⟩ | ⟨h1, _⟩
  · rw [hq] at h1; cases h1; rfl
  · rw [hq] at h1; cases h1
/-- Two conditions as the rows of a new block are the kids of a condition. -/
theorem two_at {w : World} {b h : Nat} {k : UInt8} {c1 c2 : List Value} {x y : Cnd} (h1 : w.rangeAt b 0 (c1 ++ c2)) (l1 : c1.length = 5) (hx : CondAt w h c1 x) (hy : CondAt w h c2 y) : CondAt w (h + 1) [b8 k, b8 0, b8 0, b8 0, .slice (some ⟨b, 0, none⟩) 2 2] (.mk k 0 0 0 [x, y]) := by
  refine ⟨some ⟨b, 0, none⟩, 2, rfl, (show 2 ≤ 9223372036854775807 by decide), fun j kid hj => ?_⟩
  match j with
  | 0 => cases hj; exact ⟨b, 0, c1, rfl, fun i v hi => by have := h1 i v (by rw [List.getElem?_append_left (by have := (List.getElem?_eq_some_iff.1 hi).1; omega)]; exact hi); simpa using this, hx⟩
  | 1 => cases hj; exact ⟨b, 0, c2, rfl, fun i v hi => by have := h1 (5 + i) v (by rw [List.getElem?_append_right (by omega), l1, show 5 + i - 5 = i by omega]; exact hi); simpa [Nat.add_assoc] using this, hy⟩
  | j + 2 => simp at hj
theorem one_at5 {w : World} {b h : Nat} {k : UInt8} {c1 : List Value} {x : Cnd} (h1 : w.rangeAt b 0 c1) (hx : CondAt w h c1 x) : CondAt w (h + 1) [b8 k, b8 0, b8 0, b8 0, .slice (some ⟨b, 0, none⟩) 1 1] (.mk k 0 0 0 [x]) := by
  refine ⟨some ⟨b, 0, none⟩, 1, rfl, (show 1 ≤ 9223372036854775807 by decide), fun j kid hj => ?_⟩
  match j with
  | 0 => cases hj; exact ⟨b, 0, c1, rfl, fun i v hi => by simpa using h1 i v hi, hx⟩
  | j + 1 => simp at hj
theorem bAddQ {P : Go.Program} {t : TypeId} {x y : Operand} {n m : Int} : BinR P .add t x y (.int .i64 n) (.int .i64 m) (.int .i64 (IntKind.i64.wrap (n + m))) := fun w => by
  have : (do eqGuard .add t x y (.int .i64 n) (.int .i64 m); binOp .add t (.int .i64 n) (.int .i64 m) : Sem Value).run P w = .ok (.int .i64 (IntKind.i64.wrap (n + m))) w := by simp [eqGuard, binOp, Op.intArith, go_sem]
  exact this
theorem wrapQ {n : Int} (h1 : -9223372036854775808 ≤ n) (h2 : n ≤ 9223372036854775807) : IntKind.i64.wrap n = n := by
  simp [IntKind.wrap, IntKind.signed, IntKind.bits, IntKind.min, IntKind.max]
  omega
theorem treeUp {S : Nat → Prop} {w : World} {a h : Nat} {cs : List Value} {x : Cnd} (hc : TreeIn S w a cs x) (hle : a ≤ h) : CondAt w h cs x := by
  obtain ⟨d, rfl⟩ := Nat.exists_eq_add_of_le hle
  exact (hc.deeper d).at
theorem dep_one (k : UInt8) (x : Cnd) : depC (.mk k 0 0 0 [x]) = depC x + 1 := by simp [depC, depC.depL]
theorem dep_two (k : UInt8) (x y : Cnd) : depC (.mk k 0 0 0 [x, y]) = max (depC x) (depC y) + 1 := by simp [depC, depC.depL]
theorem sameC_any {h h2 : Nat} {cs1 cs2 : List Value} {c d : Cnd} {w0 : World} (hc : CondAt w0 h cs1 c) (hd : CondAt w0 h2 cs2 d) (e : c = d) : Calls Try.prog 15 #[.agg cs1.toArray, .agg cs2.toArray] w0 fun e w' => e = .returned (.bool true) ∧ Below w0.heap.size w0 w' := by
  subst e
  exact sameCond_any h h2 cs1 cs2 c w0 hc hd
theorem join_eq (a b : ByteArray) (op : UInt8) : (((⟨#[40]⟩ ++ mk (wordsT (toks a))) ++ ⟨#[41, 32, op, 32, 40]⟩) ++ mk (wordsT (toks b))) ++ ⟨#[41]⟩ = mk (joinT a b op) := by
  unfold joinT
  rw [show 40 :: (wordsT (toks a) ++ (41 :: 32 :: op :: 32 :: 40 :: (wordsT (toks b) ++ [41]))) = ((([40] ++ wordsT (toks a)) ++ [41, 32, op, 32, 40]) ++ wordsT (toks b)) ++ [41] by simp, mk_append, mk_append, mk_append, mk_append]
  rfl
theorem deny_eq (a : ByteArray) : (⟨#[33, 32, 40]⟩ ++ mk (wordsT (toks a))) ++ ⟨#[41]⟩ = mk (denyT a) := by
  unfold denyT
  rw [show 33 :: 32 :: 40 :: (wordsT (toks a) ++ [41]) = ([33, 32, 40] ++ wordsT (toks a)) ++ [41] by simp, mk_append, mk_append]
  rfl
set_option maxHeartbeats 32000000 in
theorem parseJoins_any (ta tb : ByteArray) (A : Option Addr) (C : Nat) (names : List ByteArray) (w0 : World) (ha : ta.size ≤ maxLen) (hb : tb.size ≤ maxLen) (hN : StrsAt w0 A names) (hnm : names.length ≤ maxLen) : Calls Try.prog 5 #[.string ta, .string tb, .slice A names.length C] w0 fun e w' => e = .returned (.bool true) ∧ Below w0.heap.size w0 w' := by
  have H := Own.start w0 none
  have e40 : (⟨#[40]⟩ : ByteArray).size = 1 := rfl
  have e41 : (⟨#[41]⟩ : ByteArray).size = 1 := rfl
  have e38 : (⟨#[41, 32, 38, 32, 40]⟩ : ByteArray).size = 5 := rfl
  have e124 : (⟨#[41, 32, 124, 32, 40]⟩ : ByteArray).size = 5 := rfl
  have e33 : (⟨#[33, 32, 40]⟩ : ByteArray).size = 3 := rfl
  unfold maxLen at ha hb hnm
  refine enterF Try.func5 rfl Try.ntmps5 rfl (fun a F => ?_)
  refine cSeq (fun K1 hK1 => ?_)
  refine cReg ?_
  refine sAs F rfl rfl rfl ?_;clear F a;intro a F
  refine sNil ?_
  refine hK1 _ _ ?_; clear hK1
  refine cSeq (fun K2 hK2 => ?_)
  refine cSeq (fun K3 hK3 => ?_)
  refine cReg ?_
  refine sCall Try.call8 F rfl rfl rfl (awake5_any _) ?_
  rintro e w ⟨rfl, hb⟩
  replace H := H.grow hb; clear hb
  refine ⟨_, rfl, ?_⟩
  clear F a; intro a F
  refine sNot F rfl rfl rfl ?_;clear F a;intro a F
  refine sNil ?_
  refine hK3 _ _ ?_; clear hK3
  refine cIf F rfl (fun h29 => ?_) (fun h29 => ?_)
  ·
   replace h29 := notT h29
   cases h29
  replace h29 := notF h29
  refine wp_skip ?_
  refine hK2 _ _ ?_; clear hK2
  refine cSeq (fun K4 hK4 => ?_)
  refine cSeq (fun K5 hK5 => ?_)
  refine cReg ?_
  refine sMv F rfl rfl rfl ?_;clear F a;intro a F
  refine sLenS Try.underlying9 F rfl rfl rfl ?_;clear F a;intro a F
  refine sMv F rfl rfl rfl ?_;clear F a;intro a F
  refine sLenS Try.underlying9 F rfl rfl rfl ?_;clear F a;intro a F
  refine sBin F rfl rfl rfl rfl bAddQ ?_;clear F a;intro a F
  refine sBin F rfl rfl rfl rfl bGtr ?_;clear F a;intro a F
  refine sMv F rfl rfl rfl ?_;clear F a;intro a F
  refine F.split 36 rfl ?_ ?_ <;> (clear F; intro h36 F)
  ·
   replace h36 := of_decide_eq_true h36
   refine sSk F rfl rfl ?_;clear F a;intro a F
   refine sSk F rfl rfl ?_;clear F a;intro a F
   refine sSk F rfl rfl ?_;clear F a;intro a F
   refine sPk F rfl rfl rfl rfl ?_;clear F a;intro a F
   refine sNil ?_
   refine hK5 _ _ ?_; clear hK5
   refine cIfT F rfl ?_
   refine cSeq (fun K6 hK6 => ?_)
   refine cReg ?_
   refine sAs F rfl rfl rfl ?_;clear F a;intro a F
   refine sNil ?_
   refine hK6 _ _ ?_; clear hK6
   refine wp_ret ?_
   simp only [Exit.then]
   refine bRet Try.results5 F rfl ?_
   first | exact ⟨rfl, H.below⟩ | exact ⟨retB (by rw [hd1]; simp), H.below⟩ | exact ⟨retB (by rw [hd1]; exact beq_self_eq_true _), H.below⟩
  replace h36 := of_decide_eq_false h36
  refine sMv F rfl rfl rfl ?_;clear F a;intro a F
  refine sLen Try.underlying29 F rfl rfl rfl ?_;clear F a;intro a F
  refine sBin F rfl rfl rfl rfl bGtr ?_;clear F a;intro a F
  refine sPk F rfl rfl rfl rfl ?_;clear F a;intro a F
  refine sNil ?_
  refine hK5 _ _ ?_; clear hK5
  refine cIf F rfl (fun h40 => ?_) (fun h40 => ?_)
  ·
   replace h40 := of_decide_eq_true h40
   refine cSeq (fun K7 hK7 => ?_)
   refine cReg ?_
   refine sAs F rfl rfl rfl ?_;clear F a;intro a F
   refine sNil ?_
   refine hK7 _ _ ?_; clear hK7
   refine wp_ret ?_
   simp only [Exit.then]
   refine bRet Try.results5 F rfl ?_
   first | exact ⟨rfl, H.below⟩ | exact ⟨retB (by rw [hd1]; simp), H.below⟩ | exact ⟨retB (by rw [hd1]; exact beq_self_eq_true _), H.below⟩
  replace h40 := of_decide_eq_false h40
  have hnl : names.length ≤ 500 := by omega
  refine wp_skip ?_
  refine hK4 _ _ ?_; clear hK4
  refine cSeq (fun K8 hK8 => ?_)
  refine cReg ?_
  refine sMv F rfl rfl rfl ?_;clear F a;intro a F
  refine sMv F rfl rfl rfl ?_;clear F a;intro a F
  refine sCall Try.call13 F rfl rfl rfl (pcondT_any ta (by unfold maxLen; omega) hN (by omega) H) ?_
  rintro e w ⟨x, pl1, er1, x1, x2, x3, x4, XA, Xn, XC, SX, hX, rfl, hhX, H, hpX⟩
  refine ⟨_, rfl, ?_⟩
  clear F a; intro a F
  refine sMv F rfl rfl rfl ?_;clear F a;intro a F
  refine sExt F rfl rfl rfl rfl ?_;clear F a;intro a F
  refine sExt F rfl rfl rfl rfl ?_;clear F a;intro a F
  refine sExt F rfl rfl rfl rfl ?_;clear F a;intro a F
  refine sAl H Try.zeroValue24 F rfl rfl ?_
  clear F a H; intro b7 a w F H
  refine sSr H 0 ?si F rfl rfl rfl ?s1 rfl rfl ?_
  case si => exact info_size Try.sizeOf24
  case s1 => first | rfl | (repeat (first | exact one_nil | (apply one_cons; · first | rfl | assumption | exact one_bif rfl rfl)))
  clear H; intro w H
  refine sAs F rfl rfl rfl ?_;clear F a;intro a F
  refine sAs F rfl rfl rfl ?_;clear F a;intro a F
  refine sNil ?_
  refine hK8 _ _ ?_; clear hK8
  refine cSeq (fun K9 hK9 => ?_)
  refine cReg ?_
  refine sMv F rfl rfl rfl ?_;clear F a;intro a F
  refine sMv F rfl rfl rfl ?_;clear F a;intro a F
  refine sCall Try.call13 F rfl rfl rfl (pcondT_any tb (by unfold maxLen; omega) hN (by omega) H) ?_
  rintro e w ⟨y, pl2, er2, y1, y2, y3, y4, YA, Yn, YC, SY, hY, rfl, hhY, H, hpY⟩
  refine ⟨_, rfl, ?_⟩
  clear F a; intro a F
  refine sMv F rfl rfl rfl ?_;clear F a;intro a F
  refine sExt F rfl rfl rfl rfl ?_;clear F a;intro a F
  refine sExt F rfl rfl rfl rfl ?_;clear F a;intro a F
  refine sExt F rfl rfl rfl rfl ?_;clear F a;intro a F
  refine sAl H Try.zeroValue24 F rfl rfl ?_
  clear F a H; intro b10 a w F H
  refine sSr H 0 ?si F rfl rfl rfl ?s1 rfl rfl ?_
  case si => exact info_size Try.sizeOf24
  case s1 => first | rfl | (repeat (first | exact one_nil | (apply one_cons; · first | rfl | assumption | exact one_bif rfl rfl)))
  clear H; intro w H
  refine sAs F rfl rfl rfl ?_;clear F a;intro a F
  refine sAs F rfl rfl rfl ?_;clear F a;intro a F
  refine sNil ?_
  refine hK9 _ _ ?_; clear hK9
  refine cSeq (fun K10 hK10 => ?_)
  refine cSeq (fun K11 hK11 => ?_)
  refine cReg ?_
  refine sMv F rfl rfl rfl ?_;clear F a;intro a F
  refine sBin F rfl rfl rfl rfl bNeq ?_;clear F a;intro a F
  refine sMv F rfl rfl rfl ?_;clear F a;intro a F
  refine F.split 57 rfl ?_ ?_ <;> (clear F; intro h57 F)
  ·
   replace h57 := bneT h57
   refine sSk F rfl rfl ?_;clear F a;intro a F
   refine sSk F rfl rfl ?_;clear F a;intro a F
   refine sPk F rfl rfl rfl rfl ?_;clear F a;intro a F
   refine sNil ?_
   refine hK11 _ _ ?_; clear hK11
   refine cIfT F rfl ?_
   refine cSeq (fun K12 hK12 => ?_)
   refine cReg ?_
   refine sAs F rfl rfl rfl ?_;clear F a;intro a F
   refine sNil ?_
   refine hK12 _ _ ?_; clear hK12
   refine wp_ret ?_
   simp only [Exit.then]
   refine bRet Try.results5 F rfl ?_
   first | exact ⟨rfl, H.below⟩ | exact ⟨retB (by rw [hd1]; simp), H.below⟩ | exact ⟨retB (by rw [hd1]; exact beq_self_eq_true _), H.below⟩
  replace h57 := bneF h57
  have hx : condT ta names = .inr x := by
       rcases hpX with ⟨_, h, _⟩ | ⟨h, _⟩
       · exact absurd h57 h
       · exact h
  refine sMv F rfl rfl rfl ?_;clear F a;intro a F
  refine sBin F rfl rfl rfl rfl bNeq ?_;clear F a;intro a F
  refine sPk F rfl rfl rfl rfl ?_;clear F a;intro a F
  refine sNil ?_
  refine hK11 _ _ ?_; clear hK11
  refine cIf F rfl (fun h60 => ?_) (fun h60 => ?_)
  ·
   replace h60 := bneT h60
   refine cSeq (fun K13 hK13 => ?_)
   refine cReg ?_
   refine sAs F rfl rfl rfl ?_;clear F a;intro a F
   refine sNil ?_
   refine hK13 _ _ ?_; clear hK13
   refine wp_ret ?_
   simp only [Exit.then]
   refine bRet Try.results5 F rfl ?_
   first | exact ⟨rfl, H.below⟩ | exact ⟨retB (by rw [hd1]; simp), H.below⟩ | exact ⟨retB (by rw [hd1]; exact beq_self_eq_true _), H.below⟩
  replace h60 := bneF h60
  have hy : condT tb names = .inr y := by
    rcases hpY with ⟨_, h, _⟩ | ⟨h, _⟩
    · exact absurd h60 h
    · exact h
  have dx := cond_deep hx
  have dy := cond_deep hy
  obtain ⟨_, _, _, _, _, hla⟩ := cond_in hx
  obtain ⟨_, _, _, _, _, hlb⟩ := cond_in hy
  have hsum : ta.size + tb.size ≤ 4000 := by
    have s1 := lexBad_sizeP hla
    have s2 := lexBad_sizeP hlb
    have h36b := h36
    rw [wrapQ (by omega) (by omega)] at h36b
    omega
  obtain ⟨hj1, hj2⟩ := join_cond hx hy hsum
  have hj3 := deny_cond hx (by omega)
  rw [dep_two] at hj1 hj2
  rw [dep_one] at hj3
  have hsa : (mk (wordsT (toks ta))).size ≤ 16000 := by rw [mk_size]; have := words_size ta; omega
  have hsb : (mk (wordsT (toks tb))).size ≤ 16000 := by rw [mk_size]; have := words_size tb; omega
  have hq1 : (((((⟨#[40]⟩ : ByteArray) ++ mk (wordsT (toks ta))) ++ ⟨#[41, 32, 38, 32, 40]⟩) ++ mk (wordsT (toks tb))) ++ ⟨#[41]⟩).size ≤ maxLen := by rw [join_eq, mk_size]; have := join_len ta tb 38 hsum; unfold maxLen; omega
  have hq2 : (((((⟨#[40]⟩ : ByteArray) ++ mk (wordsT (toks ta))) ++ ⟨#[41, 32, 124, 32, 40]⟩) ++ mk (wordsT (toks tb))) ++ ⟨#[41]⟩).size ≤ maxLen := by rw [join_eq, mk_size]; have := join_len ta tb 124 hsum; unfold maxLen; omega
  have hq3 : (((⟨#[33, 32, 40]⟩ : ByteArray) ++ mk (wordsT (toks ta))) ++ ⟨#[41]⟩).size ≤ maxLen := by rw [deny_eq, mk_size]; have := deny_len ta (by omega); unfold maxLen; omega
  refine wp_skip ?_
  refine hK10 _ _ ?_; clear hK10
  refine cSeq (fun K14 hK14 => ?_)
  refine cRegRO (by kernel_rfl) H ?_
  replace H := H.drew
  refine eTake (k := 0) (i := 0) rfl (by kernel_rfl) F rfl rfl rfl rfl (fun w H => rLr Try.underlying24 rfl ?si F rfl (H.whole 2 rfl)) H (fun _ _ _ h => h) ?_
  case si => exact info_size Try.sizeOf24
  clear F a; intro a F
  refine eTake (k := 1) (i := 2) rfl (by kernel_rfl) F rfl rfl rfl rfl (fun w H => rLr Try.underlying24 rfl ?si F rfl (H.whole 0 rfl)) H (fun _ _ _ h => h) ?_
  case si => exact info_size Try.sizeOf24
  clear F a; intro a F
  refine eOne (k := 2) (i := 1) rfl (by kernel_rfl) F rfl (oCall Try.call9 F rfl rfl (pdeep_any hX _ x _ (H.pred 3 _ rfl : TreeIn SX _ hX _ x).at (by omega)) ?_)
  rintro e w ⟨rfl, hb⟩
  replace H := H.grow hb; clear hb
  refine ⟨_, rfl, ?_⟩
  clear F a; intro a F
  refine eKeep H ?_
  refine eOne (k := 3) (i := 3) rfl (by kernel_rfl) F rfl (oCall Try.call9 F rfl rfl (pdeep_any hY _ y _ (H.pred 1 _ rfl : TreeIn SY _ hY _ y).at (by omega)) ?_)
  rintro e w ⟨rfl, hb⟩
  replace H := H.grow hb; clear hb
  refine ⟨_, rfl, ?_⟩
  clear F a; intro a F
  refine ePartO (by kernel_rfl) H ?_
  refine eTake (k := 4) (i := 4) rfl (by kernel_rfl) F rfl rfl rfl rfl (fun w H => rMaxN F rfl rfl) H (fun _ _ _ h => h) ?_;clear F a;intro a F
  refine eTakeF (k := 5) (i := 5) rfl (by kernel_rfl) F rfl rfl rfl (fun w => rBin F rfl rfl (bAddN (j := 1) ?_)) H (fun _ _ _ h => h) ?_
  focus omega
  clear F a; intro a F
  refine eTakeF (k := 6) (i := 6) rfl (by kernel_rfl) F rfl rfl rfl (fun w => rAs F rfl) H (fun _ _ _ h => h) ?_;clear F a;intro a F
  refine eNil (k := 7) (by kernel_rfl) ?_
  refine hK14 _ _ ?_; clear hK14
  refine cSeq (fun K15 hK15 => ?_)
  refine cReg ?_
  refine sMv F rfl rfl rfl ?_;clear F a;intro a F
  refine sCall Try.call14 F rfl rfl rfl (typedW_any ta (by unfold maxLen; omega) hla H) ?_
  rintro e w ⟨rfl, H⟩
  refine ⟨_, rfl, ?_⟩
  clear F a; intro a F
  refine sMv F rfl rfl rfl ?_;clear F a;intro a F
  refine sCall Try.call14 F rfl rfl rfl (typedW_any tb (by unfold maxLen; omega) hlb H) ?_
  rintro e w ⟨rfl, H⟩
  refine ⟨_, rfl, ?_⟩
  clear F a; intro a F
  refine sAs F rfl rfl rfl ?_;clear F a;intro a F
  refine sAs F rfl rfl rfl ?_;clear F a;intro a F
  refine sNil ?_
  refine hK15 _ _ ?_; clear hK15
  refine cSeq (fun K16 hK16 => ?_)
  refine cReg ?_
  refine sMv F rfl rfl rfl ?_;clear F a;intro a F
  refine sBin F rfl rfl rfl rfl (bStrAdd (by (try simp only [ByteArray.size_append]); omega)) ?_;clear F a;intro a F
  refine sBin F rfl rfl rfl rfl (bStrAdd (by (try simp only [ByteArray.size_append]); omega)) ?_;clear F a;intro a F
  refine sMv F rfl rfl rfl ?_;clear F a;intro a F
  refine sBin F rfl rfl rfl rfl (bStrAdd (by (try simp only [ByteArray.size_append]); omega)) ?_;clear F a;intro a F
  refine sBin F rfl rfl rfl rfl (bStrAdd (by (try simp only [ByteArray.size_append]); omega)) ?_;clear F a;intro a F
  refine sMv F rfl rfl rfl ?_;clear F a;intro a F
  refine sCall Try.call13 F rfl rfl rfl (pcondT_any _ hq1 hN (by omega) H) ?_
  rintro e w ⟨z1, pl3, er3, z11, z12, z13, z14, ZA1, Zn1, ZC1, SZ1, hZ1, rfl, hhZ1, H, hpZ1⟩
  rw [join_eq ta tb 38] at hpZ1
  refine ⟨_, rfl, ?_⟩
  clear F a; intro a F
  refine sMv F rfl rfl rfl ?_;clear F a;intro a F
  refine sExt F rfl rfl rfl rfl ?_;clear F a;intro a F
  refine sExt F rfl rfl rfl rfl ?_;clear F a;intro a F
  refine sExt F rfl rfl rfl rfl ?_;clear F a;intro a F
  refine sAl H Try.zeroValue24 F rfl rfl ?_
  clear F a H; intro b16 a w F H
  refine sSr H 0 ?si F rfl rfl rfl ?s1 rfl rfl ?_
  case si => exact info_size Try.sizeOf24
  case s1 => first | rfl | (repeat (first | exact one_nil | (apply one_cons; · first | rfl | assumption | exact one_bif rfl rfl)))
  clear H; intro w H
  refine sAs F rfl rfl rfl ?_;clear F a;intro a F
  refine sAs F rfl rfl rfl ?_;clear F a;intro a F
  refine sNil ?_
  refine hK16 _ _ ?_; clear hK16
  refine cSeq (fun K17 hK17 => ?_)
  refine cReg ?_
  refine sMv F rfl rfl rfl ?_;clear F a;intro a F
  refine sBin F rfl rfl rfl rfl (bStrAdd (by (try simp only [ByteArray.size_append]); omega)) ?_;clear F a;intro a F
  refine sBin F rfl rfl rfl rfl (bStrAdd (by (try simp only [ByteArray.size_append]); omega)) ?_;clear F a;intro a F
  refine sMv F rfl rfl rfl ?_;clear F a;intro a F
  refine sBin F rfl rfl rfl rfl (bStrAdd (by (try simp only [ByteArray.size_append]); omega)) ?_;clear F a;intro a F
  refine sBin F rfl rfl rfl rfl (bStrAdd (by (try simp only [ByteArray.size_append]); omega)) ?_;clear F a;intro a F
  refine sMv F rfl rfl rfl ?_;clear F a;intro a F
  refine sCall Try.call13 F rfl rfl rfl (pcondT_any _ hq2 hN (by omega) H) ?_
  rintro e w ⟨z2, pl4, er4, z21, z22, z23, z24, ZA2, Zn2, ZC2, SZ2, hZ2, rfl, hhZ2, H, hpZ2⟩
  rw [join_eq ta tb 124] at hpZ2
  refine ⟨_, rfl, ?_⟩
  clear F a; intro a F
  refine sMv F rfl rfl rfl ?_;clear F a;intro a F
  refine sExt F rfl rfl rfl rfl ?_;clear F a;intro a F
  refine sExt F rfl rfl rfl rfl ?_;clear F a;intro a F
  refine sExt F rfl rfl rfl rfl ?_;clear F a;intro a F
  refine sAl H Try.zeroValue24 F rfl rfl ?_
  clear F a H; intro b19 a w F H
  refine sSr H 0 ?si F rfl rfl rfl ?s1 rfl rfl ?_
  case si => exact info_size Try.sizeOf24
  case s1 => first | rfl | (repeat (first | exact one_nil | (apply one_cons; · first | rfl | assumption | exact one_bif rfl rfl)))
  clear H; intro w H
  refine sAs F rfl rfl rfl ?_;clear F a;intro a F
  refine sAs F rfl rfl rfl ?_;clear F a;intro a F
  refine sNil ?_
  refine hK17 _ _ ?_; clear hK17
  refine cSeq (fun K18 hK18 => ?_)
  refine cReg ?_
  refine sMv F rfl rfl rfl ?_;clear F a;intro a F
  refine sBin F rfl rfl rfl rfl (bStrAdd (by (try simp only [ByteArray.size_append]); omega)) ?_;clear F a;intro a F
  refine sBin F rfl rfl rfl rfl (bStrAdd (by (try simp only [ByteArray.size_append]); omega)) ?_;clear F a;intro a F
  refine sMv F rfl rfl rfl ?_;clear F a;intro a F
  refine sCall Try.call13 F rfl rfl rfl (pcondT_any _ hq3 hN (by omega) H) ?_
  rintro e w ⟨z3, pl5, er5, z31, z32, z33, z34, ZA3, Zn3, ZC3, SZ3, hZ3, rfl, hhZ3, H, hpZ3⟩
  rw [deny_eq ta] at hpZ3
  refine ⟨_, rfl, ?_⟩
  clear F a; intro a F
  refine sMv F rfl rfl rfl ?_;clear F a;intro a F
  refine sExt F rfl rfl rfl rfl ?_;clear F a;intro a F
  refine sExt F rfl rfl rfl rfl ?_;clear F a;intro a F
  refine sExt F rfl rfl rfl rfl ?_;clear F a;intro a F
  refine sAl H Try.zeroValue24 F rfl rfl ?_
  clear F a H; intro b22 a w F H
  refine sSr H 0 ?si F rfl rfl rfl ?s1 rfl rfl ?_
  case si => exact info_size Try.sizeOf24
  case s1 => first | rfl | (repeat (first | exact one_nil | (apply one_cons; · first | rfl | assumption | exact one_bif rfl rfl)))
  clear H; intro w H
  refine sAs F rfl rfl rfl ?_;clear F a;intro a F
  refine sAs F rfl rfl rfl ?_;clear F a;intro a F
  refine sNil ?_
  refine hK18 _ _ ?_; clear hK18
  refine cSeq (fun K19 hK19 => ?_)
  refine cReg ?_
  refine sLr Try.underlying24 rfl ?si F rfl rfl rfl (H.whole 8 rfl) ?_
  case si => exact info_size Try.sizeOf24
  clear F a; intro a F
  refine sLr Try.underlying24 rfl ?si F rfl rfl rfl (H.whole 6 rfl) ?_
  case si => exact info_size Try.sizeOf24
  clear F a; intro a F
  refine sBsR (rows := [[Go.Proofs.Ytbdjlmdejlklkaa.b8 x1, Go.Proofs.Ytbdjlmdejlklkaa.b8 x2, Go.Proofs.Ytbdjlmdejlklkaa.b8 x3, Go.Proofs.Ytbdjlmdejlklkaa.b8 x4, .slice XA Xn XC], [Go.Proofs.Ytbdjlmdejlklkaa.b8 y1, Go.Proofs.Ytbdjlmdejlklkaa.b8 y2, Go.Proofs.Ytbdjlmdejlklkaa.b8 y3, Go.Proofs.Ytbdjlmdejlklkaa.b8 y4, .slice YA Yn YC]]) H Try.underlying22 Try.sizeOf24 Try.zeroValue24 rfl F rfl rfl rfl rfl rfl ?_
  clear F a H; intro b106 a w F H
  refine sBd (places := [(0, 1), (1, 1), (2, 1), (3, 1), (4, 1)]) Try.zeroValue24 Try.underlying24 (by kernel_rfl) F rfl rfl rfl rfl ?_;clear F a;intro a F
  refine sAl H Try.zeroValue24 F rfl rfl ?_
  clear F a H; intro b25 a w F H
  refine sSr H 0 ?si F rfl rfl rfl ?s1 rfl rfl ?_
  case si => exact info_size Try.sizeOf24
  case s1 => first | rfl | (repeat (first | exact one_nil | (apply one_cons; · first | rfl | assumption | exact one_bif rfl rfl)))
  clear H; intro w H
  refine sNil ?_
  refine hK19 _ _ ?_; clear hK19
  refine cSeq (fun K20 hK20 => ?_)
  refine cReg ?_
  refine sLr Try.underlying24 rfl ?si F rfl rfl rfl (H.whole 10 rfl) ?_
  case si => exact info_size Try.sizeOf24
  clear F a; intro a F
  refine sLr Try.underlying24 rfl ?si F rfl rfl rfl (H.whole 8 rfl) ?_
  case si => exact info_size Try.sizeOf24
  clear F a; intro a F
  refine sBsR (rows := [[Go.Proofs.Ytbdjlmdejlklkaa.b8 x1, Go.Proofs.Ytbdjlmdejlklkaa.b8 x2, Go.Proofs.Ytbdjlmdejlklkaa.b8 x3, Go.Proofs.Ytbdjlmdejlklkaa.b8 x4, .slice XA Xn XC], [Go.Proofs.Ytbdjlmdejlklkaa.b8 y1, Go.Proofs.Ytbdjlmdejlklkaa.b8 y2, Go.Proofs.Ytbdjlmdejlklkaa.b8 y3, Go.Proofs.Ytbdjlmdejlklkaa.b8 y4, .slice YA Yn YC]]) H Try.underlying22 Try.sizeOf24 Try.zeroValue24 rfl F rfl rfl rfl rfl rfl ?_
  clear F a H; intro b110 a w F H
  refine sBd (places := [(0, 1), (1, 1), (2, 1), (3, 1), (4, 1)]) Try.zeroValue24 Try.underlying24 (by kernel_rfl) F rfl rfl rfl rfl ?_;clear F a;intro a F
  refine sAl H Try.zeroValue24 F rfl rfl ?_
  clear F a H; intro b26 a w F H
  refine sSr H 0 ?si F rfl rfl rfl ?s1 rfl rfl ?_
  case si => exact info_size Try.sizeOf24
  case s1 => first | rfl | (repeat (first | exact one_nil | (apply one_cons; · first | rfl | assumption | exact one_bif rfl rfl)))
  clear H; intro w H
  refine sNil ?_
  refine hK20 _ _ ?_; clear hK20
  refine cSeq (fun K21 hK21 => ?_)
  refine cReg ?_
  refine sLr Try.underlying24 rfl ?si F rfl rfl rfl (H.whole 12 rfl) ?_
  case si => exact info_size Try.sizeOf24
  clear F a; intro a F
  refine sBsA H Try.underlying22 Try.sizeOf24 Try.zeroValue24 rfl F rfl rfl rfl rfl rfl ?_
  clear F a H; intro b113 a w F H
  refine sBd (places := [(0, 1), (1, 1), (2, 1), (3, 1), (4, 1)]) Try.zeroValue24 Try.underlying24 (by kernel_rfl) F rfl rfl rfl rfl ?_;clear F a;intro a F
  refine sAl H Try.zeroValue24 F rfl rfl ?_
  clear F a H; intro b27 a w F H
  refine sSr H 0 ?si F rfl rfl rfl ?s1 rfl rfl ?_
  case si => exact info_size Try.sizeOf24
  case s1 => first | rfl | (repeat (first | exact one_nil | (apply one_cons; · first | rfl | assumption | exact one_bif rfl rfl)))
  clear H; intro w H
  refine sNil ?_
  refine hK21 _ _ ?_; clear hK21
  refine cSeq (fun K22 hK22 => ?_)
  refine cSeq (fun K23 hK23 => ?_)
  refine cReg ?_
  refine sLr Try.underlying24 rfl ?si F rfl rfl rfl (H.whole 14 rfl) ?_
  case si => exact info_size Try.sizeOf24
  clear F a; intro a F
  refine sCall Try.call9 F rfl rfl rfl (pdeep_any hX _ x _ (H.pred 15 _ rfl : TreeIn SX _ hX _ x).at (by omega)) ?_
  rintro e w ⟨rfl, hb⟩
  replace H := H.grow hb; clear hb
  refine ⟨_, rfl, ?_⟩
  clear F a; intro a F
  refine sBin F rfl rfl rfl rfl bLss ?_;clear F a;intro a F
  refine sMv F rfl rfl rfl ?_;clear F a;intro a F
  refine F.split 118 rfl ?_ ?_ <;> (clear F; intro h118 F)
  ·
   replace h118 := of_decide_eq_true h118
   rw [if_neg (by omega)] at hj3
   obtain ⟨hz3, rfl, rfl⟩ := pcond_in hpZ3 hj3
   refine sMv F rfl rfl rfl ?_;clear F a;intro a F
   refine sBin F rfl rfl rfl rfl bNeq ?_;clear F a;intro a F
   refine sMv F rfl rfl rfl ?_;clear F a;intro a F
   refine F.split 121 rfl ?_ ?_ <;> (clear F; intro h121 F)
   ·
    replace h121 := bneT h121
    exact absurd rfl h121
   replace h121 := bneF h121
   refine sLr Try.underlying24 rfl ?si F rfl rfl rfl (H.whole 6 rfl) ?_
   case si => exact info_size Try.sizeOf24
   clear F a; intro a F
   refine sLr Try.underlying24 rfl ?si F rfl rfl rfl (H.whole 0 rfl) ?_
   case si => exact info_size Try.sizeOf24
   clear F a; intro a F
   refine sCall Try.call15 F rfl rfl rfl (sameC_any (treeUp (H.pred 7 _ rfl : TreeIn SZ3 _ hZ3 _ z3) hhZ3) (one_at5 (k := 5) (H.whole 1 rfl) (treeUp (H.pred 15 _ rfl : TreeIn SX _ hX _ x) hhX)) hz3) ?_
   rintro e w ⟨rfl, hb⟩
   replace H := H.grow hb; clear hb
   refine ⟨_, rfl, ?_⟩
   clear F a; intro a F
   refine sNot F rfl rfl rfl ?_;clear F a;intro a F
   refine sPk F rfl rfl rfl rfl ?_;clear F a;intro a F
   refine sPk F rfl rfl rfl rfl ?_;clear F a;intro a F
   refine sMv F rfl rfl rfl ?_;clear F a;intro a F
   refine F.split 128 rfl ?_ ?_ <;> (clear F; intro h128 F)
   ·
    replace h128 := notT h128
    cases h128
   replace h128 := notF h128
   refine sLr Try.underlying24 rfl ?si F rfl rfl rfl (H.whole 14 rfl) ?_
   case si => exact info_size Try.sizeOf24
   clear F a; intro a F
   refine sCall Try.call9 F rfl rfl rfl (pdeep_any hX _ x _ (H.pred 15 _ rfl : TreeIn SX _ hX _ x).at (by omega)) ?_
   rintro e w ⟨rfl, hb⟩
   replace H := H.grow hb; clear hb
   refine ⟨_, rfl, ?_⟩
   clear F a; intro a F
   refine sBin F rfl rfl rfl rfl bEql ?_;clear F a;intro a F
   refine sMv F rfl rfl rfl ?_;clear F a;intro a F
   refine F.split 132 rfl ?_ ?_ <;> (clear F; intro h132 F)
   ·
    replace h132 := beqT h132
    omega
   replace h132 := beqF h132
   refine sSk F rfl rfl ?_;clear F a;intro a F
   refine sSk F rfl rfl ?_;clear F a;intro a F
   refine sPk F rfl rfl rfl rfl ?_;clear F a;intro a F
   refine sPk F rfl rfl rfl rfl ?_;clear F a;intro a F
   refine sNil ?_
   refine hK23 _ _ ?_; clear hK23
   refine cIfF F rfl ?_
   refine wp_skip ?_
   refine hK22 _ _ ?_; clear hK22
   refine cSeq (fun K24 hK24 => ?_)
   refine cSeq (fun K25 hK25 => ?_)
   refine cReg ?_
   refine sMv F rfl rfl rfl ?_;clear F a;intro a F
   refine sBin F rfl rfl rfl rfl bGtr ?_;clear F a;intro a F
   refine sNil ?_
   refine hK25 _ _ ?_; clear hK25
   refine cIf F rfl (fun h138 => ?_) (fun h138 => ?_)
   ·
    replace h138 := of_decide_eq_true h138
    rw [if_pos (by omega)] at hj1 hj2
    have he1 := pcond_out hpZ1 hj1
    have he2 := pcond_out hpZ2 hj2
    simp only at he1 he2
    subst he1 he2
    refine cSeq (fun K26 hK26 => ?_)
    refine cReg ?_
    refine sMv F rfl rfl rfl ?_;clear F a;intro a F
    refine sBin F rfl rfl rfl rfl bEql ?_;clear F a;intro a F
    refine sMv F rfl rfl rfl ?_;clear F a;intro a F
    refine F.split 141 rfl ?_ ?_ <;> (clear F; intro h141 F)
    ·
     replace h141 := beqT h141
     refine sMv F rfl rfl rfl ?_;clear F a;intro a F
     refine sBin F rfl rfl rfl rfl bEql ?_;clear F a;intro a F
     refine sPk F rfl rfl rfl rfl ?_;clear F a;intro a F
     refine sAs F rfl rfl rfl ?_;clear F a;intro a F
     refine sNil ?_
     refine hK26 _ _ ?_; clear hK26
     refine wp_ret ?_
     simp only [Exit.then]
     refine bRet Try.results5 F rfl ?_
     first | exact ⟨rfl, H.below⟩ | exact ⟨retB (by rw [hd1]; simp), H.below⟩ | exact ⟨retB (by rw [hd1]; exact beq_self_eq_true _), H.below⟩
    replace h141 := beqF h141
    exact absurd rfl h141
   replace h138 := of_decide_eq_false h138
   rw [if_neg (by omega)] at hj1 hj2
   obtain ⟨hz1, rfl, rfl⟩ := pcond_in hpZ1 hj1
   obtain ⟨hz2, rfl, rfl⟩ := pcond_in hpZ2 hj2
   have hd1 : depC z1 = max (depC x) (depC y) + 1 := by rw [hz1, dep_two]
   refine wp_skip ?_
   refine hK24 _ _ ?_; clear hK24
   refine cSeq (fun K27 hK27 => ?_)
   refine cReg ?_
   refine sMv F rfl rfl rfl ?_;clear F a;intro a F
   refine sBin F rfl rfl rfl rfl bEql ?_;clear F a;intro a F
   refine sMv F rfl rfl rfl ?_;clear F a;intro a F
   refine F.split 147 rfl ?_ ?_ <;> (clear F; intro h147 F)
   ·
    replace h147 := beqT h147
    refine sMv F rfl rfl rfl ?_;clear F a;intro a F
    refine sBin F rfl rfl rfl rfl bEql ?_;clear F a;intro a F
    refine sPk F rfl rfl rfl rfl ?_;clear F a;intro a F
    refine sMv F rfl rfl rfl ?_;clear F a;intro a F
    refine F.split 151 rfl ?_ ?_ <;> (clear F; intro h151 F)
    ·
     replace h151 := beqT h151
     refine sLr Try.underlying24 rfl ?si F rfl rfl rfl (H.whole 10 rfl) ?_
     case si => exact info_size Try.sizeOf24
     clear F a; intro a F
     refine sLr Try.underlying24 rfl ?si F rfl rfl rfl (H.whole 4 rfl) ?_
     case si => exact info_size Try.sizeOf24
     clear F a; intro a F
     refine sCall Try.call15 F rfl rfl rfl (sameC_any (treeUp (H.pred 11 _ rfl : TreeIn SZ1 _ hZ1 _ z1) hhZ1) (two_at (k := 3) (H.whole 5 rfl) rfl (treeUp (H.pred 15 _ rfl : TreeIn SX _ hX _ x) hhX) (treeUp (H.pred 13 _ rfl : TreeIn SY _ hY _ y) hhY)) hz1) ?_
     rintro e w ⟨rfl, hb⟩
     replace H := H.grow hb; clear hb
     refine ⟨_, rfl, ?_⟩
     clear F a; intro a F
     refine sPk F rfl rfl rfl rfl ?_;clear F a;intro a F
     refine sMv F rfl rfl rfl ?_;clear F a;intro a F
     refine F.split 156 rfl ?_ ?_ <;> (clear F; intro h156 F)
     ·
      refine sLr Try.underlying24 rfl ?si F rfl rfl rfl (H.whole 8 rfl) ?_
      case si => exact info_size Try.sizeOf24
      clear F a; intro a F
      refine sLr Try.underlying24 rfl ?si F rfl rfl rfl (H.whole 2 rfl) ?_
      case si => exact info_size Try.sizeOf24
      clear F a; intro a F
      refine sCall Try.call15 F rfl rfl rfl (sameC_any (treeUp (H.pred 9 _ rfl : TreeIn SZ2 _ hZ2 _ z2) hhZ2) (two_at (k := 4) (H.whole 3 rfl) rfl (treeUp (H.pred 15 _ rfl : TreeIn SX _ hX _ x) hhX) (treeUp (H.pred 13 _ rfl : TreeIn SY _ hY _ y) hhY)) hz2) ?_
      rintro e w ⟨rfl, hb⟩
      replace H := H.grow hb; clear hb
      refine ⟨_, rfl, ?_⟩
      clear F a; intro a F
      refine sPk F rfl rfl rfl rfl ?_;clear F a;intro a F
      refine sMv F rfl rfl rfl ?_;clear F a;intro a F
      refine F.split 161 rfl ?_ ?_ <;> (clear F; intro h161 F)
      ·
       refine sLr Try.underlying24 rfl ?si F rfl rfl rfl (H.whole 10 rfl) ?_
       case si => exact info_size Try.sizeOf24
       clear F a; intro a F
       refine sCall Try.call9 F rfl rfl rfl (pdeep_any hZ1 _ z1 _ (H.pred 11 _ rfl : TreeIn SZ1 _ hZ1 _ z1).at (by omega)) ?_
       rintro e w ⟨rfl, hb⟩
       replace H := H.grow hb; clear hb
       refine ⟨_, rfl, ?_⟩
       clear F a; intro a F
       refine sMv F rfl rfl rfl ?_;clear F a;intro a F
       refine sBin F rfl rfl rfl rfl bEql ?_;clear F a;intro a F
       refine sPk F rfl rfl rfl rfl ?_;clear F a;intro a F
       refine sAs F rfl rfl rfl ?_;clear F a;intro a F
       refine sNil ?_
       refine hK27 _ _ ?_; clear hK27
       refine wp_ret ?_
       refine bRet Try.results5 F rfl ?_
       first | exact ⟨rfl, H.below⟩ | exact ⟨retB (by rw [hd1]; simp), H.below⟩ | exact ⟨retB (by rw [hd1]; exact beq_self_eq_true _), H.below⟩
      cases h161
     cases h156
    replace h151 := beqF h151
    exact absurd rfl h151
   replace h147 := beqF h147
   exact absurd rfl h147
  replace h118 := of_decide_eq_false h118
  have hx20 : depC x = 20 := by omega
  rw [if_pos (by omega)] at hj3
  have he3 := pcond_out hpZ3 hj3
  simp only at he3
  subst he3
  refine sSk F rfl rfl ?_;clear F a;intro a F
  refine sSk F rfl rfl ?_;clear F a;intro a F
  refine sSk F rfl rfl ?_;clear F a;intro a F
  refine sSk F rfl rfl ?_;clear F a;intro a F
  refine sSk F rfl rfl ?_;clear F a;intro a F
  refine sSk F rfl rfl ?_;clear F a;intro a F
  refine sSk F rfl rfl ?_;clear F a;intro a F
  refine sSk F rfl rfl ?_;clear F a;intro a F
  refine sPk F rfl rfl rfl rfl ?_;clear F a;intro a F
  refine sMv F rfl rfl rfl ?_;clear F a;intro a F
  refine sLr Try.underlying24 rfl ?si F rfl rfl rfl (H.whole 14 rfl) ?_
  case si => exact info_size Try.sizeOf24
  clear F a; intro a F
  refine sCall Try.call9 F rfl rfl rfl (pdeep_any hX _ x _ (H.pred 15 _ rfl : TreeIn SX _ hX _ x).at (by omega)) ?_
  rintro e w ⟨rfl, hb⟩
  replace H := H.grow hb; clear hb
  refine ⟨_, rfl, ?_⟩
  clear F a; intro a F
  refine sBin F rfl rfl rfl rfl bEql ?_;clear F a;intro a F
  refine sMv F rfl rfl rfl ?_;clear F a;intro a F
  refine F.split 132 rfl ?_ ?_ <;> (clear F; intro h132 F)
  ·
   replace h132 := beqT h132
   refine sMv F rfl rfl rfl ?_;clear F a;intro a F
   refine sBin F rfl rfl rfl rfl bNeq ?_;clear F a;intro a F
   refine sPk F rfl rfl rfl rfl ?_;clear F a;intro a F
   refine sPk F rfl rfl rfl rfl ?_;clear F a;intro a F
   refine sNil ?_
   refine hK23 _ _ ?_; clear hK23
   refine cIf F rfl (fun h136 => ?_) (fun h136 => ?_)
   ·
    replace h136 := bneT h136
    first | cases h136 | exact absurd rfl h136
   replace h136 := bneF h136
   refine wp_skip ?_
   refine hK22 _ _ ?_; clear hK22
   refine cSeq (fun K28 hK28 => ?_)
   refine cSeq (fun K29 hK29 => ?_)
   refine cReg ?_
   refine sMv F rfl rfl rfl ?_;clear F a;intro a F
   refine sBin F rfl rfl rfl rfl bGtr ?_;clear F a;intro a F
   refine sNil ?_
   refine hK29 _ _ ?_; clear hK29
   refine cIf F rfl (fun h138 => ?_) (fun h138 => ?_)
   ·
    replace h138 := of_decide_eq_true h138
    rw [if_pos (by omega)] at hj1 hj2
    have he1 := pcond_out hpZ1 hj1
    have he2 := pcond_out hpZ2 hj2
    simp only at he1 he2
    subst he1 he2
    refine cSeq (fun K30 hK30 => ?_)
    refine cReg ?_
    refine sMv F rfl rfl rfl ?_;clear F a;intro a F
    refine sBin F rfl rfl rfl rfl bEql ?_;clear F a;intro a F
    refine sMv F rfl rfl rfl ?_;clear F a;intro a F
    refine F.split 141 rfl ?_ ?_ <;> (clear F; intro h141 F)
    ·
     replace h141 := beqT h141
     refine sMv F rfl rfl rfl ?_;clear F a;intro a F
     refine sBin F rfl rfl rfl rfl bEql ?_;clear F a;intro a F
     refine sPk F rfl rfl rfl rfl ?_;clear F a;intro a F
     refine sAs F rfl rfl rfl ?_;clear F a;intro a F
     refine sNil ?_
     refine hK30 _ _ ?_; clear hK30
     refine wp_ret ?_
     simp only [Exit.then]
     refine bRet Try.results5 F rfl ?_
     first | exact ⟨rfl, H.below⟩ | exact ⟨retB (by rw [hd1]; simp), H.below⟩ | exact ⟨retB (by rw [hd1]; exact beq_self_eq_true _), H.below⟩
    replace h141 := beqF h141
    exact absurd rfl h141
   replace h138 := of_decide_eq_false h138
   rw [if_neg (by omega)] at hj1 hj2
   obtain ⟨hz1, rfl, rfl⟩ := pcond_in hpZ1 hj1
   obtain ⟨hz2, rfl, rfl⟩ := pcond_in hpZ2 hj2
   have hd1 : depC z1 = max (depC x) (depC y) + 1 := by rw [hz1, dep_two]
   refine wp_skip ?_
   refine hK28 _ _ ?_; clear hK28
   refine cSeq (fun K31 hK31 => ?_)
   refine cReg ?_
   refine sMv F rfl rfl rfl ?_;clear F a;intro a F
   refine sBin F rfl rfl rfl rfl bEql ?_;clear F a;intro a F
   refine sMv F rfl rfl rfl ?_;clear F a;intro a F
   refine F.split 147 rfl ?_ ?_ <;> (clear F; intro h147 F)
   ·
    replace h147 := beqT h147
    refine sMv F rfl rfl rfl ?_;clear F a;intro a F
    refine sBin F rfl rfl rfl rfl bEql ?_;clear F a;intro a F
    refine sPk F rfl rfl rfl rfl ?_;clear F a;intro a F
    refine sMv F rfl rfl rfl ?_;clear F a;intro a F
    refine F.split 151 rfl ?_ ?_ <;> (clear F; intro h151 F)
    ·
     replace h151 := beqT h151
     refine sLr Try.underlying24 rfl ?si F rfl rfl rfl (H.whole 10 rfl) ?_
     case si => exact info_size Try.sizeOf24
     clear F a; intro a F
     refine sLr Try.underlying24 rfl ?si F rfl rfl rfl (H.whole 4 rfl) ?_
     case si => exact info_size Try.sizeOf24
     clear F a; intro a F
     refine sCall Try.call15 F rfl rfl rfl (sameC_any (treeUp (H.pred 11 _ rfl : TreeIn SZ1 _ hZ1 _ z1) hhZ1) (two_at (k := 3) (H.whole 5 rfl) rfl (treeUp (H.pred 15 _ rfl : TreeIn SX _ hX _ x) hhX) (treeUp (H.pred 13 _ rfl : TreeIn SY _ hY _ y) hhY)) hz1) ?_
     rintro e w ⟨rfl, hb⟩
     replace H := H.grow hb; clear hb
     refine ⟨_, rfl, ?_⟩
     clear F a; intro a F
     refine sPk F rfl rfl rfl rfl ?_;clear F a;intro a F
     refine sMv F rfl rfl rfl ?_;clear F a;intro a F
     refine F.split 156 rfl ?_ ?_ <;> (clear F; intro h156 F)
     ·
      refine sLr Try.underlying24 rfl ?si F rfl rfl rfl (H.whole 8 rfl) ?_
      case si => exact info_size Try.sizeOf24
      clear F a; intro a F
      refine sLr Try.underlying24 rfl ?si F rfl rfl rfl (H.whole 2 rfl) ?_
      case si => exact info_size Try.sizeOf24
      clear F a; intro a F
      refine sCall Try.call15 F rfl rfl rfl (sameC_any (treeUp (H.pred 9 _ rfl : TreeIn SZ2 _ hZ2 _ z2) hhZ2) (two_at (k := 4) (H.whole 3 rfl) rfl (treeUp (H.pred 15 _ rfl : TreeIn SX _ hX _ x) hhX) (treeUp (H.pred 13 _ rfl : TreeIn SY _ hY _ y) hhY)) hz2) ?_
      rintro e w ⟨rfl, hb⟩
      replace H := H.grow hb; clear hb
      refine ⟨_, rfl, ?_⟩
      clear F a; intro a F
      refine sPk F rfl rfl rfl rfl ?_;clear F a;intro a F
      refine sMv F rfl rfl rfl ?_;clear F a;intro a F
      refine F.split 161 rfl ?_ ?_ <;> (clear F; intro h161 F)
      ·
       refine sLr Try.underlying24 rfl ?si F rfl rfl rfl (H.whole 10 rfl) ?_
       case si => exact info_size Try.sizeOf24
       clear F a; intro a F
       refine sCall Try.call9 F rfl rfl rfl (pdeep_any hZ1 _ z1 _ (H.pred 11 _ rfl : TreeIn SZ1 _ hZ1 _ z1).at (by omega)) ?_
       rintro e w ⟨rfl, hb⟩
       replace H := H.grow hb; clear hb
       refine ⟨_, rfl, ?_⟩
       clear F a; intro a F
       refine sMv F rfl rfl rfl ?_;clear F a;intro a F
       refine sBin F rfl rfl rfl rfl bEql ?_;clear F a;intro a F
       refine sPk F rfl rfl rfl rfl ?_;clear F a;intro a F
       refine sAs F rfl rfl rfl ?_;clear F a;intro a F
       refine sNil ?_
       refine hK31 _ _ ?_; clear hK31
       refine wp_ret ?_
       refine bRet Try.results5 F rfl ?_
       first | exact ⟨rfl, H.below⟩ | exact ⟨retB (by rw [hd1]; simp), H.below⟩ | exact ⟨retB (by rw [hd1]; exact beq_self_eq_true _), H.below⟩
      cases h161
     cases h156
    replace h151 := beqF h151
    exact absurd rfl h151
   replace h147 := beqF h147
   exact absurd rfl h147
  replace h132 := beqF h132
  omega
end Go.Proofs.Ytbdjlmdejlklkaa
