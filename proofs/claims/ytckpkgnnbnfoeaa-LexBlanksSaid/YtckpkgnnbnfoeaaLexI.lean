/-
  Package lex: Lex. Conditions: none.
-/
import Derived.Test.YtckpkgnnbnfoeaaLexH
import Derived.Test.YtckpkgnnbnfoeaaAppend
import Derived.Test.YtckpkgnnbnfoeaaBuild
namespace Go.Proofs.Ytckpkgnnbnfoeaa
open Go.RowKit Go.Shelf
attribute [local go_sem] Oper.semAt_some wide_fn wide_depth wide_fn_in wide_depth_in

def cellsOf (ts : List Tok) : List Value := ts.flatMap Tok.cells

/-- The first token with a fault. -/
def firstBad : List Tok → Option Tok
  | [] => none
  | t :: r => if faultOf t = 0 then firstBad r else some t
def lexBad (s : ByteArray) : Option (Nat × Int) := if 16384 < s.size then some (0, 3) else (firstBad (toks s)).map fun t => (t.pos, faultOf t)

/-- What Lex answers: the place and the number of an error, or the tokens in memory of its own. -/
def LexPost (s : ByteArray) (w : World) (e : Ending) (w' : World) : Prop :=
  Below w.heap.size w w' ∧
    ((∃ p f, lexBad s = some (p, f) ∧ e = .returned (.tuple #[.slice none 0 0, .int .i64 (p : Nat), .int .i64 f])) ∨
     (lexBad s = none ∧ ∃ sv, e = .returned (.tuple #[sv, .int .i64 0, .int .i64 0]) ∧ w'.ownsRow w.heap.size 27 3 sv (toks s).length (cellsOf (toks s)) ∧ (sv = .slice none 0 0 ↔ toks s = [])))

theorem tokens_any (b : Nat) (w : World) : Calls Try.prog 36 #[.pointer (some ⟨b, 0, none⟩)] w fun e w' =>
    e = .returned (.func (.func 45) #[] #[.pointer (some ⟨w.heap.size, 0, none⟩)]) ∧ w.alloc (.cells #[.pointer (some ⟨b, 0, none⟩)] 73) = w' := by
  go_enter Try.func36, Try.ntmps36
  go_wp2
  go_returns
  exact ⟨rfl, rfl⟩

set_option maxHeartbeats 1000000 in
theorem lex_long (s : ByteArray) (w : World) (hl : 16384 < s.size) (hs : s.size ≤ maxLen) : Calls Try.prog 19 #[.string s] w (LexPost s w) := by
  unfold maxLen at hs
  have Hb : Hid (lexBad s = some (0, 3)) := Lib.hid (by unfold lexBad; rw [if_pos hl])
  go_enter Try.func19, Try.ntmps19
  go_wp2
  go_returns
  exact ⟨by go_grown, .inl ⟨0, 3, Hb.out, rfl⟩⟩

/-- What holds between two rounds: the tokens so far lie in a slice of the call's own; no fault yet. -/
def LexI (R : Nat) (pre : List Tok) (fp : List Nat) (W : World) : Prop :=
  ∃ sv, fp = R :: (R + 1) :: (R + 1 + 1) :: sv.ownBlock.toList ∧ Blk W R [sv] 24 ∧ Blk W (R + 1) [.int .i64 0] 3 ∧ Blk W (R + 1 + 1) [.int .i64 0] 35 ∧
    W.ownsRow (R + 1 + 1 + 1 + 1 + 1) 27 3 sv pre.length (cellsOf pre) ∧ (sv = .slice none 0 0 ↔ pre = []) ∧ firstBad pre = none ∧ R + 1 + 1 + 1 + 1 + 1 ≤ W.heap.size
/-- What holds when a round has met a fault. -/
def LexIx (R : Nat) (c : Code) (pre : List Tok) (fp : List Nat) (W : World) : Prop :=
  c = .ret ∧ fp = [R, R + 1, R + 1 + 1] ∧ ∃ t, firstBad pre = some t ∧ Blk W R [.slice none 0 0] 24 ∧ Blk W (R + 1) [.int .i64 t.pos] 3 ∧ Blk W (R + 1 + 1) [.int .i64 (faultOf t)] 35



theorem Blk.agree {w w' : World} {b : Nat} {cs : List Value} {t : TypeId} (h : Blk w b cs t) (he : w'.heap[b]? = w.heap[b]?) : Blk w' b cs t := he.trans h
theorem lexI_local (R : Nat) : Local (LexI R) := by
  refine ⟨?_, ?_⟩
  · rintro pre fp W W' ⟨sv, rfl, h1, h2, h3, h4, h5, h6, h7⟩ hz hag
    exact ⟨sv, rfl, h1.agree (hag _ (by simp)), h2.agree (hag _ (by simp)), h3.agree (hag _ (by simp)), ownsRow_agree h4 (fun b hb => hag b (by simp only [List.mem_cons]; exact .inr (.inr (.inr hb)))), h5, h6, Nat.le_trans h7 hz⟩
  · rintro pre fp W ⟨sv, rfl, h1, h2, h3, h4, h5⟩ b hb
    simp only [List.mem_cons] at hb
    rcases hb with rfl | rfl | rfl | hb
    · exact h1.lt
    · exact h2.lt
    · exact h3.lt
    · exact (h4.lt b (by simpa using hb)).2
theorem lexIx_local (R : Nat) (c : Code) : Local (LexIx R c) := by
  refine ⟨?_, ?_⟩
  · rintro pre fp W W' ⟨hc, rfl, t, ht, h1, h2, h3⟩ _ hag
    exact ⟨hc, rfl, t, ht, h1.agree (hag _ (by simp)), h2.agree (hag _ (by simp)), h3.agree (hag _ (by simp))⟩
  · rintro pre fp W ⟨hc, rfl, t, ht, h1, h2, h3⟩ b hb
    simp only [List.mem_cons, List.not_mem_nil, or_false] at hb
    rcases hb with rfl | rfl | rfl
    · exact h1.lt
    · exact h2.lt
    · exact h3.lt
theorem firstBad_none_snoc {pre : List Tok} {t : Tok} (h : firstBad pre = none) : firstBad (pre ++ [t]) = if faultOf t = 0 then none else some t := by
  induction pre with
  | nil => simp [firstBad]
  | cons a r ih =>
    rw [firstBad] at h
    split at h
    · rename_i h0; rw [List.cons_append, firstBad, if_pos h0]; exact ih h
    · cases h
theorem firstBad_prefix {pre all : List Tok} {t : Tok} (h : firstBad pre = some t) (hp : pre <+: all) : firstBad all = some t := by
  obtain ⟨q, rfl⟩ := hp
  induction pre with
  | nil => simp [firstBad] at h
  | cons a r ih =>
    rw [List.cons_append]
    rw [firstBad] at h ⊢
    split at h
    · rename_i h0; rw [if_pos h0]; exact ih h
    · rename_i h0; rw [if_neg h0]; exact h
theorem toks_len (s : ByteArray) : (toks s).length ≤ 2 * s.size + 1 := toksF_len _ _ _ _
theorem cell_three_new (w : World) (a b c : Value) (t : TypeId) : ∀ j u, [a, b, c][j]? = some u → (w.alloc (.cells #[a, b, c] t)).cell? ((⟨w.heap.size, 0, none⟩ : Addr).add j) = some u := by
  intro j u hj
  match j, hj with
  | 0, hj => simp at hj; subst hj; simp [Addr.add]
  | 1, hj => simp at hj; subst hj; simp [Addr.add]
  | 2, hj => simp at hj; subst hj; simp [Addr.add]
  | j + 3, hj => simp at hj
theorem tok_info : ((Try.prog).info? 27).map (fun i => (i.zero, i.size, i.bytes)) = some (some (.agg #[.int .u8 0, .string ⟨#[]⟩, .int .i64 0]), 3, 32) := by kernel_rfl

theorem cellsOf_snoc (pre : List Tok) (t : Tok) : cellsOf (pre ++ [t]) = cellsOf pre ++ [.int .u8 t.kind, .string t.text, .int .i64 t.pos] := by
  simp [cellsOf, Tok.cells]
theorem lexI_step {R : Nat} {pre : List Tok} {t : Tok} {W W₂ w1 : World} {sv : Value} {a : Act} {g' cap' : Nat} {X : Obj} (hb : firstBad (pre ++ [t]) = none) (hsz : W.heap.size ≤ W₂.heap.size) (hbase : R + 1 + 1 + 1 + 1 + 1 ≤ W₂.heap.size)
    (hR : Blk W₂ R [sv] 24) (hR1 : Blk W₂ (R + 1) [.int .i64 0] 3) (hR2 : Blk W₂ (R + 1 + 1) [.int .i64 0] 35) (hrow : W₂.ownsRow (R + 1 + 1 + 1 + 1 + 1) 27 3 sv pre.length (cellsOf pre))
    (hown' : w1.ownsRow (R + 1 + 1 + 1 + 1 + 1) 27 3 (.slice (some ⟨g', 0, none⟩) (pre.length + 1) cap') (pre.length + 1) (cellsOf pre ++ [.int .u8 t.kind, .string t.text, .int .i64 t.pos]))
    (hgrow : (W₂.alloc X).grownBy w1 sv.ownBlock) (hblk : sv.ownBlock = some g' ∨ g' = (W₂.alloc X).heap.size) :
    fpPost (LexI R) (LexIx R) (pre ++ [t]) (R :: (R + 1) :: (R + 1 + 1) :: sv.ownBlock.toList) W W₂ Exit.normal a (w1.setCell ⟨R, 0, none⟩ (.slice (some ⟨g', 0, none⟩) (pre.length + 1) cap')) := by
  have hrl := hrow.lt
  have hgl := (hown'.lt g' rfl).1
  refine ⟨?_, R :: (R + 1) :: (R + 1 + 1) :: [g'], ?_, .slice (some ⟨g', 0, none⟩) (pre.length + 1) cap', rfl, ?_, ?_, ?_, ?_, by simp, hb, ?_⟩
  rotate_right
  · have := hgrow.size; simp at this ⊢; omega
  · refine Frm.setCell ?_ (.inl (by simp)) _
    exact ((Frm.refl _ _).alloc X).trans_new (Frm.of_grown hgrow (R :: (R + 1) :: (R + 1 + 1) :: sv.ownBlock.toList) (fun k hk => by simp [hk])) (fun x hx => .inl hx)
  · intro b hb
    simp only [List.mem_cons, List.not_mem_nil, or_false] at hb ⊢
    rcases hb with h | h | h | h
    · exact .inl (.inl h)
    · exact .inl (.inr (.inl h))
    · exact .inl (.inr (.inr (.inl h)))
    · rcases hblk with h1 | h1
      · exact .inl (.inr (.inr (.inr (by simp [h1, h]))))
      · exact .inr (by simp at h1; omega)
  · exact Blk.set1 ((hR.alloc X).grown hgrow (fun e => by have := hrl _ e.symm; omega)) _
  · exact Blk.setOther ((hR1.alloc X).grown hgrow (fun e => by have := hrl _ e.symm; omega)) _ (by simp) _
  · exact Blk.setOther ((hR2.alloc X).grown hgrow (fun e => by have := hrl _ e.symm; omega)) _ (by simp; omega) _
  · rw [cellsOf_snoc, List.length_append, List.length_singleton]
    exact ownsRow_setCell_below hown' (by simp; omega) _

theorem ownsRow_base {w : World} {base base' : Nat} {e : TypeId} {size : Nat} {v : Value} {n : Nat} {xs : List Value} (h : w.ownsRow base e size v n xs) (hb : base' ≤ base) : w.ownsRow base' e size v n xs := by
  obtain ⟨h1, h2⟩ := h
  refine ⟨h1, ?_⟩
  rcases h2 with h2 | ⟨g, cap, cur, hv, hg, r⟩
  · exact .inl h2
  · exact .inr ⟨g, cap, cur, hv, by omega, r⟩
theorem lex_below {w W W' : World} {a b c d e : Obj} (_ : Frm ([w.heap.size + 1 + 1 + 1] ++ [w.heap.size, w.heap.size + 1, w.heap.size + 1 + 1]) (((((w.alloc a).alloc b).alloc c).alloc d).alloc e) W)
    (h : Frm ([w.heap.size + 1 + 1 + 1] ++ [w.heap.size, w.heap.size + 1, w.heap.size + 1 + 1]) (((((w.alloc a).alloc b).alloc c).alloc d).alloc e) W') : Below w.heap.size w W' := by
  refine Below.trans (b := ((((w.alloc a).alloc b).alloc c).alloc d).alloc e) (by go_grown) (h.below (by simp; omega) ?_)
  intro x hx
  simp only [List.cons_append, List.nil_append, List.mem_cons, List.not_mem_nil, or_false] at hx
  omega

theorem lexIx_stop {R : Nat} {pre : List Tok} {t : Tok} {W W₂ : World} {sv : Value} {a : Act} (hb : firstBad (pre ++ [t]) = some t)
    (hR : Blk W₂ R [sv] 24) (hR1 : Blk W₂ (R + 1) [.int .i64 0] 3) (hR2 : Blk W₂ (R + 1 + 1) [.int .i64 0] 35) :
    fpPost (LexI R) (LexIx R) (pre ++ [t]) (R :: (R + 1) :: (R + 1 + 1) :: sv.ownBlock.toList) W W₂ Exit.ret a
      (((W₂.setCell ⟨R, 0, none⟩ (.slice none 0 0)).setCell ⟨R + 1, 0, none⟩ (.int .i64 t.pos)).setCell ⟨R + 1 + 1, 0, none⟩ (.int .i64 (faultOf t))).drew := by
  refine ⟨?_, [R, R + 1, R + 1 + 1], fun b hb => .inl ?_, rfl, rfl, t, hb, ?_, ?_, ?_⟩
  · (repeat (first | with_reducible exact Frm.refl _ _ | with_reducible refine Frm.drew ?_ | with_reducible refine Frm.drewN ?_ _ | with_reducible refine Frm.alloc ?_ _ | with_reducible refine Frm.setCell ?_ (.inl (by simp)) _))
  · simp only [List.mem_cons, List.not_mem_nil, or_false] at hb ⊢
    rcases hb with h | h | h
    · exact .inl h
    · exact .inr (.inl h)
    · exact .inr (.inr (.inl h))
  · (repeat (first | with_reducible exact hR | with_reducible refine Blk.drew ?_ | with_reducible refine Blk.drewN ?_ _ | with_reducible refine Blk.alloc ?_ _ | with_reducible refine Blk.set1 (x := sv) ?_ _ | with_reducible refine Blk.setOther ?_ _ (by first | (simp; done) | (simp; omega)) _))
  · (repeat (first | with_reducible exact hR1 | with_reducible refine Blk.drew ?_ | with_reducible refine Blk.drewN ?_ _ | with_reducible refine Blk.alloc ?_ _ | with_reducible refine Blk.set1 (x := .int .i64 0) ?_ _ | with_reducible refine Blk.setOther ?_ _ (by first | (simp; done) | (simp; omega)) _))
  · (repeat (first | with_reducible exact hR2 | with_reducible refine Blk.drew ?_ | with_reducible refine Blk.drewN ?_ _ | with_reducible refine Blk.alloc ?_ _ | with_reducible refine Blk.set1 (x := .int .i64 0) ?_ _ | with_reducible refine Blk.setOther ?_ _ (by first | (simp; done) | (simp; omega)) _))

set_option maxRecDepth 100000 in
set_option maxHeartbeats 4000000 in
theorem lex_in (n : Nat) (s : ByteArray) (w : World) (hs : s.size ≤ 16384) : CallsIn Fence.wide n Try.prog 19 #[.string s] w (LexPost s w) := by
  have hd : decide (16384 < (s.size : Int)) = false := by simp; omega
  have hmix : (Try.prog).follows .mixedOrders = true := by kernel_rfl
  refine callsIn_of_wp_marks Try.func19 rfl trivial ?_ rfl
  simp only [Try.ntmps19, List.size_toArray, List.length_cons, List.length_nil, Nat.reduceAdd, Nat.reduceSub, Array.replicate_succ, Array.replicate_zero, List.push_toArray, List.append_toArray, List.nil_append, List.cons_append]
  gi_wp2_with (gi_at_call 36; refine (callsIn_wide.2 (tokens_any _ _)).mono ?_; rintro e w1 ⟨rfl, rfl⟩)
  refine wpIn_rangeFunc_fp (α := Tok) (all := toks s) (own := [w.heap.size + 1 + 1 + 1, w.heap.size + 1 + 1 + 1 + 1]) (wr := [w.heap.size + 1 + 1 + 1]) rfl (enters_of Try.func45 (by kernel_rfl) rfl) (tokens1_seq _ _ _ s hs _ ?c1 ?c2 (by simp)) (fun _ => rfl)
    (LexI w.heap.size) (LexIx w.heap.size) (lexI_local _) (lexIx_local _) [w.heap.size, w.heap.size + 1, w.heap.size + 1 + 1] ?start ?own
    (fun x W a₁ W₁ => a₁ = { tmps := #[.string s, undef, .pointer (some ⟨w.heap.size, 0, none⟩), .pointer (some ⟨w.heap.size + 1, 0, none⟩), .pointer (some ⟨w.heap.size + 1 + 1, 0, none⟩), .pointer (some ⟨w.heap.size + 1 + 1 + 1, 0, none⟩), .pointer (some ⟨W.heap.size, 0, none⟩),
      .int .i64 (faultOf x), .string s, .int .i64 s.size, .bool false, .string s, .agg #[.string s, .int .i64 0], .agg #[.string s, .int .i64 0, .bool false], .func (.func 45) #[] #[.pointer (some ⟨w.heap.size + 1 + 1 + 1 + 1, 0, none⟩)],
      .agg #[.int .u8 x.kind, .string x.text, .int .i64 x.pos], .int .i64 (faultOf x), undef, undef, undef, undef, undef, undef, undef, undef, undef, undef], defers := [] } ∧
      W₁ = W.alloc (.cells #[.int .u8 x.kind, .string x.text, .int .i64 x.pos] 27)) ?assign ?hAx ?body ?done ?stop
  case c1 => exact (Blk.newAt (by simp)).alloc _
  case c2 => exact Blk.newAt (by simp)
  case start => exact ⟨.slice none 0 0, rfl, ((((Blk.newAt (by simp)).alloc _).alloc _).alloc _).alloc _, (((Blk.newAt (by simp)).alloc _).alloc _).alloc _, ((Blk.newAt (by simp)).alloc _).alloc _, World.ownsRow_nil _ _ _ _, by simp, rfl, by simp⟩
  case own => simp; omega
  case hAx => rintro x W a₁ W₁ ⟨_, rfl⟩; exact (Frm.refl _ _).alloc _
  case assign =>
    intro l x W K hK
    obtain ⟨kd, tx, ps⟩ := x
    simp only [tokEnc, Tok.val]
    have HK := Lib.hid hK
    clear hK
    gi_wp2
    exact HK.out _ _ ⟨rfl, rfl⟩
  case body =>
    rintro l pre ⟨kd, tx, ps⟩ W W₁ W₂ a₁ fp hI hpx ⟨rfl, rfl⟩ hl hz hlf hlW
    simp only at *
    have hT : Blk W₂ W.heap.size [.int .u8 kd, .string tx, .int .i64 ps] 27 := (Blk.new W #[.int .u8 kd, .string tx, .int .i64 ps] _).frm hl (by simp; omega)
    have hI2 : LexI w.heap.size pre fp W₂ := (lexI_local _).stable _ _ W _ hI (by have := hl.size; simp at this; omega) fun b hb => by
      have hb' := (lexI_local _).lt _ _ _ hI b hb
      exact (hl.block b (by simp; omega) (by rintro hm; simp at hm; subst hm; exact hlf hb)).trans (Below.heap_alloc _ _ _ hb')
    obtain ⟨sv, rfl, hR, hR1, hR2, hrow, hnil, hbad, hbase⟩ := hI2
    have hb2 := firstBad_none_snoc (t := ⟨kd, tx, ps⟩) hbad
    have hlen := hpx.length_le
    have hlen2 := toks_len s
    simp only [List.length_append, List.length_cons, List.length_nil] at hlen
    have hplen : pre.length ≤ 40000 := by omega
    have hrl := hrow.lt
    have c0 := hT.cell 0 rfl
    have c1 := hT.cell 1 rfl
    have c2 := hT.cell 2 rfl
    have r0 := hR.cell 0 rfl
    have r1 := hR1.cell 0 rfl
    have r2 := hR2.cell 0 rfl
    have f0 := hR.frozen 0
    have f1 := hR1.frozen 0
    have f2 := hR2.frozen 0
    have Hsz : W.heap.size ≤ W₂.heap.size := by have := hl.size; simp at this; omega
    have HI := Lib.hid hI
    have Hl := Lib.hid hl
    have Hz := Lib.hid hz
    clear hI hl hz
    by_cases hf : faultOf ⟨kd, tx, ps⟩ = 0
    · rw [hf]
      rw [if_pos hf] at hb2
      obtain ⟨i0, hi, hz0, hz1, hz2⟩ := info_parts tok_info
      have Hb := Lib.hid hb2
      have Hn := Lib.hid hnil
      have Hbad := Lib.hid hbad
      clear hf hb2 hnil hbad
      gi_wp2_with (gi_at_builtin; go_must (refine wpListIn_append_at _ rfl _ _ 24 rfl (w.heap.size + 1 + 1 + 1 + 1 + 1) 27 i0 (.agg #[.int .u8 0, .string ⟨#[]⟩, .int .i64 0]) 3 32 Try.underlying24 hi hz0 hz1 hz2 rfl (by decide) _ _ _ rfl (hrow.alloc _) ⟨W₂.heap.size, 0, none⟩ 1 1 [.int .u8 kd, .string tx, .int .i64 ps] rfl rfl (cell_three_new _ _ _ _ _) (by simp [Value.oneCell']) (by unfold maxLen; omega) (by omega) (by simp; omega) (by decide) ?_; intro g' cap' w1 hown' hgrow hblk; have hR' := (hR.alloc (.cells #[.int .u8 kd, .string tx, .int .i64 ps] 27)).grown hgrow (fun e => by have := hrl _ e.symm; omega); have d0 := hR'.cell 0 rfl; have e0 := hR'.frozen 0))
      exact lexI_step (t := ⟨kd, tx, ps⟩) Hb.out Hsz hbase hR hR1 hR2 hrow hown' hgrow hblk
    · have hf' : (faultOf ⟨kd, tx, ps⟩ != 0) = true := by simpa using hf
      rw [if_neg hf] at hb2
      have Hb := Lib.hid hb2
      have Hn := Lib.hid hnil
      have Hbad := Lib.hid hbad
      clear hf hb2 hnil hbad
      gi_wp2
      gi_region_with_o (fail)
      all_goals
        gi_wp2
        exact lexIx_stop (sv := sv) (by rw [Hb.out]) hR hR1 hR2
  case done =>
    intro D fp W hI hK hfr hD hDf
    obtain ⟨sv, rfl, hR, hR1, hR2, hrow, hnil, hbad, hbase⟩ := hI
    simp only [List.mem_cons, not_or] at hDf
    obtain ⟨d0, d1, d2, d3⟩ := hDf
    have hlb : lexBad s = none := by unfold lexBad; rw [if_neg (by omega), hbad]; rfl
    have Hfr := Lib.hid hfr
    have Hn := Lib.hid hnil
    have Hlb := Lib.hid hlb
    have Hdm := Lib.hid d3
    have HrW := Lib.hid hrow
    have hsv : ∃ a n c, sv = .slice a n c := by
      rcases hrow.2 with ⟨rfl, _⟩ | ⟨g, cap, cur, rfl, _⟩ <;> exact ⟨_, _, _, rfl⟩
    obtain ⟨ap, an, ac, rfl⟩ := hsv
    have c0 := hR.cell 0 rfl
    have c1 := hR1.cell 0 rfl
    have c2 := hR2.cell 0 rfl
    have f0 := hR.frozen 0
    have f1 := hR1.frozen 0
    have f2 := hR2.frozen 0
    clear hnil hbad hlb hfr d3 hrow
    gi_wp2
    have hK3 : (((W.setCell ⟨w.heap.size, 0, none⟩ (.slice ap an ac)).setCell ⟨w.heap.size + 1, 0, none⟩ (.int .i64 0)).setCell ⟨w.heap.size + 1 + 1, 0, none⟩ (.int .i64 0)).heap[D]? = some (.deferred (some [])) := by
      rw [Below.heap_setCell _ _ _ _ d2, Below.heap_setCell _ _ _ _ d1, Below.heap_setCell _ _ _ _ d0]; exact hK
    refine ⟨by simp, .inl ⟨_, _, rfl, run_takeDeferred hK3, ?_⟩⟩
    have e0 : (((((W.setCell ⟨w.heap.size, 0, none⟩ (.slice ap an ac)).setCell ⟨w.heap.size + 1, 0, none⟩ (.int .i64 0)).setCell ⟨w.heap.size + 1 + 1, 0, none⟩ (.int .i64 0)).putObj D (.deferred none)).cell? ⟨w.heap.size, 0, none⟩ = some (.slice ap an ac)) :=
      Blk.cell (Blk.agree (w := ((W.setCell _ _).setCell _ _).setCell _ _) (show Blk _ _ [.slice ap an ac] 24 by (repeat (first | with_reducible exact hR | with_reducible refine Blk.drew ?_ | with_reducible refine Blk.drewN ?_ _ | with_reducible refine Blk.alloc ?_ _ | with_reducible refine Blk.set1 (x := .slice ap an ac) ?_ _ | with_reducible refine Blk.setOther ?_ _ (by first | (simp; done) | (simp; omega)) _))) (World.putObj_heap_other (Ne.symm d0))) 0 rfl
    have e1 : (((((W.setCell ⟨w.heap.size, 0, none⟩ (.slice ap an ac)).setCell ⟨w.heap.size + 1, 0, none⟩ (.int .i64 0)).setCell ⟨w.heap.size + 1 + 1, 0, none⟩ (.int .i64 0)).putObj D (.deferred none)).cell? ⟨w.heap.size + 1, 0, none⟩ = some (.int .i64 0)) :=
      Blk.cell (Blk.agree (w := ((W.setCell _ _).setCell _ _).setCell _ _) (show Blk _ _ [.int .i64 0] 3 by (repeat (first | with_reducible exact hR1 | with_reducible refine Blk.drew ?_ | with_reducible refine Blk.drewN ?_ _ | with_reducible refine Blk.alloc ?_ _ | with_reducible refine Blk.set1 (x := .int .i64 0) ?_ _ | with_reducible refine Blk.setOther ?_ _ (by first | (simp; done) | (simp; omega)) _))) (World.putObj_heap_other (Ne.symm d1))) 0 rfl
    have e2 : (((((W.setCell ⟨w.heap.size, 0, none⟩ (.slice ap an ac)).setCell ⟨w.heap.size + 1, 0, none⟩ (.int .i64 0)).setCell ⟨w.heap.size + 1 + 1, 0, none⟩ (.int .i64 0)).putObj D (.deferred none)).cell? ⟨w.heap.size + 1 + 1, 0, none⟩ = some (.int .i64 0)) :=
      Blk.cell (Blk.agree (w := ((W.setCell _ _).setCell _ _).setCell _ _) (show Blk _ _ [.int .i64 0] 35 by (repeat (first | with_reducible exact hR2 | with_reducible refine Blk.drew ?_ | with_reducible refine Blk.drewN ?_ _ | with_reducible refine Blk.alloc ?_ _ | with_reducible refine Blk.set1 (x := .int .i64 0) ?_ _ | with_reducible refine Blk.setOther ?_ _ (by first | (simp; done) | (simp; omega)) _))) (World.putObj_heap_other (Ne.symm d2))) 0 rfl
    refine ⟨.tuple #[.slice ap an ac, .int .i64 0, .int .i64 0], by simp [results, Try.results19, go_sem, e0, e1, e2], ?_, .inr ⟨Hlb.out, .slice ap an ac, rfl, ?_, Hn.out⟩⟩
    · refine lex_below (W := W) Hfr.out ?_
      refine Frm.putObj ?_ (.inr hD) _
      exact (((Hfr.out.setCell (.inl (by simp)) _).setCell (.inl (by simp)) _).setCell (.inl (by simp)) _)
    · refine ownsRow_agree (ownsRow_base HrW.out (by omega)) fun b hb => ?_
      have h1 := HrW.out.lt b (by simpa using hb)
      have h2 : b ≠ D := fun h => Hdm.out (h ▸ hb)
      rw [World.putObj_heap_other h2, Below.heap_setCell _ _ _ _ (by simp; omega), Below.heap_setCell _ _ _ _ (by simp; omega), Below.heap_setCell _ _ _ _ (by simp; omega)]
  case stop =>
    rintro D c pre fp W hpre ⟨rfl, rfl, t, ht, hR, hR1, hR2⟩ hK hfr hD hDf
    simp only [List.mem_cons, List.not_mem_nil, or_false, not_or] at hDf
    obtain ⟨d0, d1, d2⟩ := hDf
    have hlb : lexBad s = some (t.pos, faultOf t) := by unfold lexBad; rw [if_neg (by omega), firstBad_prefix ht hpre]; rfl
    gi_wp2
    refine ⟨by simp, .inl ⟨_, _, rfl, run_takeDeferred hK, ?_⟩⟩
    have e0 := Blk.cell (hR.agree (World.putObj_heap_other (o := .deferred none) (Ne.symm d0))) 0 rfl
    have e1 := Blk.cell (hR1.agree (World.putObj_heap_other (o := .deferred none) (Ne.symm d1))) 0 rfl
    have e2 := Blk.cell (hR2.agree (World.putObj_heap_other (o := .deferred none) (Ne.symm d2))) 0 rfl
    refine ⟨.tuple #[.slice none 0 0, .int .i64 t.pos, .int .i64 (faultOf t)], by simp [results, Try.results19, go_sem, e0, e1, e2], ?_, .inl ⟨_, _, hlb, rfl⟩⟩
    exact lex_below (W := W) hfr (hfr.putObj (.inr hD) _)

/-- Lex, for every string. -/
theorem lex_any (s : ByteArray) (w : World) (hs : s.size ≤ maxLen) : Calls Try.prog 19 #[.string s] w (LexPost s w) := by
  by_cases hl : 16384 < s.size
  · exact lex_long s w hl hs
  · exact (callsIn_wide (n := 9)).1 (lex_in 9 s w (by omega))
end Go.Proofs.Ytckpkgnnbnfoeaa
