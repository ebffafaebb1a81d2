/-
  Package lex: the iterator tokens yields all tokens of the source. Conditions: the source has at most 16384 bytes.
-/
import Derived.Test.YtckpkgnnbnfoeaaLexG
namespace Go.Proofs.Ytckpkgnnbnfoeaa
open Go.RowKit Go.Shelf
attribute [local go_sem] Oper.semAt_some wide_fn wide_depth wide_fn_in wide_depth_in

/-- What tokens hands to the loop's body. -/
def tokEnc (t : Tok) : Array Value := #[t.val, .int .i64 (faultOf t)]
def Tok.cells (t : Tok) : List Value := [.int .u8 t.kind, .string t.text, .int .i64 t.pos]
def Tok.none : Tok := ⟨0, ByteArray.empty, 0⟩

def boolNat : Value → Nat | .bool true => 1 | _ => 0
/-- How much of the source is still before the scanner. -/
def scanM (s : ByteArray) (b : Nat) (wr : World) : Nat :=
  match wr.heap[b]? with
  | some (.cells cs _ _) => 2 * (s.size - (intOf (cs.getD 1 undef)).toNat) + boolNat (cs.getD 2 undef)
  | _ => 0
theorem scanM_eq {wr : World} {b : Nat} {s : ByteArray} {k : Nat} {o : Bool} (h : Scan wr b s k o) : scanM s b wr = 2 * (s.size - k) + o.toNat := by
  have h' : wr.heap[b]? = some (.cells [Value.string s, .int .i64 k, .bool o].toArray 64 (0, 0)) := h
  unfold scanM
  rw [h']
  cases o <;> simp [intOf, boolNat]

theorem nextT_none {s : ByteArray} : ∀ {f k o k' o'}, nextT s f k o = (none, k', o') → k ≤ s.size → k' ≤ s.size ∧ 2 * (s.size - k') + o'.toNat ≤ 2 * (s.size - k) + o.toNat
  | 0, k, o, k', o', h, hk => by
    simp only [nextT, Prod.mk.injEq, true_and] at h
    obtain ⟨rfl, rfl⟩ := h; exact ⟨hk, Nat.le_refl _⟩
  | f + 1, k, o, k', o', h, hk => by
    have h1 := passTo_ge s k
    have h2 := passTo_le s k hk
    rw [nextT] at h
    split at h
    · simp at h
    · split at h
      · simp at h
      · split at h
        · simp only [Prod.mk.injEq, true_and] at h
          obtain ⟨rfl, rfl⟩ := h
          exact ⟨by omega, by simp; omega⟩
        · obtain ⟨a, b⟩ := nextT_none h (by omega)
          exact ⟨a, by simp at b; omega⟩

theorem next_is (b : Nat) (s : ByteArray) (k : Nat) (o : Bool) (w : World) (hS : Scan w b s k o) (hs : s.size ≤ 16384) (hk : k ≤ s.size)
    (t : Option Tok) (k' : Nat) (o' : Bool) (hn : Hid (nextT s (s.size + 1) k o = (t, k', o'))) (kd : Nat) (tx : ByteArray) (ps : Nat) (ht : Hid (t.getD Tok.none = ⟨kd, tx, ps⟩)) :
    Calls Try.prog 46 #[.pointer (some ⟨b, 0, none⟩)] w fun e w' => e = .returned (.tuple #[.agg #[.int .u8 kd, .string tx, .int .i64 ps], .bool t.isSome]) ∧ Scan w' b s k' o' ∧ w.grownBy w' (some b) :=
  (next_any b s k o w hS hs hk (s.size + 1) (by omega) t k' o' hn.out).mono fun e w' ⟨he, h2⟩ => ⟨by rw [he]; have := ht.out; unfold Tok.none at this; rw [this]; rfl, h2⟩

theorem toksF_next {s : ByteArray} {f k : Nat} {o : Bool} {t : Option Tok} {k' : Nat} {o' : Bool} (hn : nextT s (s.size + 1) k o = (t, k', o')) (hk : k ≤ s.size) (hf : 2 * (s.size - k) + o.toNat < f) :
    ∃ f', toksF s f k o = t.toList ++ (if t.isSome then toksF s f' k' o' else []) ∧ (t.isSome = true → 2 * (s.size - k') + o'.toNat < f') ∧ f' + 1 = f := by
  obtain ⟨f', rfl⟩ : ∃ f', f = f' + 1 := ⟨f - 1, by omega⟩
  refine ⟨f', ?_, ?_, rfl⟩
  · rw [toksF, hn]; cases t <;> simp
  · cases t with
    | none => simp
    | some t => intro _; have := (nextT_le hn hk).2; omega

/-- What holds at the head of each round of tokens. -/
def TokInv (s : ByteArray) (B Bx : Nat) (J : List Tok → List Nat → World → Prop) (fp0 : List Nat) (W : World) (pre : List Tok) (fp : List Nat) (k : Nat) (o : Bool) (T : Nat) (tk : Option Tok) (wr : World) : Prop :=
  Scan wr B s k o ∧ k ≤ s.size ∧ Blk wr Bx [.pointer (some ⟨B, 0, none⟩)] 73 ∧ J pre fp wr ∧ (∀ b ∈ fp, b ∈ fp0 ∨ W.heap.size ≤ b) ∧ T ∉ fp ∧ B ∉ fp ∧ Bx ∉ fp ∧ T ≠ B ∧ T ≠ Bx ∧ W.heap.size ≤ T ∧ Frm (B :: fp0) W wr ∧
    (∃ f, (tk.isSome = true → 2 * (s.size - k) + o.toNat < f) ∧ toks s = pre ++ tk.toList ++ (if tk.isSome then toksF s f k o else [])) ∧ (∀ t, tk = some t → ∃ j q, nextT s (s.size + 1) j q = (some t, k, o))

theorem yield_one {n l : Nat} {P : Program} {args : Array Value} {W : World} {fp : List Nat} {J Jx : List Nat → World → Prop}
    (h : YieldAt Fence.wide n P l args W fun e W' => ∃ fp', Frm fp W W' ∧ (∀ b ∈ fp', b ∈ fp ∨ W.heap.size ≤ b) ∧ ((e = .returned (.bool true) ∧ J fp' W') ∨ (e = .returned (.bool false) ∧ Jx fp' W'))) :
    YieldAt Fence.wide n P l args W fun e W' => ∃ c : Bool, e = .returned (.bool c) ∧ Hid (∃ fp', Frm fp W W' ∧ (∀ b ∈ fp', b ∈ fp ∨ W.heap.size ≤ b) ∧ (if c then J fp' W' else Jx fp' W')) :=
  h.mono fun e W' ⟨fp', h1, h2, h3⟩ => by
    rcases h3 with ⟨rfl, h3⟩ | ⟨rfl, h3⟩
    · exact ⟨true, rfl, Lib.hid ⟨fp', h1, h2, by simpa using h3⟩⟩
    · exact ⟨false, rfl, Lib.hid ⟨fp', h1, h2, by simpa using h3⟩⟩

set_option maxRecDepth 100000 in
set_option maxHeartbeats 4000000 in
theorem tokens1_seq (n : Nat) (B Bx : Nat) (s : ByteArray) (hs : s.size ≤ 16384) (w0 : World) (hS0 : Scan w0 B s 0 false) (hX0 : Blk w0 Bx [.pointer (some ⟨B, 0, none⟩)] 73) (hne : B ≠ Bx) :
    SeqFp n Try.prog 45 #[.pointer (some ⟨Bx, 0, none⟩)] tokEnc (toks s) [B, Bx] [B] w0 := by
  intro l J Jx W fp0 hW hJ hJx hY h0 hown
  have hS := hW.block B hS0.lt (by simp)
  have hX := hX0.frm hW (by simp)
  replace hS : Scan W B s 0 false := hS.trans hS0
  obtain ⟨ho1, ho2⟩ : B ∉ fp0 ∧ Bx ∉ fp0 := ⟨hown B (by simp), hown Bx (by simp)⟩
  obtain ⟨t1, k1, o1, hn1⟩ : ∃ t k o, nextT s (s.size + 1) 0 false = (t, k, o) := ⟨_, _, _, rfl⟩
  have hmix : (Try.prog).follows .mixedOrders = true := by kernel_rfl
  obtain ⟨kd, tx, ps, ht1⟩ : ∃ kd tx ps, t1.getD Tok.none = ⟨kd, tx, ps⟩ := ⟨_, _, _, rfl⟩
  have hx0 := hX.cell 0 rfl
  have Hn1 := Lib.hid hn1
  have Ht1 := Lib.hid ht1
  have hlts := hS.lt
  have hltx := hX.lt
  have hltf := Lib.hid (hJ.lt _ _ _ h0)
  clear hn1 ht1
  refine callsIn_of_wp Try.func45 rfl trivial ?_ rfl
  simp only [Try.ntmps45, List.size_toArray, List.length_cons, List.length_nil, Nat.reduceAdd, Nat.reduceSub, Array.replicate_succ, Array.replicate_zero, List.push_toArray, List.append_toArray, List.nil_append, List.cons_append]
  gi_wp2_with (gi_at_call 46; refine (callsIn_wide.2 (next_is B s 0 false _ hS hs (Nat.zero_le _) t1 k1 o1 Hn1 kd tx ps Ht1)).mono ?_; rintro e w1 ⟨rfl, hS1, hg1⟩)
  gi_loopw [3, 4] (fun tp okv wr => ∃ (pre : List Tok) (fp : List Nat) (k : Nat) (o : Bool) (T : Nat) (tk : Option Tok) (kd : Nat) (tx : ByteArray) (ps : Nat), tp = .pointer (some ⟨T, 0, none⟩) ∧ okv = .bool tk.isSome ∧ Hid (tk.getD Tok.none = ⟨kd, tx, ps⟩) ∧
      Blk wr T [.int .u8 kd, .string tx, .int .i64 ps] 27 ∧ TokInv s B Bx J fp0 W pre fp k o T tk wr)
    (fun _ okv wr => scanM s B wr + boolNat okv)
  case atStart =>
    have hz := hg1.size
    obtain ⟨f', h1, h2, h3⟩ := toksF_next (f := 2 * s.size + 1) Hn1.out (Nat.zero_le _) (by simp)
    refine ⟨[], fp0, k1, o1, w1.heap.size, t1, kd, tx, ps, rfl, rfl, Ht1, Blk.new _ _ _, hS1.alloc _, ?_, (hX.grown hg1 (by simp [hne.symm])).alloc _, ?_, fun b hb => .inl hb, ?_, ho1, ho2, by omega, by omega, hz, ?_, ⟨f', h2, by simpa [toks] using h1⟩, ?_⟩
    · cases t1 with
      | none => exact (nextT_none Hn1.out (Nat.zero_le _)).1
      | some t => exact (nextT_le Hn1.out (Nat.zero_le _)).1
    · refine hJ.stable _ _ _ _ h0 (by simp; omega) fun b hb => ?_
      have hb' := hltf.out b hb
      rw [Below.heap_alloc _ _ _ (by omega)]
      exact hg1.block b hb' (by rintro h; cases h; exact ho1 hb)
    · intro hm; have := hltf.out _ hm; omega
    · exact (Frm.of_grown hg1 _ (by simp)).alloc _
    · rintro t rfl; exact ⟨0, false, Hn1.out⟩
  case round =>
    obtain ⟨pre, fp, k, o, T, tk, kd, tx, ps, rfl, rfl, Htk, hT, hinv⟩ := hrel
    clear hS hX hx0 Hn1 Ht1 hS1 hg1
    obtain ⟨hS, hk, hX, hJp, hfp, n1, n2, n3, n4, n5, hTz, hfr, hf, hj⟩ := hinv
    cases tk with
    | none =>
      gi_wp2
      go_end0
      obtain ⟨f, _, hf2⟩ := hf
      refine ⟨⟨_, rfl⟩, hfr, fp, .inl ?_⟩
      · simp at hf2; rw [hf2]; exact hJp
    | some t =>
      obtain ⟨j, q, hnt⟩ := hj t rfl
      obtain ⟨f, hf1, hf2⟩ := hf
      obtain ⟨hkd, hsz⟩ := nextT_ok hnt
      simp only [Option.getD_some] at Htk
      obtain rfl : t = ⟨kd, tx, ps⟩ := Htk.out
      simp only at hkd hsz
      have c0 := hT.cell 0 rfl
      have c1 := hT.cell 1 rfl
      have c2 := hT.cell 2 rfl
      have Hf2 := Lib.hid hf2
      have Hkd := Lib.hid hkd
      have Hf1 := Lib.hid hf1
      clear hf2 hkd hf1 hj
      have hpx : pre ++ [⟨kd, tx, ps⟩] <+: toks s := ⟨_, by rw [Hf2.out]; rfl⟩
      have HY := Lib.hid hY
      have HJ := Lib.hid hJ
      clear hY hJ
      gi_wp2
      gi_region_with_o (first
        | (gi_at_call 47
           go_must (
             refine (callsIn_wide.2 (fault_any kd tx ps _ Hkd.out (by omega))).mono ?_
             rintro e w2 ⟨rfl, hg2⟩
             have hT2 := hT.grown (w := wr.drew) hg2 (by simp)
             have c02 := hT2.cell 0 rfl
             have c12 := hT2.cell 1 rfl
             have c22 := hT2.cell 2 rfl
             have hJ2 : J pre fp w2 := HJ.out.stable _ _ _ _ hJp hg2.size (fun b hb => hg2.block b (HJ.out.lt _ _ _ hJp b hb) (by simp))
             have HH := Lib.hid (yield_one (HY.out pre ⟨kd, tx, ps⟩ w2 fp hJ2 hpx))
             obtain ⟨fn, tmps, assign, body, hy, hR⟩ := HH.out
             simp only [tokEnc, Tok.val] at hy))
        | (refine hR.mono ?_; rintro e w3 ⟨c, rfl, hc⟩))
      all_goals
        obtain ⟨fp3, hf3, hm3, hc3⟩ := hc.out
        have hS2 : Scan w2 B s k o := Blk.grown (w := wr.drew) hS hg2 (by simp)
        have hX2 := Blk.grown (w := wr.drew) hX hg2 (by simp)
        have hS3 : Scan w3 B s k o := Blk.frm hS2 hf3 n2
        have hX3 := Blk.frm hX2 hf3 n3
        have hT3 := Blk.frm hT2 hf3 n1
        have hfr2 : Frm (B :: fp0) W w2 := hfr.drew.trans_new (Frm.of_grown hg2 [] (by simp)) (by simp)
        have hfr3 : Frm (B :: fp0) W w3 := hfr2.trans_new hf3 (fun x hx => by rcases hfp x hx with h | h; exact .inl (by simp [h]); exact .inr h)
        have hz2 := hfr2.size
        have hfp3 : ∀ b ∈ fp3, b ∈ fp0 ∨ W.heap.size ≤ b := fun b hb => by
          rcases hm3 b hb with h | h
          · exact hfp b h
          · exact .inr (by omega)
        have hlt2 := hS2.lt
        have hltx2 := hX2.lt
        have hltT2 := hT2.lt
        have m1 : T ∉ fp3 := fun h => by rcases hm3 _ h with h | h; exact n1 h; omega
        have m2 : B ∉ fp3 := fun h => by rcases hm3 _ h with h | h; exact n2 h; omega
        have m3 : Bx ∉ fp3 := fun h => by rcases hm3 _ h with h | h; exact n3 h; omega
        cases c with
        | false =>
          gi_wp2
          refine bodyPost_ret (results_none rfl _ _ _) rfl ?_
          exact ⟨⟨_, rfl⟩, hfr3, fp3, .inr ⟨_, hpx, by simpa using hc3⟩⟩
        | true =>
          obtain ⟨t4, k4, o4, hn4⟩ : ∃ t k' o', nextT s (s.size + 1) k o = (t, k', o') := ⟨_, _, _, rfl⟩
          obtain ⟨kd4, tx4, ps4, ht4⟩ : ∃ kd tx ps, t4.getD Tok.none = ⟨kd, tx, ps⟩ := ⟨_, _, _, rfl⟩
          have Hn4 := Lib.hid hn4
          have Ht4 := Lib.hid ht4
          clear hn4 ht4
          have d0 := hT3.cell 0 rfl
          have d1 := hT3.cell 1 rfl
          have d2 := hT3.cell 2 rfl
          have hx3 := hX3.cell 0 rfl
          have hSa := hS3.alloc (.cells #[.int .u8 kd, .string tx, .int .i64 ps] 27)
          have hNa := Blk.new w3 #[.int .u8 kd, .string tx, .int .i64 ps] 27
          have hlt3 := hS3.lt
          have hltx3 := hX3.lt
          have hneT : w3.heap.size ≠ B := by omega
          have hneX : w3.heap.size ≠ Bx := by omega
          have hgeW : W.heap.size ≤ w3.heap.size := hfr3.size
          gi_wp2_with (gi_at_call 46; refine (callsIn_wide.2 (next_is B s k o _ hSa hs hk t4 k4 o4 Hn4 kd4 tx4 ps4 Ht4)).mono ?_; rintro e w4 ⟨rfl, hS4, hg4⟩; have hN4 := hNa.grown hg4 (by simp; omega); have e0 := hN4.cell 0 rfl; have e1 := hN4.cell 1 rfl; have e2 := hN4.cell 2 rfl; have g0 := hN4.frozen 0; have g1 := hN4.frozen 1; have g2 := hN4.frozen 2)
          go_roundw
          case rel =>
            obtain ⟨f', q1, q2, q3⟩ := toksF_next Hn4.out hk (Hf1.out rfl)
            have hz4 := hg4.size
            simp at hz4
            have hltp := HJ.out.lt _ _ _ (show J (pre ++ [⟨kd, tx, ps⟩]) fp3 w3 from by simpa using hc3)
            have hnT : w3.heap.size ∉ fp3 := fun h => by have := hltp _ h; omega
            refine ⟨pre ++ [⟨kd, tx, ps⟩], fp3, k4, o4, w3.heap.size, t4, kd4, tx4, ps4, rfl, rfl, Ht4, ?_, ?_⟩
            · exact ((hN4.set 0 _).set 1 _).set 2 _
            · have hS5 : Scan (((w4.setCell ⟨w3.heap.size, 0, none⟩ (.int .u8 kd4)).setCell ⟨w3.heap.size, 1, none⟩ (.string tx4)).setCell ⟨w3.heap.size, 2, none⟩ (.int .i64 ps4)) B s k4 o4 := by
                (repeat (first | with_reducible exact hS4 | with_reducible refine Scan.drew ?_ | with_reducible refine Scan.drewN ?_ _ | with_reducible refine Scan.alloc ?_ _ | refine Scan.other ?_ _ hneT.symm _ | refine Scan.at (k := k) ?_ _ | refine Scan.at' ?_))
              refine ⟨hS5, ?_, ?_, ?_, hfp3, hnT, m2, m3, hneT, by omega, by omega, ?_, ⟨f', q2, ?_⟩, ?_⟩
              · cases t4 with
                | none => exact (nextT_none Hn4.out hk).1
                | some t => exact (nextT_le Hn4.out hk).1
              · exact Blk.setOther (Blk.setOther (Blk.setOther ((hX3.alloc _).grown hg4 (by simp [hne.symm])) _ hneX.symm _) _ hneX.symm _) _ hneX.symm _
              · refine HJ.out.stable _ _ _ _ (by simpa using hc3) (by simp; omega) fun b hb => ?_
                have hb' := hltp b hb
                have hb4 : b ≠ w3.heap.size := by omega
                rw [Below.heap_setCell _ _ _ _ hb4, Below.heap_setCell _ _ _ _ hb4, Below.heap_setCell _ _ _ _ hb4]
                rw [hg4.block b (by simp; omega) (by rintro h; cases h; exact m2 hb), Below.heap_alloc _ _ _ hb']
              · refine Frm.setCell (Frm.setCell (Frm.setCell ?_ (.inr hgeW) _) (.inr hgeW) _) (.inr hgeW) _
                exact (hfr3.alloc _).trans_new (Frm.of_grown hg4 [B] (by simp)) (by simp)
              · rw [Hf2.out]; simp; exact q1
              · rintro t rfl; exact ⟨_, _, Hn4.out⟩
          case measure =>
            have hS5 : Scan (((w4.setCell ⟨w3.heap.size, 0, none⟩ (.int .u8 kd4)).setCell ⟨w3.heap.size, 1, none⟩ (.string tx4)).setCell ⟨w3.heap.size, 2, none⟩ (.int .i64 ps4)) B s k4 o4 := by
                (repeat (first | with_reducible exact hS4 | with_reducible refine Scan.drew ?_ | with_reducible refine Scan.drewN ?_ _ | with_reducible refine Scan.alloc ?_ _ | refine Scan.other ?_ _ hneT.symm _ | refine Scan.at (k := k) ?_ _ | refine Scan.at' ?_))
            rw [scanM_eq hS5, scanM_eq hS]
            cases t4 with
            | none => have := (nextT_none Hn4.out hk).2; simp [boolNat]; omega
            | some t => have := (nextT_le Hn4.out hk).2; simp [boolNat]; omega
end Go.Proofs.Ytckpkgnnbnfoeaa
