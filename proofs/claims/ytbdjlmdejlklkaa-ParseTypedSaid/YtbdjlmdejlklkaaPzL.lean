/-
  WALK2. Chapter 05: ParseTyped answers true. Conditions: the text's length.
-/
import Derived.Test.YtbdjlmdejlklkaaPzK
set_option linter.unusedSimpArgs false
set_option linter.unusedVariables false
namespace Go.Proofs.Ytbdjlmdejlklkaa
open Go.RowKit
set_option maxRecDepth 100000
theorem tokRead_held {W w : World} {rs : List Res} {ts : List Tok} {A : Option Addr} {C i : Nat} {S : Nat → Prop} (H : Own W none w rs) (hi : rs[i]? = some (.held S A 3 (rowsT ts))) : TokRead w (.slice A ts.length C) (ups ts) := by
  by_cases h0 : ts = []
  · subst h0; exact .inl ⟨rfl, A, C, rfl⟩
  · obtain ⟨t0, r0, rfl⟩ := List.exists_cons_of_ne_nil h0
    obtain ⟨b, off, rfl, _⟩ := H.held i hi 0 _ (rowsT_get (j := 0) rfl)
    refine .inr ⟨b, off, C, by simp [ups], fun j t hj => ?_⟩
    unfold ups at hj
    rw [List.getElem?_map] at hj
    obtain ⟨t', ht', rfl⟩ := Option.map_eq_some_iff.1 hj
    have hr := heldRow H i hi (rowsT_get ht')
    exact ⟨hr 0 _ rfl, hr 1 _ rfl, hr 2 _ rfl⟩
theorem typed_val (s : ByteArray) : (⟨(typeG false (ups (toks s))).toArray⟩ : ByteArray) = typed s := rfl
theorem typed_len {s : ByteArray} : (typeG false (ups (toks s))).length ≤ 2 * s.size := by
  have := typed_size s
  unfold typed at this
  rwa [mk_size] at this
set_option maxHeartbeats 16000000 in
theorem parseTyped_any (s : ByteArray) (w0 : World) (hs : s.size ≤ maxLen) : Calls Try.prog 6 #[.string s] w0 fun e w' => e = .returned (.bool true) ∧ Below w0.heap.size w0 w' := by
  have H := Own.start w0 none
  refine enterF Try.func6 rfl Try.ntmps6 rfl (fun a F => ?_)
  refine cSeq (fun K1 hK1 => ?_)
  refine cReg ?_
  refine sAs F rfl rfl rfl ?_;clear F a;intro a F
  refine sNil ?_
  refine hK1 _ _ ?_; clear hK1
  refine cSeq (fun K2 hK2 => ?_)
  refine cSeq (fun K3 hK3 => ?_)
  refine cReg ?_
  refine sCall Try.call8 F rfl rfl rfl (awake5_any _) ?_
  rintro e w ⟨rfl, hb⟩
  replace H := H.grow hb; clear hb
  refine ⟨_, rfl, ?_⟩
  clear F a; intro a F
  refine sNot F rfl rfl rfl ?_;clear F a;intro a F
  refine sNil ?_
  refine hK3 _ _ ?_; clear hK3
  refine cIf F rfl (fun h13 => ?_) (fun h13 => ?_)
  ·
   replace h13 := notT h13
   cases h13
  replace h13 := notF h13
  refine wp_skip ?_
  refine hK2 _ _ ?_; clear hK2
  refine cSeq (fun K4 hK4 => ?_)
  refine cReg ?_
  refine sMv F rfl rfl rfl ?_;clear F a;intro a F
  refine sCall Try.call16 F rfl rfl rfl (lex_own s hs H) ?_
  rintro e w ⟨A, n, C, pe, er, S, rows, rfl, H, hSb, hl⟩
  refine ⟨_, rfl, ?_⟩
  clear F a; intro a F
  refine sMv F rfl rfl rfl ?_;clear F a;intro a F
  refine sExt F rfl rfl rfl rfl ?_;clear F a;intro a F
  refine sExt F rfl rfl rfl rfl ?_;clear F a;intro a F
  refine sExt F rfl rfl rfl rfl ?_;clear F a;intro a F
  refine sAs F rfl rfl rfl ?_;clear F a;intro a F
  refine sAs F rfl rfl rfl ?_;clear F a;intro a F
  refine sAs F rfl rfl rfl ?_;clear F a;intro a F
  refine sNil ?_
  refine hK4 _ _ ?_; clear hK4
  refine cSeq (fun K5 hK5 => ?_)
  refine cReg ?_
  refine sMv F rfl rfl rfl ?_;clear F a;intro a F
  refine sCall Try.call11 F rfl rfl rfl (pparse2_any s hs H) ?_
  rintro e w ⟨p, pl, er1, m1, rfl, hh1, H, hp⟩
  refine ⟨_, rfl, ?_⟩
  clear F a; intro a F
  refine sMv F rfl rfl rfl ?_;clear F a;intro a F
  refine sExt F rfl rfl rfl rfl ?_;clear F a;intro a F
  refine sExt F rfl rfl rfl rfl ?_;clear F a;intro a F
  refine sExt F rfl rfl rfl rfl ?_;clear F a;intro a F
  refine sAl H Try.zeroValue33 F rfl rfl ?_
  clear F a H; intro b6 a w F H
  refine sSr H 0 ?si F rfl rfl rfl ?s1 rfl rfl ?_
  case si => exact info_size Try.sizeOf33
  case s1 => first | rfl | (repeat (first | exact one_nil | (apply one_cons; · first | rfl | assumption | exact one_bif rfl rfl)))
  clear H; intro w H
  refine sAs F rfl rfl rfl ?_;clear F a;intro a F
  refine sAs F rfl rfl rfl ?_;clear F a;intro a F
  refine sNil ?_
  refine hK5 _ _ ?_; clear hK5
  refine cSeq (fun K6 hK6 => ?_)
  refine cSeq (fun K7 hK7 => ?_)
  refine cReg ?_
  refine sMv F rfl rfl rfl ?_;clear F a;intro a F
  refine sBin F rfl rfl rfl rfl bNeq ?_;clear F a;intro a F
  refine sNil ?_
  refine hK7 _ _ ?_; clear hK7
  refine cIf F rfl (fun h27 => ?_) (fun h27 => ?_)
  ·
   replace h27 := bneT h27
   obtain hlb : lexBad s = some (pe, er) := by
     rcases hl with ⟨h, _⟩ | ⟨_, h⟩
     · exact absurd h h27
     · exact h
   obtain ⟨rfl, rfl, rfl, _⟩ := pparse_out hp (runR_bad hlb)
   refine cSeq (fun K8 hK8 => ?_)
   refine cReg ?_
   refine sMv F rfl rfl rfl ?_;clear F a;intro a F
   refine sMv F rfl rfl rfl ?_;clear F a;intro a F
   refine sBin F rfl rfl rfl rfl bEql ?_;clear F a;intro a F
   refine sMv F rfl rfl rfl ?_;clear F a;intro a F
   refine F.split 31 rfl ?_ ?_ <;> (clear F; intro h31 F)
   ·
    replace h31 := beqT h31
    refine sMv F rfl rfl rfl ?_;clear F a;intro a F
    refine sMv F rfl rfl rfl ?_;clear F a;intro a F
    refine sBin F rfl rfl rfl rfl bEql ?_;clear F a;intro a F
    refine sPk F rfl rfl rfl rfl ?_;clear F a;intro a F
    refine sMv F rfl rfl rfl ?_;clear F a;intro a F
    refine F.split 36 rfl ?_ ?_ <;> (clear F; intro h36 F)
    ·
     replace h36 := beqT h36
     refine sLr Try.underlying33 rfl ?si F rfl rfl rfl (H.whole 0 rfl) ?_
     case si => exact info_size Try.sizeOf33
     clear F a; intro a F
     refine sBd (places := [(0, 1), (1, 1), (2, 1), (3, 1), (4, 1), (5, 5)]) Try.zeroValue33 Try.underlying33 (by kernel_rfl) F rfl rfl rfl rfl ?_;clear F a;intro a F
     refine sCall Try.call17 F rfl rfl rfl (sameP_any (progIn_of (H.prw 1 rfl) psz_zero) (progIn_zero _) rfl) ?_
     rintro e w ⟨rfl, hb⟩
     replace H := H.grow hb; clear hb
     refine ⟨_, rfl, ?_⟩
     clear F a; intro a F
     refine sPk F rfl rfl rfl rfl ?_;clear F a;intro a F
     refine sAs F rfl rfl rfl ?_;clear F a;intro a F
     refine sNil ?_
     refine hK8 _ _ ?_; clear hK8
     refine wp_ret ?_
     simp only [Exit.then]
     refine bRet Try.results6 F rfl ?_
     first | exact ⟨rfl, H.below⟩
    replace h36 := beqF h36
    exact absurd rfl h36
   replace h31 := beqF h31
   exact absurd rfl h31
  replace h27 := bneF h27
  obtain ⟨rfl, rfl, hlb, rfl, rfl⟩ : er = 0 ∧ pe = 0 ∧ lexBad s = none ∧ n = (toks s).length ∧ rows = rowsT (toks s) := by
    rcases hl with h | ⟨h, _⟩
    · exact h
    · exact absurd h27 h
  have htl := toks_len s
  have hsl := lexBad_sizeP hlb
  refine wp_skip ?_
  refine hK6 _ _ ?_; clear hK6
  refine cSeq (fun K9 hK9 => ?_)
  refine cSeq (fun K10 hK10 => ?_)
  refine cReg ?_
  refine sMv F rfl rfl rfl ?_;clear F a;intro a F
  refine sLenS Try.underlying9 F rfl rfl rfl ?_;clear F a;intro a F
  refine sBin F rfl rfl rfl rfl bGtr ?_;clear F a;intro a F
  refine sNil ?_
  refine hK10 _ _ ?_; clear hK10
  refine cIf F rfl (fun h43 => ?_) (fun h43 => ?_)
  ·
   replace h43 := of_decide_eq_true h43
   refine cSeq (fun K11 hK11 => ?_)
   refine cReg ?_
   refine sAs F rfl rfl rfl ?_;clear F a;intro a F
   refine sNil ?_
   refine hK11 _ _ ?_; clear hK11
   refine wp_ret ?_
   simp only [Exit.then]
   refine bRet Try.results6 F rfl ?_
   first | exact ⟨rfl, H.below⟩
  replace h43 := of_decide_eq_false h43
  have hs4 : s.size ≤ 5000 := by omega
  have htz : (typed s).size ≤ maxLen := by have := typed_size s; unfold maxLen; omega
  refine wp_skip ?_
  refine hK9 _ _ ?_; clear hK9
  refine cSeq (fun K12 hK12 => ?_)
  refine cReg ?_
  refine sMv F rfl rfl rfl ?_;clear F a;intro a F
  refine sCall Try.call18 F rfl rfl rfl (type_any A (toks s).length C (ups (toks s)) _ (tokRead_held H (i := 2) rfl) (fun k hk => (H.foot 2 _ rfl k (hSb k hk)).2) (by unfold ups; rw [List.length_map]; omega) (by have := typed_len (s := s); omega)) ?_
  rintro e w ⟨rfl, hb⟩
  replace H := H.grow hb; clear hb
  refine ⟨_, rfl, ?_⟩
  clear F a; intro a F
  refine sCall Try.call11 F rfl rfl rfl (pparse2_any (typed s) htz H) ?_
  rintro e w ⟨p2, pl2, er2, m2, rfl, hh2, H, hp2⟩
  have hsim : p = p2 ∧ er1 = er2 ∧ PSz p ∧ PSz p2 ∧ (er1 = 0 ∧ pl = 0 ∧ pl2 = 0 ∨ er1 ≠ 0 ∧ p = zPrg ∧ ((∃ (i : Nat) (t : Tok), (toks s)[i]? = some t ∧ t.pos = pl) ∨ pl = s.size)) := by
    rcases typed_parse hlb hs4 with ⟨q, h1, h2⟩ | ⟨a, b, c, h1, h2, h3⟩
    · obtain ⟨rfl, rfl, rfl⟩ := pparse_in hp h1
      obtain ⟨rfl, rfl, rfl⟩ := pparse_in hp2 h2
      exact ⟨rfl, rfl, psz_of h1, psz_of h1, .inl ⟨rfl, rfl, rfl⟩⟩
    · obtain ⟨rfl, rfl, rfl, hne⟩ := pparse_out hp h1
      obtain ⟨rfl, rfl, rfl, _⟩ := pparse_out hp2 h2
      exact ⟨rfl, rfl, psz_zero, psz_zero, .inr ⟨hne, rfl, h3⟩⟩
  obtain ⟨hpq, rfl, hz1, hz2, hlast⟩ := hsim
  refine ⟨_, rfl, ?_⟩
  clear F a; intro a F
  refine sMv F rfl rfl rfl ?_;clear F a;intro a F
  refine sExt F rfl rfl rfl rfl ?_;clear F a;intro a F
  refine sExt F rfl rfl rfl rfl ?_;clear F a;intro a F
  refine sExt F rfl rfl rfl rfl ?_;clear F a;intro a F
  refine sAl H Try.zeroValue33 F rfl rfl ?_
  clear F a H; intro b9 a w F H
  refine sSr H 0 ?si F rfl rfl rfl ?s1 rfl rfl ?_
  case si => exact info_size Try.sizeOf33
  case s1 => first | rfl | (repeat (first | exact one_nil | (apply one_cons; · first | rfl | assumption | exact one_bif rfl rfl)))
  clear H; intro w H
  refine sAs F rfl rfl rfl ?_;clear F a;intro a F
  refine sAs F rfl rfl rfl ?_;clear F a;intro a F
  refine sNil ?_
  refine hK12 _ _ ?_; clear hK12
  refine cSeq (fun K13 hK13 => ?_)
  refine cSeq (fun K14 hK14 => ?_)
  refine cReg ?_
  refine sMv F rfl rfl rfl ?_;clear F a;intro a F
  refine sMv F rfl rfl rfl ?_;clear F a;intro a F
  refine sBin F rfl rfl rfl rfl bNeq ?_;clear F a;intro a F
  refine sMv F rfl rfl rfl ?_;clear F a;intro a F
  refine F.split 54 rfl ?_ ?_ <;> (clear F; intro h54 F)
  ·
   replace h54 := bneT h54
   exact absurd rfl h54
  replace h54 := bneF h54
  refine sLr Try.underlying33 rfl ?si F rfl rfl rfl (H.whole 2 rfl) ?_
  case si => exact info_size Try.sizeOf33
  clear F a; intro a F
  refine sLr Try.underlying33 rfl ?si F rfl rfl rfl (H.whole 0 rfl) ?_
  case si => exact info_size Try.sizeOf33
  clear F a; intro a F
  refine sCall Try.call17 F rfl rfl rfl (sameP_any (progIn_of (H.prw 3 rfl) hz1) (progIn_of (H.prw 1 rfl) hz2) hpq) ?_
  rintro e w ⟨rfl, hb⟩
  replace H := H.grow hb; clear hb
  refine ⟨_, rfl, ?_⟩
  clear F a; intro a F
  refine sNot F rfl rfl rfl ?_;clear F a;intro a F
  refine sPk F rfl rfl rfl rfl ?_;clear F a;intro a F
  refine sNil ?_
  refine hK14 _ _ ?_; clear hK14
  refine cIf F rfl (fun h59 => ?_) (fun h59 => ?_)
  ·
   replace h59 := notT h59
   cases h59
  replace h59 := notF h59
  refine wp_skip ?_
  refine hK13 _ _ ?_; clear hK13
  refine cSeq (fun K15 hK15 => ?_)
  refine cSeq (fun K16 hK16 => ?_)
  refine cReg ?_
  refine sMv F rfl rfl rfl ?_;clear F a;intro a F
  refine sBin F rfl rfl rfl rfl bEql ?_;clear F a;intro a F
  refine sNil ?_
  refine hK16 _ _ ?_; clear hK16
  refine cIf F rfl (fun h61 => ?_) (fun h61 => ?_)
  ·
   replace h61 := beqT h61
   obtain ⟨rfl, rfl⟩ : pl = 0 ∧ pl2 = 0 := by
     rcases hlast with ⟨_, h1, h2⟩ | ⟨h, _⟩
     · exact ⟨h1, h2⟩
     · exact absurd h61 h
   refine cSeq (fun K17 hK17 => ?_)
   refine cReg ?_
   refine sMv F rfl rfl rfl ?_;clear F a;intro a F
   refine sBin F rfl rfl rfl rfl bEql ?_;clear F a;intro a F
   refine sMv F rfl rfl rfl ?_;clear F a;intro a F
   refine F.split 64 rfl ?_ ?_ <;> (clear F; intro h64 F)
   ·
    replace h64 := beqT h64
    refine sMv F rfl rfl rfl ?_;clear F a;intro a F
    refine sBin F rfl rfl rfl rfl bEql ?_;clear F a;intro a F
    refine sPk F rfl rfl rfl rfl ?_;clear F a;intro a F
    refine sAs F rfl rfl rfl ?_;clear F a;intro a F
    refine sNil ?_
    refine hK17 _ _ ?_; clear hK17
    refine wp_ret ?_
    simp only [Exit.then]
    refine bRet Try.results6 F rfl ?_
    first | exact ⟨rfl, H.below⟩
   replace h64 := beqF h64
   exact absurd rfl h64
  replace h61 := beqF h61
  obtain ⟨rfl, hpos⟩ : p = zPrg ∧ ((∃ (i : Nat) (t : Tok), (toks s)[i]? = some t ∧ t.pos = pl) ∨ pl = s.size) := by
    rcases hlast with ⟨h, _⟩ | ⟨_, h1, h2⟩
    · exact absurd h h61
    · exact ⟨h1, h2⟩
  refine wp_skip ?_
  refine hK15 _ _ ?_; clear hK15
  refine cSeq (fun K18 hK18 => ?_)
  refine cReg ?_
  refine sMv F rfl rfl rfl ?_;clear F a;intro a F
  refine sMv F rfl rfl rfl ?_;clear F a;intro a F
  refine sMv F rfl rfl rfl ?_;clear F a;intro a F
  refine sLenS Try.underlying9 F rfl rfl rfl ?_;clear F a;intro a F
  refine sCall Try.call19 F rfl rfl rfl (begins_any (toks s) A C pl s.size (by omega) hpos (H.sel [4, 0, 1, 2, 3] rfl rfl)) ?_
  rintro e w ⟨rfl, H⟩
  refine ⟨_, rfl, ?_⟩
  clear F a; intro a F
  refine sMv F rfl rfl rfl ?_;clear F a;intro a F
  refine F.split 73 rfl ?_ ?_ <;> (clear F; intro h73 F)
  ·
   refine sLr Try.underlying33 rfl ?si F rfl rfl rfl (H.whole 3 rfl) ?_
   case si => exact info_size Try.sizeOf33
   clear F a; intro a F
   refine sBd (places := [(0, 1), (1, 1), (2, 1), (3, 1), (4, 1), (5, 5)]) Try.zeroValue33 Try.underlying33 (by kernel_rfl) F rfl rfl rfl rfl ?_;clear F a;intro a F
   refine sCall Try.call17 F rfl rfl rfl (sameP_any (progIn_of (H.prw 4 rfl) psz_zero) (progIn_zero _) rfl) ?_
   rintro e w ⟨rfl, hb⟩
   replace H := H.grow hb; clear hb
   refine ⟨_, rfl, ?_⟩
   clear F a; intro a F
   refine sPk F rfl rfl rfl rfl ?_;clear F a;intro a F
   refine sAs F rfl rfl rfl ?_;clear F a;intro a F
   refine sNil ?_
   refine hK18 _ _ ?_; clear hK18
   refine wp_ret ?_
   refine bRet Try.results6 F rfl ?_
   first | exact ⟨rfl, H.below⟩
  cases h73
end Go.Proofs.Ytbdjlmdejlklkaa
