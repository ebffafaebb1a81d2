/-
  WALK2. The law of chapter 14: BufferOwn answers true. Conditions: what it is handed lies in memory; block 0 holds the table of needs.
-/
import Derived.Test.YtjephfjnohgcbaaDoorBwC
set_option linter.unusedSimpArgs false
set_option linter.unusedVariables false
namespace Go.Proofs.YtjephfjnohgcbaaDoor
open Go.RowKit
set_option maxRecDepth 100000

/-- What is known of a move, of what is seen. -/
structure OwnOf (p : Prg) (s z : By) (x : Pss) : Prop where
  t4 : x.t.toNat < 4
  tl : x.t.toNat < p.threads.length
  drain : x.d = true → ∀ loc : UInt8, loc.toNat < 6 → seenP z x.t.toNat loc = seenP s x.t.toNat loc
  own : x.d = false → ∀ l i, p.threads[x.t.toNat]? = some l → l[(s (x.t.toNat * 9)).toNat]? = some i → i.op = 2 → ∀ loc : UInt8, loc.toNat < 6 → seenP z x.t.toNat loc = if i.loc = loc then valA i (cut s (x.t.toNat * 9)) else seenP s x.t.toNat loc
  far : x.d = false → ∀ l i, p.threads[x.t.toNat]? = some l → l[(s (x.t.toNat * 9)).toNat]? = some i → i.op = 2 → ∀ u, u < 4 → u ≠ x.t.toNat → ∀ loc : UInt8, loc.toNat < 6 → seenP z u loc = seenP s u loc
theorem own_of {p : Prg} {m : UInt8} {s : By} {x : Pss} (hr : RightM p m s) (hx : x ∈ movesM p m s) (hm : m ≠ 1) : OwnOf p s (stepM p m s x) x := by
  have hw := went hr hx
  generalize stepM p m s x = z at hw
  cases hw with
  | @exec t l i h hn =>
    have hto := ofNat_to h.t4
    have e : (Pss.mk (UInt8.ofNat t) false 0).t.toNat = t := hto
    refine ⟨by rw [e]; exact h.t4, by rw [e]; exact (List.getElem?_eq_some_iff.1 h.hl).1, fun hd => (by cases hd), fun _ l' i' hl hi h2 loc hl6 => ?_, fun _ l' i' hl hi h2 u hu hne loc hl6 => ?_⟩
    · rw [e] at hl hi ⊢
      rw [h.hl] at hl; cases hl
      have := h.hx.symm.trans hi
      cases this
      exact h.seenOwn ⟨h2, hm⟩ hl6
    · rw [e] at hl hi hne
      rw [h.hl] at hl; cases hl
      have := h.hx.symm.trans hi
      cases this
      exact h.seenFar ⟨h2, hm⟩ hu hne hl6
  | @drain t i h hi he =>
    have hto := ofNat_to h.t4
    have e : (drainAt m s t i).t.toNat = t := hto
    have hne : manyB s t ≠ 0 := by omega
    obtain ⟨_, l, hl, _⟩ := (hr.many h.t4).2 hne
    refine ⟨by rw [e]; exact h.t4, by rw [e]; exact (List.getElem?_eq_some_iff.1 hl).1, fun _ loc hl6 => ?_, fun hd => (by cases hd), fun hd => (by cases hd)⟩
    rw [e]
    exact h.seen hl6
theorem and_t {a b : Bool} (h : a = true) : (a && b) = b := by rw [h]; rfl
theorem and_f {a b : Bool} (h : a = false) : (a && b) = false := by rw [h]; rfl
/-- What was seen, or was stored. -/
def wasP (p : Prg) (s : By) (t : Nat) (W : Bool) (loc : UInt8) : UInt8 := match nextI p s t with
  | some i => if W = true ∧ i.loc = loc then valA i (cut s (t * 9)) else seenP s t loc
  | none => seenP s t loc
theorem and_l {a b : Bool} (h : (a && b) = true) : a = true := (Bool.and_eq_true _ _ ▸ h : a = true ∧ b = true).1
theorem and_r {a b : Bool} (h : (a && !b) = true) : b = false := by cases b with | false => rfl | true => simp at h
theorem storeP_at {p : Prg} {s : By} {t : Nat} {l : List Ins} (hl : p.threads[t]? = some l) (h : storeP p s t = true) : ∃ i, l[(s (t * 9)).toNat]? = some i ∧ nextI p s t = some i ∧ i.op = 2 := by
  unfold storeP at h
  cases hn : nextI p s t with
  | none => rw [hn] at h; cases h
  | some i =>
    rw [hn] at h
    have hn2 := hn
    unfold nextI at hn2
    rw [hl] at hn2
    exact ⟨i, hn2, rfl, by simpa using h⟩
theorem was_t {p : Prg} {s : By} {t : Nat} {W : Bool} {loc : UInt8} {i : Ins} (hn : nextI p s t = some i) (hW : W = true) (h : i.loc = loc) : wasP p s t W loc = valA i (cut s (t * 9)) := by
  unfold wasP; rw [hn]; exact if_pos ⟨hW, h⟩
theorem was_t2 {p : Prg} {s : By} {t : Nat} {W : Bool} {loc : UInt8} {i : Ins} (hn : nextI p s t = some i) (hW : W = true) (h : i.loc = loc) : wasP p s t W loc = worthP i.aR i.aN (cut s (t * 9 + 1)) := by
  rw [was_t hn hW h, valA, show cut (cut s (t * 9)) 1 = cut s (t * 9 + 1) from funext fun k => by unfold cut; congr 1; omega]
theorem was_n {p : Prg} {s : By} {t : Nat} {W : Bool} {loc : UInt8} {i : Ins} (hn : nextI p s t = some i) (h : ¬ i.loc = loc) : wasP p s t W loc = seenP s t loc := by
  unfold wasP; rw [hn]; exact if_neg (fun hh => h hh.2)
theorem was_f {p : Prg} {s : By} {t : Nat} {W : Bool} {loc : UInt8} (hW : W = false) : wasP p s t W loc = seenP s t loc := by
  unfold wasP
  cases nextI p s t with
  | none => rfl
  | some i => exact if_neg (fun hh => by rw [hW] at hh; cases hh.1)
theorem own_was {p : Prg} {s z : By} {x : Pss} {W : Bool} {loc : UInt8} {l : List Ins} (O : OwnOf p s z x) (hl : p.threads[x.t.toNat]? = some l) (hW : (storeP p s x.t.toNat && !x.d) = W) (h6 : loc.toNat < 6) (h : x.d = true ∨ W = true) : seenP z x.t.toNat loc = wasP p s x.t.toNat W loc := by
  rcases h with h | h
  · rw [was_f (by rw [← hW, h]; simp)]
    exact O.drain h loc h6
  · have h1 := hW.trans h
    obtain ⟨i, hi1, hi2, hi3⟩ := storeP_at hl (and_l h1)
    rw [O.own (and_r h1) l i hl hi1 hi3 loc h6]
    split
    · rename_i e; rw [was_t hi2 h e]
    · rename_i e; rw [was_n hi2 e]
theorem far_was {p : Prg} {s z : By} {x : Pss} {loc : UInt8} {l : List Ins} {u : Nat} (O : OwnOf p s z x) (hl : p.threads[x.t.toNat]? = some l) (h1 : (storeP p s x.t.toNat && !x.d) = true) (hu : u < 4) (hne : u ≠ x.t.toNat) (h6 : loc.toNat < 6) : seenP z u loc = seenP s u loc := by
  obtain ⟨i, hi1, hi2, hi3⟩ := storeP_at hl (and_l h1)
  exact O.far (and_r h1) l i hl hi1 hi3 u hu hne loc h6
set_option maxHeartbeats 16000000 in
theorem bufferOwn_any (cs : List Value) (p : Prg) (w0 : World) (hP : ProgAt w0 cs p) (hN : NeedsAt w0) (pso : Bool) (PA : Option Addr) (PC : Nat) (picks : List UInt8) (hB : BytesAt w0 PA picks) (hBn : picks.length ≤ 9223372036854775807) (hBc : picks.length ≤ PC) (pick : UInt8) :
    Calls Tryd.prog 3 #[.agg cs.toArray, .bool pso, .slice PA picks.length PC, Go.Proofs.YtjephfjnohgcbaaDoor.b8 pick] w0 fun e w' => e = .returned (.bool true) ∧ Below w0.heap.size w0 w' := by
  have H := Own.start w0 none
  have hP0 := hP
  obtain ⟨LA, LC, IA, IC, TA, TC, h, ccs, hp⟩ := hP
  obtain ⟨c1, c2, c3, c4, c5, rfl⟩ := len5 (condAt_len hp.cond)
  have hcs := hp.cs
  subst hcs
  obtain ⟨mc, hmc⟩ : ∃ mc : UInt8, mc = if pso = true then 3 else 2 := ⟨_, rfl⟩
  have hk : knownM mc = true := by rw [hmc]; cases pso <;> decide
  have hm1 : mc ≠ 1 := by rw [hmc]; cases pso <;> decide
  refine enterF Tryd.func3 rfl Tryd.ntmps3 rfl (fun a F => ?_)
  refine cSeq (fun K1 hK1 => ?_)
  refine cReg ?_
  refine sBx H F rfl rfl rfl ?_
  clear F a H; intro b4 a w F H
  refine sAs F rfl rfl rfl ?_
  clear F a; intro a F
  refine sNil ?_
  refine hK1 _ _ ?_; clear hK1
  refine cSeq (fun K2 hK2 => ?_)
  refine cReg ?_
  refine sAs F rfl rfl rfl ?_
  clear F a; intro a F
  refine sNil ?_
  refine hK2 _ _ ?_; clear hK2
  refine cSeqJ [2, 3, 4] (fun ups w => ups = [(9, Go.Proofs.YtjephfjnohgcbaaDoor.b8 mc)] ∧ Own w0 none w [.blk b4 ([.string p.name, .slice LA p.locs.length LC, .slice IA p.init.length IC, .slice TA p.threads.length TC, Go.Proofs.YtjephfjnohgcbaaDoor.b8 p.ask] ++ [c1, c2, c3, c4, c5]) 29]) F (by repeat (first | exact SubR.nil | (apply SubR.cons; · rfl))) ?_ ?_
  ·
   refine cSeq (fun K3 hK3 => ?_)
   refine cReg ?_
   refine sMv F rfl rfl rfl ?_
   clear F a; intro a F
   refine sNil ?_
   refine hK3 _ _ ?_; clear hK3
   refine cIf F rfl (fun h23 => ?_) (fun h23 => ?_)
   ·
    refine cReg ?_
    refine sAs F rfl rfl rfl ?_
    clear F a; intro a F
    refine sNil ?_
    first
      | (rw [if_pos h23] at hmc
         subst hmc
         exact ⟨_, ⟨rfl, H.sel [0] rfl rfl⟩, F.to (by repeat (first | exact trivial | refine Le.cons rfl ?_))⟩)
      | (rw [if_neg (show ¬ pso = true by rw [h23]; simp)] at hmc
         subst hmc
         exact ⟨_, ⟨rfl, H.sel [0] rfl rfl⟩, F.to (by repeat (first | exact trivial | refine Le.cons rfl ?_))⟩)
   ·
    refine wp_skip ?_
    first
      | (rw [if_pos h23] at hmc
         subst hmc
         exact ⟨_, ⟨rfl, H.sel [0] rfl rfl⟩, F.to (by repeat (first | exact trivial | refine Le.cons rfl ?_))⟩)
      | (rw [if_neg (show ¬ pso = true by rw [h23]; simp)] at hmc
         subst hmc
         exact ⟨_, ⟨rfl, H.sel [0] rfl rfl⟩, F.to (by repeat (first | exact trivial | refine Le.cons rfl ?_))⟩)
  clear F H
  intro ups a w hI F
  obtain ⟨rfl, H⟩ := hI
  refine cSeq (fun K4 hK4 => ?_)
  refine cReg ?_
  refine sLr Tryd.underlying29 rfl ?si F rfl rfl rfl (H.whole 0 rfl) ?_
  case si => exact info_size Tryd.sizeOf29
  clear F a; intro a F
  refine sMv F rfl rfl rfl ?_
  clear F a; intro a F
  refine sMv F rfl rfl rfl ?_
  clear F a; intro a F
  refine sCall Tryd.call9 F rfl rfl rfl (behind14_any _ p _ (hP0.own H) (hN.own H) mc hk PA PC picks (RowsAt.own hB H) hBn hBc) ?_
  rintro e w ⟨s, rfl, hok, hb⟩
  replace H := H.grow hb; clear hb
  refine ⟨_, rfl, ?_⟩
  clear F a; intro a F
  refine sMv F rfl rfl rfl ?_
  clear F a; intro a F
  refine sExt F rfl rfl rfl rfl ?_
  clear F a; intro a F
  refine sExt F rfl rfl rfl rfl ?_
  clear F a; intro a F
  refine sAlB H zB41 F rfl rfl ?_
  clear F a H; intro b10 a w F H
  refine sSrB H 0 Tryd.sizeOf41 F rfl rfl rfl rfl (by omega) ?_
  clear H; intro w H
  rw [lay_all] at H
  refine sAs F rfl rfl rfl ?_
  clear F a; intro a F
  refine sNil ?_
  refine hK4 _ _ ?_; clear hK4
  refine cSeq (fun K5 hK5 => ?_)
  refine cReg ?_
  refine sLr Tryd.underlying29 rfl ?si F rfl rfl rfl (H.whole 1 rfl) ?_
  case si => exact info_size Tryd.sizeOf29
  clear F a; intro a F
  refine sMv F rfl rfl rfl ?_
  clear F a; intro a F
  refine sLrB Tryd.underlying41 rfl Tryd.sizeOf41 F rfl rfl rfl (H.whole 0 rfl) ?_
  clear F a; intro a F
  refine sCall Tryd.call10 F rfl rfl rfl (movesR_any _ p _ (hP0.own H) (hN.own H) mc s) ?_
  rintro e w ⟨A, c, rfl, H2⟩
  replace H := H.join H2; clear H2
  refine ⟨_, rfl, ?_⟩
  clear F a; intro a F
  refine sAs F rfl rfl rfl ?_
  clear F a; intro a F
  refine sNil ?_
  refine hK5 _ _ ?_; clear hK5
  refine cSeq (fun K6 hK6 => ?_)
  refine cSeq (fun K7 hK7 => ?_)
  refine cReg ?_
  refine sMv F rfl rfl rfl ?_
  clear F a; intro a F
  refine sNot F rfl rfl rfl ?_
  clear F a; intro a F
  refine sMv F rfl rfl rfl ?_
  clear F a; intro a F
  refine F.split 37 rfl ?_ ?_ <;> (clear F; intro h37 F)
  ·
   replace h37 := notT h37
   have hne : rightErr p ≠ 0 := fun h0 => by rw [startE, if_pos h0] at h37; simp at h37
   refine sSk F rfl rfl ?_
   clear F a; intro a F
   refine sSk F rfl rfl ?_
   clear F a; intro a F
   refine sSk F rfl rfl ?_
   clear F a; intro a F
   refine sPk F rfl rfl rfl rfl ?_
   clear F a; intro a F
   refine sNil ?_
   refine hK7 _ _ ?_; clear hK7
   refine cIfT F rfl ?_
   refine cSeq (fun K8 hK8 => ?_)
   refine cReg ?_
   refine sMv F rfl rfl rfl ?_
   clear F a; intro a F
   refine sMv F rfl rfl rfl ?_
   clear F a; intro a F
   refine F.split 43 rfl ?_ ?_ <;> (clear F; intro h43 F)
   ·
    refine sSk F rfl rfl ?_
    clear F a; intro a F
    refine sSk F rfl rfl ?_
    clear F a; intro a F
    refine sSk F rfl rfl ?_
    clear F a; intro a F
    refine sPk F rfl rfl rfl rfl ?_
    clear F a; intro a F
    refine sMv F rfl rfl rfl ?_
    clear F a; intro a F
    refine sCall Tryd.call12 F rfl rfl rfl (awake14_any _ (hN.own H)) ?_
    rintro e w ⟨rfl, hb⟩
    replace H := H.grow hb; clear hb
    refine ⟨_, rfl, ?_⟩
    clear F a; intro a F
    refine sPk F rfl rfl rfl rfl ?_
    clear F a; intro a F
    refine sAs F rfl rfl rfl ?_
    clear F a; intro a F
    refine sNil ?_
    refine hK8 _ _ ?_; clear hK8
    refine wp_ret ?_
    simp only [Exit.then]
    refine bRet Tryd.results3 F rfl ?_
    first
      | exact ⟨rfl, H.below⟩
      | exact absurd h48 hne
      | exact absurd h43 (by rw [startE, if_pos hp0]; decide)
   ·
    refine sLr Tryd.underlying29 rfl ?si F rfl rfl rfl (H.whole 2 rfl) ?_
    case si => exact info_size Tryd.sizeOf29
    clear F a; intro a F
    refine sCall Tryd.call11 F rfl rfl rfl (right_any' _ p _ (hP0.own H) (hN.own H)) ?_
    rintro e w ⟨rfl, hb⟩
    replace H := H.grow hb; clear hb
    refine ⟨_, rfl, ?_⟩
    clear F a; intro a F
    refine sBin F rfl rfl rfl rfl bNeq ?_
    clear F a; intro a F
    refine sPk F rfl rfl rfl rfl ?_
    clear F a; intro a F
    refine sMv F rfl rfl rfl ?_
    clear F a; intro a F
    refine F.split 48 rfl ?_ ?_ <;> (clear F; intro h48 F)
    ·
     replace h48 := bneT h48
     refine sCall Tryd.call12 F rfl rfl rfl (awake14_any _ (hN.own H)) ?_
     rintro e w ⟨rfl, hb⟩
     replace H := H.grow hb; clear hb
     refine ⟨_, rfl, ?_⟩
     clear F a; intro a F
     refine sPk F rfl rfl rfl rfl ?_
     clear F a; intro a F
     refine sAs F rfl rfl rfl ?_
     clear F a; intro a F
     refine sNil ?_
     refine hK8 _ _ ?_; clear hK8
     refine wp_ret ?_
     simp only [Exit.then]
     refine bRet Tryd.results3 F rfl ?_
     first
       | exact ⟨rfl, H.below⟩
       | exact absurd h48 hne
       | exact absurd h43 (by rw [startE, if_pos hp0]; decide)
    ·
     replace h48 := bneF h48
     refine sSk F rfl rfl ?_
     clear F a; intro a F
     refine sPk F rfl rfl rfl rfl ?_
     clear F a; intro a F
     refine sAs F rfl rfl rfl ?_
     clear F a; intro a F
     refine sNil ?_
     refine hK8 _ _ ?_; clear hK8
     refine wp_ret ?_
     simp only [Exit.then]
     refine bRet Tryd.results3 F rfl ?_
     first
       | exact ⟨rfl, H.below⟩
       | exact absurd h48 hne
       | exact absurd h43 (by rw [startE, if_pos hp0]; decide)
  ·
   replace h37 := notF h37
   have hp0 : rightErr p = 0 := by
    apply Decidable.byContradiction
    intro h0
    rw [startE, if_neg h0] at h37
    simp at h37
   refine sMv F rfl rfl rfl ?_
   clear F a; intro a F
   refine sLen Tryd.underlying44 F rfl rfl rfl ?_
   clear F a; intro a F
   refine sBin F rfl rfl rfl rfl bEql ?_
   clear F a; intro a F
   refine sPk F rfl rfl rfl rfl ?_
   clear F a; intro a F
   refine sNil ?_
   refine hK7 _ _ ?_; clear hK7
   refine cIf F rfl (fun h41 => ?_) (fun h41 => ?_)
   ·
    replace h41 := beqT h41
    refine cSeq (fun K9 hK9 => ?_)
    refine cReg ?_
    refine sMv F rfl rfl rfl ?_
    clear F a; intro a F
    refine sMv F rfl rfl rfl ?_
    clear F a; intro a F
    refine F.split 43 rfl ?_ ?_ <;> (clear F; intro h43 F)
    ·
     refine sSk F rfl rfl ?_
     clear F a; intro a F
     refine sSk F rfl rfl ?_
     clear F a; intro a F
     refine sSk F rfl rfl ?_
     clear F a; intro a F
     refine sPk F rfl rfl rfl rfl ?_
     clear F a; intro a F
     refine sMv F rfl rfl rfl ?_
     clear F a; intro a F
     refine sCall Tryd.call12 F rfl rfl rfl (awake14_any _ (hN.own H)) ?_
     rintro e w ⟨rfl, hb⟩
     replace H := H.grow hb; clear hb
     refine ⟨_, rfl, ?_⟩
     clear F a; intro a F
     refine sPk F rfl rfl rfl rfl ?_
     clear F a; intro a F
     refine sAs F rfl rfl rfl ?_
     clear F a; intro a F
     refine sNil ?_
     refine hK9 _ _ ?_; clear hK9
     refine wp_ret ?_
     simp only [Exit.then]
     refine bRet Tryd.results3 F rfl ?_
     first
       | exact ⟨rfl, H.below⟩
       | exact absurd h48 hne
       | exact absurd h43 (by rw [startE, if_pos hp0]; decide)
    ·
     refine sLr Tryd.underlying29 rfl ?si F rfl rfl rfl (H.whole 2 rfl) ?_
     case si => exact info_size Tryd.sizeOf29
     clear F a; intro a F
     refine sCall Tryd.call11 F rfl rfl rfl (right_any' _ p _ (hP0.own H) (hN.own H)) ?_
     rintro e w ⟨rfl, hb⟩
     replace H := H.grow hb; clear hb
     refine ⟨_, rfl, ?_⟩
     clear F a; intro a F
     refine sBin F rfl rfl rfl rfl bNeq ?_
     clear F a; intro a F
     refine sPk F rfl rfl rfl rfl ?_
     clear F a; intro a F
     refine sMv F rfl rfl rfl ?_
     clear F a; intro a F
     refine F.split 48 rfl ?_ ?_ <;> (clear F; intro h48 F)
     ·
      replace h48 := bneT h48
      refine sCall Tryd.call12 F rfl rfl rfl (awake14_any _ (hN.own H)) ?_
      rintro e w ⟨rfl, hb⟩
      replace H := H.grow hb; clear hb
      refine ⟨_, rfl, ?_⟩
      clear F a; intro a F
      refine sPk F rfl rfl rfl rfl ?_
      clear F a; intro a F
      refine sAs F rfl rfl rfl ?_
      clear F a; intro a F
      refine sNil ?_
      refine hK9 _ _ ?_; clear hK9
      refine wp_ret ?_
      simp only [Exit.then]
      refine bRet Tryd.results3 F rfl ?_
      first
        | exact ⟨rfl, H.below⟩
        | exact absurd h48 hne
        | exact absurd h43 (by rw [startE, if_pos hp0]; decide)
     ·
      replace h48 := bneF h48
      refine sSk F rfl rfl ?_
      clear F a; intro a F
      refine sPk F rfl rfl rfl rfl ?_
      clear F a; intro a F
      refine sAs F rfl rfl rfl ?_
      clear F a; intro a F
      refine sNil ?_
      refine hK9 _ _ ?_; clear hK9
      refine wp_ret ?_
      simp only [Exit.then]
      refine bRet Tryd.results3 F rfl ?_
      first
        | exact ⟨rfl, H.below⟩
        | exact absurd h48 hne
        | exact absurd h43 (by rw [startE, if_pos hp0]; decide)
   ·
    replace h41 := beqF h41
    have hr := hok hp0
    have hpos : 0 < (movesR p mc s).length := by omega
    have hq : pick.toNat % (movesR p mc s).length < (movesR p mc s).length := Nat.mod_lt _ hpos
    obtain ⟨x, hx⟩ : ∃ k, (movesR p mc s)[pick.toNat % (movesR p mc s).length]? = some k := ⟨_, List.getElem?_eq_getElem hq⟩
    obtain ⟨bL, oL, rfl, _⟩ := H.rowsAt 0 rfl (rowX _) (by decide) _ _ (by rw [List.getElem?_map, hx]; rfl)
    have hmem : x ∈ movesR p mc s := List.mem_of_getElem? hx
    obtain ⟨_, hxm⟩ := mem_movesR hmem
    have O := own_of hr hxm hm1
    have ht4 := O.t4
    have htl := O.tl
    have hV4 := (valid hp0).thr4
    have hV6 := (valid hp0).locs6
    obtain ⟨l, hl⟩ : ∃ l, p.threads[x.t.toNat]? = some l := ⟨_, List.getElem?_eq_getElem htl⟩
    obtain ⟨bT, oT, BT, CT, rfl, hT1, hT2, hT3⟩ := hp.threads x.t.toNat l hl
    have eS : moveSM p mc s x = stepM p mc s x := if_pos hmem
    have eE : moveEM p mc s x = 0 := if_pos hmem
    refine wp_skip ?_
    refine hK6 _ _ ?_; clear hK6
    refine cSeq (fun K10 hK10 => ?_)
    refine cReg ?_
    refine sMv F rfl rfl rfl ?_
    clear F a; intro a F
    refine sMv F rfl rfl rfl ?_
    clear F a; intro a F
    refine sCv Tryd.underlying5 Tryd.underlying3 F rfl rfl rfl (wrapB _) ?_
    clear F a; intro a F
    refine sMv F rfl rfl rfl ?_
    clear F a; intro a F
    refine sLen Tryd.underlying44 F rfl rfl rfl ?_
    clear F a; intro a F
    refine sBin F rfl rfl rfl rfl (bRemN ?_) ?_
    focus omega
    clear F a; intro a F
    refine sIx Tryd.underlying44 Tryd.sizeOf50 F rfl rfl rfl rfl ?_ ?_
    focus exact hq
    clear F a; intro a F
    refine sLr Tryd.underlying50 rfl ?si F rfl rfl rfl (by obtain ⟨b', o', h1, h2⟩ := H.rowsAt 0 rfl (rowX _) (by decide) _ _ (by rw [List.getElem?_map, hx]; rfl); cases h1; exact h2) ?_
    case si => exact info_size Tryd.sizeOf50
    clear F a; intro a F
    refine sAl H Tryd.zeroValue50 F rfl rfl ?_
    clear F a H; intro b13 a w F H
    refine sSr H 0 ?si F rfl rfl rfl ?s1 rfl rfl ?_
    case si => exact info_size Tryd.sizeOf50
    case s1 => first | rfl | (repeat (first | exact one_nil | (apply one_cons; · first | rfl | assumption | exact one_bif rfl rfl)))
    clear H; intro w H
    refine sNil ?_
    refine hK10 _ _ ?_; clear hK10
    refine cSeq (fun K11 hK11 => ?_)
    refine cReg ?_
    refine sFa (f := 0) (k := 0) Tryd.underlying50 rfl Tryd.sizeOf5 rfl rfl F rfl rfl rfl ?_
    clear F a; intro a F
    refine sLd Tryd.isAgg5 F rfl rfl rfl (H.cell 0 rfl rfl) ?_
    clear F a; intro a F
    refine sCv Tryd.underlying5 Tryd.underlying3 F rfl rfl rfl (wrapB _) ?_
    clear F a; intro a F
    refine sAs F rfl rfl rfl ?_
    clear F a; intro a F
    refine sNil ?_
    refine hK11 _ _ ?_; clear hK11
    refine cSeq (fun K12 hK12 => ?_)
    refine cReg ?_
    refine sLr Tryd.underlying29 rfl ?si F rfl rfl rfl (H.whole 3 rfl) ?_
    case si => exact info_size Tryd.sizeOf29
    clear F a; intro a F
    refine sMv F rfl rfl rfl ?_
    clear F a; intro a F
    refine sLrB Tryd.underlying41 rfl Tryd.sizeOf41 F rfl rfl rfl (H.whole 2 rfl) ?_
    clear F a; intro a F
    refine sLr Tryd.underlying50 rfl ?si F rfl rfl rfl (H.whole 0 rfl) ?_
    case si => exact info_size Tryd.sizeOf50
    clear F a; intro a F
    refine sCall Tryd.call13 F rfl rfl rfl (moveM_any _ p _ (hP0.own H) (hN.own H) mc s x) ?_
    rintro e w ⟨rfl, hb⟩
    replace H := H.grow hb; clear hb
    refine ⟨_, rfl, ?_⟩
    clear F a; intro a F
    refine sMv F rfl rfl rfl ?_
    clear F a; intro a F
    refine sExt F rfl rfl rfl rfl ?_
    clear F a; intro a F
    refine sExt F rfl rfl rfl rfl ?_
    clear F a; intro a F
    refine sAlB H zB41 F rfl rfl ?_
    clear F a H; intro b15 a w F H
    refine sSrB H 0 Tryd.sizeOf41 F rfl rfl rfl rfl (by omega) ?_
    clear H; intro w H
    rw [lay_all] at H
    refine sAs F rfl rfl rfl ?_
    clear F a; intro a F
    refine sNil ?_
    refine hK12 _ _ ?_; clear hK12
    refine cSeq (fun K13 hK13 => ?_)
    refine cSeq (fun K14 hK14 => ?_)
    refine cReg ?_
    refine sMv F rfl rfl rfl ?_
    clear F a; intro a F
    refine sBin F rfl rfl rfl rfl bNeq ?_
    clear F a; intro a F
    refine sNil ?_
    refine hK14 _ _ ?_; clear hK14
    refine cIf F rfl (fun h71 => ?_) (fun h71 => ?_)
    ·
     replace h71 := bneT h71
     (first | exact h71 eE | exact absurd eE h71 | exact absurd rfl h71 | (rw [eE] at h71; exact absurd rfl h71))
    ·
     replace h71 := bneF h71
     rw [eS] at H
     refine wp_skip ?_
     refine hK13 _ _ ?_; clear hK13
     refine cSeqJ [4, 10, 13, 14, 15] (fun ups w => ups = [(17, .bool (storeP p s x.t.toNat && !x.d))] ∧ Own w0 none w [.blk b15 (bs 142 (stepM p mc s x)) 41, .blk b13 x.cells 50, .blk b10 (bs 142 s) 41, .blk b4 ([.string p.name, .slice LA p.locs.length LC, .slice IA p.init.length IC, .slice (some ⟨bT, oT, none⟩) p.threads.length TC, Go.Proofs.YtjephfjnohgcbaaDoor.b8 p.ask] ++ [c1, c2, c3, c4, c5]) 29]) F (by repeat (first | exact SubR.nil | (apply SubR.cons; · rfl))) ?_ ?_
     ·
      refine cReg ?_
      refine sLr Tryd.underlying29 rfl ?si F rfl rfl rfl (H.whole 4 rfl) ?_
      case si => exact info_size Tryd.sizeOf29
      clear F a; intro a F
      refine sLrB Tryd.underlying41 rfl Tryd.sizeOf41 F rfl rfl rfl (H.whole 3 rfl) ?_
      clear F a; intro a F
      refine sMv F rfl rfl rfl ?_
      clear F a; intro a F
      refine sCall Tryd.call14 F rfl rfl rfl (store14_any _ p _ (hP0.own H) s x.t.toNat ht4) ?_
      rintro e w ⟨rfl, hb⟩
      replace H := H.grow hb; clear hb
      refine ⟨_, rfl, ?_⟩
      clear F a; intro a F
      refine sMv F rfl rfl rfl ?_
      clear F a; intro a F
      refine F.split 76 rfl ?_ ?_ <;> (clear F; intro h76 F)
      ·
       refine sFa (f := 1) (k := 1) Tryd.underlying50 rfl Tryd.sizeOf4 rfl rfl F rfl rfl rfl ?_
       clear F a; intro a F
       refine sLd Tryd.isAgg4 F rfl rfl rfl (H.cell 1 rfl rfl) ?_
       clear F a; intro a F
       refine sNot F rfl rfl rfl ?_
       clear F a; intro a F
       refine sPk F rfl rfl rfl rfl ?_
       clear F a; intro a F
       refine sAs F rfl rfl rfl ?_
       clear F a; intro a F
       refine sNil ?_
       first
         | (rw [and_t h76]
            exact ⟨_, ⟨rfl, H.sel [0, 1, 3, 4] rfl rfl⟩, F.to (by repeat (first | exact trivial | refine Le.cons rfl ?_))⟩)
         | (rw [and_f h76]
            exact ⟨_, ⟨rfl, H.sel [0, 1, 3, 4] rfl rfl⟩, F.to (by repeat (first | exact trivial | refine Le.cons rfl ?_))⟩)
      ·
       refine sSk F rfl rfl ?_
       clear F a; intro a F
       refine sSk F rfl rfl ?_
       clear F a; intro a F
       refine sSk F rfl rfl ?_
       clear F a; intro a F
       refine sPk F rfl rfl rfl rfl ?_
       clear F a; intro a F
       refine sAs F rfl rfl rfl ?_
       clear F a; intro a F
       refine sNil ?_
       first
         | (rw [and_t h76]
            exact ⟨_, ⟨rfl, H.sel [0, 1, 3, 4] rfl rfl⟩, F.to (by repeat (first | exact trivial | refine Le.cons rfl ?_))⟩)
         | (rw [and_f h76]
            exact ⟨_, ⟨rfl, H.sel [0, 1, 3, 4] rfl rfl⟩, F.to (by repeat (first | exact trivial | refine Le.cons rfl ?_))⟩)
     clear F H
     intro ups a w hI F
     obtain ⟨rfl, H⟩ := hI
     generalize hW : (storeP p s x.t.toNat && !x.d) = W at F
     refine cSeq (fun K15 hK15 => ?_)
     refine cSeq (fun K16 hK16 => ?_)
     refine cReg ?_
     refine sFa (f := 1) (k := 1) Tryd.underlying29 rfl Tryd.sizeOf22 rfl rfl F rfl rfl rfl ?_
     clear F a; intro a F
     refine sLd Tryd.isAgg22 F rfl rfl rfl (H.cell 3 rfl rfl) ?_
     clear F a; intro a F
     refine sLen Tryd.underlying22 F rfl rfl rfl ?_
     clear F a; intro a F
     refine sCv Tryd.underlying3 Tryd.underlying5 F rfl rfl rfl (wrapO _) ?_
     clear F a; intro a F
     refine sMv F rfl rfl rfl ?_
     clear F a; intro a F
     refine sNil ?_
     refine hK16 _ _ ?_; clear hK16
     refine wp_block ?_
     refine cLoopR [4, 10, 13, 14, 15, 17, 84] (fun m ups w => ∃ j : Nat, m = p.locs.length - j ∧ ups = [(85, Go.Proofs.YtjephfjnohgcbaaDoor.b8 (UInt8.ofNat j))] ∧ j ≤ p.locs.length ∧ Own w0 none w [.blk b15 (bs 142 (stepM p mc s x)) 41, .blk b13 x.cells 50, .blk b10 (bs 142 s) 41, .blk b4 ([.string p.name, .slice LA p.locs.length LC, .slice IA p.init.length IC, .slice (some ⟨bT, oT, none⟩) p.threads.length TC, Go.Proofs.YtjephfjnohgcbaaDoor.b8 p.ask] ++ [c1, c2, c3, c4, c5]) 29]) F (p.locs.length) [(85, Go.Proofs.YtjephfjnohgcbaaDoor.b8 (UInt8.ofNat 0))] (by repeat (first | exact SubR.nil | (apply SubR.cons; · rfl))) ?_ ?_ ?_
     · exact ⟨0, rfl, rfl, by omega, H.sel [0, 1, 2, 3] rfl rfl⟩
     · repeat (first | exact trivial | refine Le.cons rfl ?_)
     clear F
     clear H
     intro m ups a w hI F
     obtain ⟨j, rfl, rfl, hj, H⟩ := hI
     refine cSeq (fun K17 hK17 => ?_)
     refine cReg ?_
     refine sBin F rfl rfl rfl rfl bLssB ?_
     clear F a; intro a F
     refine sNil ?_
     refine hK17 _ _ ?_; clear hK17
     refine cSeq (fun K18 hK18 => ?_)
     refine cIf F rfl (fun h86 => ?_) (fun h86 => ?_)
     ·
      replace h86 := of_decide_eq_true h86
      have hjl : j < p.locs.length := by
       have := UInt8.lt_iff_toNat_lt.1 h86
       rw [UInt8.toNat_ofNat', UInt8.toNat_ofNat'] at this
       omega
      have hlt : (UInt8.ofNat j).toNat < 6 := by rw [UInt8.toNat_ofNat']; omega
      refine wp_skip ?_
      refine hK18 _ _ ?_; clear hK18
      refine cSeq (fun K19 hK19 => ?_)
      refine wp_block ?_
      refine cSeq (fun K20 hK20 => ?_)
      refine cReg ?_
      refine sMv F rfl rfl rfl ?_
      clear F a; intro a F
      refine sAs F rfl rfl rfl ?_
      clear F a; intro a F
      refine sNil ?_
      refine hK20 _ _ ?_; clear hK20
      refine cSeq (fun K21 hK21 => ?_)
      refine cRegRO (by kernel_rfl) H ?_
      replace H := H.drew
      refine eTake (k := 0) (i := 0) rfl (by kernel_rfl) F rfl rfl rfl rfl (fun w H => rLrB Tryd.underlying41 rfl Tryd.sizeOf41 F rfl (H.whole 2 rfl)) (H.sel [0, 1, 2, 3] rfl rfl) (fun _ _ _ h => h) ?_
      clear F a; intro a F
      refine eTakeF (k := 1) (i := 1) rfl (by kernel_rfl) F rfl rfl rfl (fun w => rMv F rfl) (H.sel [0, 1, 2, 3] rfl rfl) (fun _ _ _ h => h) ?_
      clear F a; intro a F
      refine eTakeF (k := 2) (i := 2) rfl (by kernel_rfl) F rfl rfl rfl (fun w => rMv F rfl) (H.sel [0, 1, 2, 3] rfl rfl) (fun _ _ _ h => h) ?_
      clear F a; intro a F
      refine eTake (k := 3) (i := 4) rfl (by kernel_rfl) F rfl rfl rfl rfl (fun w H => rLrB Tryd.underlying41 rfl Tryd.sizeOf41 F rfl (H.whole 0 rfl)) (H.sel [0, 1, 2, 3] rfl rfl) (fun _ _ _ h => h) ?_
      clear F a; intro a F
      refine eTakeF (k := 4) (i := 5) rfl (by kernel_rfl) F rfl rfl rfl (fun w => rMv F rfl) (H.sel [0, 1, 2, 3] rfl rfl) (fun _ _ _ h => h) ?_
      clear F a; intro a F
      refine eTakeF (k := 5) (i := 6) rfl (by kernel_rfl) F rfl rfl rfl (fun w => rMv F rfl) (H.sel [0, 1, 2, 3] rfl rfl) (fun _ _ _ h => h) ?_
      clear F a; intro a F
      refine eOne (k := 6) (i := 3) rfl (by kernel_rfl) F rfl (oCall Tryd.call15 F rfl rfl (seen_any s x.t.toNat (UInt8.ofNat j) _ ht4 hlt) ?_)
      rintro e w ⟨rfl, hb⟩
      replace H := H.grow hb; clear hb
      refine ⟨_, rfl, ?_⟩
      clear F a; intro a F
      refine eKeep (H.sel [0, 1, 2, 3] rfl rfl) ?_
      refine eOne (k := 7) (i := 7) rfl (by kernel_rfl) F rfl (oCall Tryd.call15 F rfl rfl (seen_any (stepM p mc s x) x.t.toNat (UInt8.ofNat j) _ ht4 hlt) ?_)
      rintro e w ⟨rfl, hb⟩
      replace H := H.grow hb; clear hb
      refine ⟨_, rfl, ?_⟩
      clear F a; intro a F
      refine ePartO (by kernel_rfl) H ?_
      refine eTakeF (k := 8) (i := 8) rfl (by kernel_rfl) F rfl rfl rfl (fun w => rAs F rfl) (H.sel [0, 1, 2, 3] rfl rfl) (fun _ _ _ h => h) ?_
      clear F a; intro a F
      refine eTakeF (k := 9) (i := 9) rfl (by kernel_rfl) F rfl rfl rfl (fun w => rAs F rfl) (H.sel [0, 1, 2, 3] rfl rfl) (fun _ _ _ h => h) ?_
      clear F a; intro a F
      refine eNil (k := 10) (by kernel_rfl) ?_
      refine hK21 _ _ ?_; clear hK21
      refine cSeqJ [4, 10, 13, 14, 15, 17, 18, 20, 84, 85] (fun ups w => ups = [(19, Go.Proofs.YtjephfjnohgcbaaDoor.b8 (wasP p s x.t.toNat W (UInt8.ofNat j)))] ∧ Own w0 none w [.blk b15 (bs 142 (stepM p mc s x)) 41, .blk b13 x.cells 50, .blk b10 (bs 142 s) 41, .blk b4 ([.string p.name, .slice LA p.locs.length LC, .slice IA p.init.length IC, .slice (some ⟨bT, oT, none⟩) p.threads.length TC, Go.Proofs.YtjephfjnohgcbaaDoor.b8 p.ask] ++ [c1, c2, c3, c4, c5]) 29]) F (by repeat (first | exact SubR.nil | (apply SubR.cons; · rfl))) ?_ ?_
      ·
       refine cSeq (fun K22 hK22 => ?_)
       refine cReg ?_
       refine sMv F rfl rfl rfl ?_
       clear F a; intro a F
       refine sNil ?_
       refine hK22 _ _ ?_; clear hK22
       refine cIf F rfl (fun h96 => ?_) (fun h96 => ?_)
       ·
        obtain ⟨i, hi1, hi2, hi3⟩ := storeP_at hl (and_l (hW.trans h96))
        have hpcl := (List.getElem?_eq_some_iff.1 hi1).1
        obtain ⟨bI, oI, rfl, hI⟩ := hT2 (s (x.t.toNat * 9)).toNat i.cells (by rw [List.getElem?_map, hi1]; rfl)
        refine cSeq (fun K23 hK23 => ?_)
        refine cRegRO (by kernel_rfl) H ?_
        replace H := H.drew
        refine eTakeF (k := 0) (i := 0) rfl (by kernel_rfl) F rfl rfl rfl (fun w => rFa (f := 3) (k := 3) Tryd.underlying29 rfl Tryd.sizeOf24 rfl rfl F rfl) (H.sel [0, 1, 2, 3] rfl rfl) (fun _ _ _ h => h) ?_
        clear F a; intro a F
        refine eTake (k := 1) (i := 1) rfl (by kernel_rfl) F rfl rfl rfl rfl (fun w H => rLd Tryd.isAgg24 F rfl (H.cell 3 rfl rfl)) (H.sel [0, 1, 2, 3] rfl rfl) (fun _ _ _ h => h) ?_
        clear F a; intro a F
        refine eTakeF (k := 2) (i := 2) rfl (by kernel_rfl) F rfl rfl rfl (fun w => rMv F rfl) (H.sel [0, 1, 2, 3] rfl rfl) (fun _ _ _ h => h) ?_
        clear F a; intro a F
        refine eTakeF (k := 3) (i := 3) rfl (by kernel_rfl) F rfl rfl rfl (fun w => rIx Tryd.underlying24 Tryd.sizeOf59 F rfl rfl ?_) (H.sel [0, 1, 2, 3] rfl rfl) (fun _ _ _ h => h) ?_
        focus (first | omega | decide | (simp; omega))
        clear F a; intro a F
        refine eTake (k := 4) (i := 4) rfl (by kernel_rfl) F rfl rfl rfl rfl (fun w H => rLd Tryd.isAgg59 F rfl (H.arg hT1)) (H.sel [0, 1, 2, 3] rfl rfl) (fun _ _ _ h => h) ?_
        clear F a; intro a F
        refine eTakeF (k := 5) (i := 5) rfl (by kernel_rfl) F rfl rfl rfl (fun w => rMv F rfl) (H.sel [0, 1, 2, 3] rfl rfl) (fun _ _ _ h => h) ?_
        clear F a; intro a F
        refine eTakeF (k := 6) (i := 6) rfl (by kernel_rfl) F rfl rfl rfl (fun w => rFa (f := 0) (k := 0) Tryd.underlying41 rfl Tryd.sizeOf33 rfl rfl F rfl) (H.sel [0, 1, 2, 3] rfl rfl) (fun _ _ _ h => h) ?_
        clear F a; intro a F
        refine eTakeF (k := 7) (i := 7) rfl (by kernel_rfl) F rfl rfl rfl (fun w => rIaZ Tryd.underlying33 Tryd.sizeOf32 F rfl rfl ?_) (H.sel [0, 1, 2, 3] rfl rfl) (fun _ _ _ h => h) ?_
        focus (first | omega | decide | (simp; omega))
        clear F a; intro a F
        refine eTakeF (k := 8) (i := 8) rfl (by kernel_rfl) F rfl rfl rfl (fun w => rFaZ (f := 0) Tryd.underlying32 rfl Tryd.sizeOf5 rfl rfl F rfl) (H.sel [0, 1, 2, 3] rfl rfl) (fun _ _ _ h => h) ?_
        clear F a; intro a F
        refine eTake (k := 9) (i := 9) rfl (by kernel_rfl) F rfl rfl rfl rfl (fun w H => rLd Tryd.isAgg5 F rfl (H.cellB 2 rfl (by omega))) (H.sel [0, 1, 2, 3] rfl rfl) (fun _ _ _ h => h) ?_
        clear F a; intro a F
        refine eTakeF (k := 10) (i := 10) rfl (by kernel_rfl) F rfl rfl rfl (fun w => rIx Tryd.underlying59 Tryd.sizeOf58 F rfl rfl ?_) (H.sel [0, 1, 2, 3] rfl rfl) (fun _ _ _ h => h) ?_
        focus exact hpcl
        clear F a; intro a F
        refine eTake (k := 11) (i := 11) rfl (by kernel_rfl) F rfl rfl rfl rfl (fun w H => rLr Tryd.underlying58 rfl ?si F rfl (H.argR hI)) (H.sel [0, 1, 2, 3] rfl rfl) (fun _ _ _ h => h) ?_
        case si => exact info_size Tryd.sizeOf58
        clear F a; intro a F
        refine eOne (k := 12) (i := 12) rfl (by kernel_rfl) F rfl (oAl H Tryd.zeroValue58 F rfl ?_)
        clear F a H; intro b21 a w F H
        refine eKeep (H.sel [1, 2, 3, 4] rfl rfl) ?_
        refine eOne (k := 13) (i := 13) rfl (by kernel_rfl) F rfl (oSr H 0 ?si F rfl rfl ?s1 rfl rfl ?_)
        case si => exact info_size Tryd.sizeOf58
        case s1 => first | rfl | (repeat (first | exact one_nil | (apply one_cons; · first | rfl | assumption | exact one_bif rfl rfl)))
        clear H; intro w H
        refine ePartO (by kernel_rfl) H ?_
        refine eNil (k := 14) (by kernel_rfl) ?_
        refine hK23 _ _ ?_; clear hK23
        refine cSeq (fun K24 hK24 => ?_)
        refine cReg ?_
        refine sFa (f := 2) (k := 2) Tryd.underlying58 rfl Tryd.sizeOf5 rfl rfl F rfl rfl rfl ?_
        clear F a; intro a F
        refine sLd Tryd.isAgg5 F rfl rfl rfl (H.cell 0 rfl rfl) ?_
        clear F a; intro a F
        refine sMv F rfl rfl rfl ?_
        clear F a; intro a F
        refine sBin F rfl rfl rfl rfl bEqlB ?_
        clear F a; intro a F
        refine sNil ?_
        refine hK24 _ _ ?_; clear hK24
        refine cIf F rfl (fun h112 => ?_) (fun h112 => ?_)
        ·
         replace h112 := beqT h112
         refine cRegRO (by kernel_rfl) H ?_
         replace H := H.drew
         refine eTakeF (k := 0) (i := 0) rfl (by kernel_rfl) F rfl rfl rfl (fun w => rFa (f := 3) (k := 3) Tryd.underlying58 rfl Tryd.sizeOf56 rfl rfl F rfl) (H.sel [0, 1, 2, 3, 4] rfl rfl) (fun _ _ _ h => h) ?_
         clear F a; intro a F
         refine eTake (k := 1) (i := 1) rfl (by kernel_rfl) F rfl rfl rfl rfl (fun w H => rLr Tryd.underlying56 rfl ?si F rfl (H.range 0 rfl _ 2)) (H.sel [0, 1, 2, 3, 4] rfl rfl) (fun _ _ _ h => h) ?_
         case si => exact info_size Tryd.sizeOf56
         clear F a; intro a F
         refine eTakeF (k := 2) (i := 2) rfl (by kernel_rfl) F rfl rfl rfl (fun w => rMv F rfl) (H.sel [0, 1, 2, 3, 4] rfl rfl) (fun _ _ _ h => h) ?_
         clear F a; intro a F
         refine eTakeF (k := 3) (i := 3) rfl (by kernel_rfl) F rfl rfl rfl (fun w => rFa (f := 0) (k := 0) Tryd.underlying41 rfl Tryd.sizeOf33 rfl rfl F rfl) (H.sel [0, 1, 2, 3, 4] rfl rfl) (fun _ _ _ h => h) ?_
         clear F a; intro a F
         refine eTakeF (k := 4) (i := 4) rfl (by kernel_rfl) F rfl rfl rfl (fun w => rIaZ Tryd.underlying33 Tryd.sizeOf32 F rfl rfl ?_) (H.sel [0, 1, 2, 3, 4] rfl rfl) (fun _ _ _ h => h) ?_
         focus (first | omega | decide | (simp; omega))
         clear F a; intro a F
         refine eTakeF (k := 5) (i := 5) rfl (by kernel_rfl) F rfl rfl rfl (fun w => rFa (f := 1) (k := _ + 1) Tryd.underlying32 rfl Tryd.sizeOf30 rfl rfl F rfl) (H.sel [0, 1, 2, 3, 4] rfl rfl) (fun _ _ _ h => h) ?_
         clear F a; intro a F
         refine eTake (k := 6) (i := 6) rfl (by kernel_rfl) F rfl rfl rfl rfl (fun w H => rLrB Tryd.underlying30 rfl Tryd.sizeOf30 F rfl (H.rangeB 3 _ 8 rfl (by omega))) (H.sel [0, 1, 2, 3, 4] rfl rfl) (fun _ _ _ h => h) ?_
         clear F a; intro a F
         refine eOne (k := 7) (i := 7) rfl (by kernel_rfl) F rfl (oCall Tryd.call16 F rfl rfl (worth_any i.aR i.aN _ _) ?_)
         rintro e w ⟨rfl, hb⟩
         replace H := H.grow hb; clear hb
         refine ⟨_, rfl, ?_⟩
         clear F a; intro a F
         refine ePartO (by kernel_rfl) H ?_
         refine eTakeF (k := 8) (i := 8) rfl (by kernel_rfl) F rfl rfl rfl (fun w => rAs F rfl) (H.sel [0, 1, 2, 3, 4] rfl rfl) (fun _ _ _ h => h) ?_
         clear F a; intro a F
         refine eNil (k := 9) (by kernel_rfl) ?_
         first
           | (rw [was_t2 hi2 h96 h112]
              exact ⟨_, ⟨rfl, H.sel [1, 2, 3, 4] rfl rfl⟩, F.to (by repeat (first | exact trivial | refine Le.cons rfl ?_))⟩)
           | (rw [was_n hi2 h112]
              exact ⟨_, ⟨rfl, H.sel [1, 2, 3, 4] rfl rfl⟩, F.to (by repeat (first | exact trivial | refine Le.cons rfl ?_))⟩)
           | (rw [was_f h96]
              exact ⟨_, ⟨rfl, H.sel [1, 2, 3, 4] rfl rfl⟩, F.to (by repeat (first | exact trivial | refine Le.cons rfl ?_))⟩)
        ·
         replace h112 := beqF h112
         refine wp_skip ?_
         first
           | (rw [was_t2 hi2 h96 h112]
              exact ⟨_, ⟨rfl, H.sel [1, 2, 3, 4] rfl rfl⟩, F.to (by repeat (first | exact trivial | refine Le.cons rfl ?_))⟩)
           | (rw [was_n hi2 h112]
              exact ⟨_, ⟨rfl, H.sel [1, 2, 3, 4] rfl rfl⟩, F.to (by repeat (first | exact trivial | refine Le.cons rfl ?_))⟩)
           | (rw [was_f h96]
              exact ⟨_, ⟨rfl, H.sel [1, 2, 3, 4] rfl rfl⟩, F.to (by repeat (first | exact trivial | refine Le.cons rfl ?_))⟩)
       ·
        refine wp_skip ?_
        first
          | (rw [was_t2 hi2 h96 h112]
             exact ⟨_, ⟨rfl, H.sel [0, 1, 2, 3] rfl rfl⟩, F.to (by repeat (first | exact trivial | refine Le.cons rfl ?_))⟩)
          | (rw [was_n hi2 h112]
             exact ⟨_, ⟨rfl, H.sel [0, 1, 2, 3] rfl rfl⟩, F.to (by repeat (first | exact trivial | refine Le.cons rfl ?_))⟩)
          | (rw [was_f h96]
             exact ⟨_, ⟨rfl, H.sel [0, 1, 2, 3] rfl rfl⟩, F.to (by repeat (first | exact trivial | refine Le.cons rfl ?_))⟩)
      clear F H
      intro ups a w hI F
      obtain ⟨rfl, H⟩ := hI
      have hown := own_was O hl hW hlt
      refine cSeq (fun K25 hK25 => ?_)
      refine cSeq (fun K26 hK26 => ?_)
      refine cReg ?_
      refine sFa (f := 1) (k := 1) Tryd.underlying50 rfl Tryd.sizeOf4 rfl rfl F rfl rfl rfl ?_
      clear F a; intro a F
      refine sLd Tryd.isAgg4 F rfl rfl rfl (H.cell 1 rfl rfl) ?_
      clear F a; intro a F
      refine sMv F rfl rfl rfl ?_
      clear F a; intro a F
      refine F.split 123 rfl ?_ ?_ <;> (clear F; intro h123 F)
      ·
       refine sSk F rfl rfl ?_
       clear F a; intro a F
       refine sPk F rfl rfl rfl rfl ?_
       clear F a; intro a F
       refine sMv F rfl rfl rfl ?_
       clear F a; intro a F
       refine sMv F rfl rfl rfl ?_
       clear F a; intro a F
       refine sMv F rfl rfl rfl ?_
       clear F a; intro a F
       refine sBin F rfl rfl rfl rfl bNeqB ?_
       clear F a; intro a F
       refine sPk F rfl rfl rfl rfl ?_
       clear F a; intro a F
       refine sNil ?_
       refine hK26 _ _ ?_; clear hK26
       refine cIf F rfl (fun h130 => ?_) (fun h130 => ?_)
       ·
        replace h130 := bneT h130
        exact absurd (hown (by first | exact .inl (by assumption) | exact .inr (by assumption))) h130
       ·
        replace h130 := bneF h130
        refine wp_skip ?_
        refine hK25 _ _ ?_; clear hK25
        refine cSeq (fun K27 hK27 => ?_)
        refine cReg ?_
        refine sFa (f := 3) (k := 3) Tryd.underlying29 rfl Tryd.sizeOf24 rfl rfl F rfl rfl rfl ?_
        clear F a; intro a F
        refine sLd Tryd.isAgg24 F rfl rfl rfl (H.cell 3 rfl rfl) ?_
        clear F a; intro a F
        refine sLen Tryd.underlying24 F rfl rfl rfl ?_
        clear F a; intro a F
        refine sMv F rfl rfl rfl ?_
        clear F a; intro a F
        refine sNil ?_
        refine hK27 _ _ ?_; clear hK27
        refine wp_block ?_
        refine cLoopR [4, 10, 13, 14, 15, 17, 18, 84, 85, 133] (fun m ups w => ∃ u : Nat, m = p.threads.length - u ∧ ups = [(134, .int .i64 ((u : Nat) : Int))] ∧ u ≤ p.threads.length ∧ Own w0 none w [.blk b15 (bs 142 (stepM p mc s x)) 41, .blk b13 x.cells 50, .blk b10 (bs 142 s) 41, .blk b4 ([.string p.name, .slice LA p.locs.length LC, .slice IA p.init.length IC, .slice (some ⟨bT, oT, none⟩) p.threads.length TC, Go.Proofs.YtjephfjnohgcbaaDoor.b8 p.ask] ++ [c1, c2, c3, c4, c5]) 29]) F (p.threads.length) [(134, .int .i64 ((0 : Nat) : Int))] (by repeat (first | exact SubR.nil | (apply SubR.cons; · rfl))) ?_ ?_ ?_
        · exact ⟨0, rfl, rfl, by omega, H.sel [0, 1, 2, 3] rfl rfl⟩
        · repeat (first | exact trivial | refine Le.cons rfl ?_)
        clear F
        clear H
        intro m ups a w hI F
        obtain ⟨u, rfl, rfl, hu, H⟩ := hI
        refine cSeq (fun K28 hK28 => ?_)
        refine cReg ?_
        refine sBin F rfl rfl rfl rfl bLss ?_
        clear F a; intro a F
        refine sNil ?_
        refine hK28 _ _ ?_; clear hK28
        refine cSeq (fun K29 hK29 => ?_)
        refine cIf F rfl (fun h135 => ?_) (fun h135 => ?_)
        ·
         replace h135 := of_decide_eq_true h135
         have hu4 : u < 4 := by omega
         refine wp_skip ?_
         refine hK29 _ _ ?_; clear hK29
         refine cSeq (fun K30 hK30 => ?_)
         refine wp_block ?_
         refine cSeq (fun K31 hK31 => ?_)
         refine cReg ?_
         refine sMv F rfl rfl rfl ?_
         clear F a; intro a F
         refine sAs F rfl rfl rfl ?_
         clear F a; intro a F
         refine sNil ?_
         refine hK31 _ _ ?_; clear hK31
         refine cSeq (fun K32 hK32 => ?_)
         refine cRegRO (by kernel_rfl) H ?_
         replace H := H.drew
         refine eTakeF (k := 0) (i := 0) rfl (by kernel_rfl) F rfl rfl rfl (fun w => rMv F rfl) (H.sel [0, 1, 2, 3] rfl rfl) (fun _ _ _ h => h) ?_
         clear F a; intro a F
         refine eTakeF (k := 1) (i := 1) rfl (by kernel_rfl) F rfl rfl rfl (fun w => rMv F rfl) (H.sel [0, 1, 2, 3] rfl rfl) (fun _ _ _ h => h) ?_
         clear F a; intro a F
         refine eTakeF (k := 2) (i := 2) rfl (by kernel_rfl) F rfl rfl rfl (fun w => rBin F rfl rfl bNeq) (H.sel [0, 1, 2, 3] rfl rfl) (fun _ _ _ h => h) ?_
         clear F a; intro a F
         refine eTakeF (k := 3) (i := 3) rfl (by kernel_rfl) F rfl rfl rfl (fun w => rMv F rfl) (H.sel [0, 1, 2, 3] rfl rfl) (fun _ _ _ h => h) ?_
         clear F a; intro a F
         refine F.split 140 rfl ?_ ?_ <;> (clear F; intro h140 F)
         ·
          replace h140 := bneT h140
          refine eTakeF (k := 4) (i := 4) rfl (by kernel_rfl) F rfl rfl rfl (fun w => rMv F rfl) (H.sel [0, 1, 2, 3] rfl rfl) (fun _ _ _ h => h) ?_
          clear F a; intro a F
          refine eTakeF (k := 5) (i := 5) rfl (by kernel_rfl) F rfl rfl rfl (fun w => rPk F rfl rfl) (H.sel [0, 1, 2, 3] rfl rfl) (fun _ _ _ h => h) ?_
          clear F a; intro a F
          refine eTakeF (k := 6) (i := 6) rfl (by kernel_rfl) F rfl rfl rfl (fun w => rMv F rfl) (H.sel [0, 1, 2, 3] rfl rfl) (fun _ _ _ h => h) ?_
          clear F a; intro a F
          refine F.split 143 rfl ?_ ?_ <;> (clear F; intro h143 F)
          ·
           refine eTake (k := 7) (i := 7) rfl (by kernel_rfl) F rfl rfl rfl rfl (fun w H => rLrB Tryd.underlying41 rfl Tryd.sizeOf41 F rfl (H.whole 0 rfl)) (H.sel [0, 1, 2, 3] rfl rfl) (fun _ _ _ h => h) ?_
           clear F a; intro a F
           refine eTakeF (k := 8) (i := 8) rfl (by kernel_rfl) F rfl rfl rfl (fun w => rMv F rfl) (H.sel [0, 1, 2, 3] rfl rfl) (fun _ _ _ h => h) ?_
           clear F a; intro a F
           refine eTakeF (k := 9) (i := 9) rfl (by kernel_rfl) F rfl rfl rfl (fun w => rMv F rfl) (H.sel [0, 1, 2, 3] rfl rfl) (fun _ _ _ h => h) ?_
           clear F a; intro a F
           refine eTake (k := 10) (i := 11) rfl (by kernel_rfl) F rfl rfl rfl rfl (fun w H => rLrB Tryd.underlying41 rfl Tryd.sizeOf41 F rfl (H.whole 2 rfl)) (H.sel [0, 1, 2, 3] rfl rfl) (fun _ _ _ h => h) ?_
           clear F a; intro a F
           refine eTakeF (k := 11) (i := 12) rfl (by kernel_rfl) F rfl rfl rfl (fun w => rMv F rfl) (H.sel [0, 1, 2, 3] rfl rfl) (fun _ _ _ h => h) ?_
           clear F a; intro a F
           refine eTakeF (k := 12) (i := 13) rfl (by kernel_rfl) F rfl rfl rfl (fun w => rMv F rfl) (H.sel [0, 1, 2, 3] rfl rfl) (fun _ _ _ h => h) ?_
           clear F a; intro a F
           refine eOne (k := 13) (i := 10) rfl (by kernel_rfl) F rfl (oCall Tryd.call15 F rfl rfl (seen_any (stepM p mc s x) u (UInt8.ofNat j) _ hu4 hlt) ?_)
           rintro e w ⟨rfl, hb⟩
           replace H := H.grow hb; clear hb
           refine ⟨_, rfl, ?_⟩
           clear F a; intro a F
           refine eKeep (H.sel [0, 1, 2, 3] rfl rfl) ?_
           refine eOne (k := 14) (i := 14) rfl (by kernel_rfl) F rfl (oCall Tryd.call15 F rfl rfl (seen_any s u (UInt8.ofNat j) _ hu4 hlt) ?_)
           rintro e w ⟨rfl, hb⟩
           replace H := H.grow hb; clear hb
           refine ⟨_, rfl, ?_⟩
           clear F a; intro a F
           refine ePartO (by kernel_rfl) H ?_
           refine eTakeF (k := 15) (i := 15) rfl (by kernel_rfl) F rfl rfl rfl (fun w => rBin F rfl rfl bNeqB) (H.sel [0, 1, 2, 3] rfl rfl) (fun _ _ _ h => h) ?_
           clear F a; intro a F
           refine eTakeF (k := 16) (i := 16) rfl (by kernel_rfl) F rfl rfl rfl (fun w => rPk F rfl rfl) (H.sel [0, 1, 2, 3] rfl rfl) (fun _ _ _ h => h) ?_
           clear F a; intro a F
           refine eTakeF (k := 17) (i := 17) rfl (by kernel_rfl) F rfl rfl rfl (fun w => rMv F rfl) (H.sel [0, 1, 2, 3] rfl rfl) (fun _ _ _ h => h) ?_
           clear F a; intro a F
           refine F.split 154 rfl ?_ ?_ <;> (clear F; intro h154 F)
           ·
            replace h154 := bneT h154
            exact absurd (far_was O hl (hW.trans h143) hu4 (fun e => h140 (by rw [e])) hlt) h154
           ·
            replace h154 := bneF h154
            refine eTakeF (k := 18) (i := 18) rfl (by kernel_rfl) F rfl rfl rfl (fun w => rMv F rfl) (H.sel [0, 1, 2, 3] rfl rfl) (fun _ _ _ h => h) ?_
            clear F a; intro a F
            refine eTakeF (k := 19) (i := 19) rfl (by kernel_rfl) F rfl rfl rfl (fun w => rFa (f := 3) (k := 138) Tryd.underlying41 rfl Tryd.sizeOf39 rfl rfl F rfl) (H.sel [0, 1, 2, 3] rfl rfl) (fun _ _ _ h => h) ?_
            clear F a; intro a F
            refine eTakeF (k := 20) (i := 20) rfl (by kernel_rfl) F rfl rfl rfl (fun w => rIa1 Tryd.underlying39 Tryd.sizeOf5 F rfl rfl ?_) (H.sel [0, 1, 2, 3] rfl rfl) (fun _ _ _ h => h) ?_
            focus (first | omega | decide | (simp; omega))
            clear F a; intro a F
            refine eTake (k := 21) (i := 21) rfl (by kernel_rfl) F rfl rfl rfl rfl (fun w H => rLd Tryd.isAgg5 F rfl (H.cellB 2 rfl (by omega))) (H.sel [0, 1, 2, 3] rfl rfl) (fun _ _ _ h => h) ?_
            clear F a; intro a F
            refine eTakeF (k := 22) (i := 22) rfl (by kernel_rfl) F rfl rfl rfl (fun w => rBin F rfl rfl (bEqlB (y := 0))) (H.sel [0, 1, 2, 3] rfl rfl) (fun _ _ _ h => h) ?_
            clear F a; intro a F
            refine eTakeF (k := 23) (i := 23) rfl (by kernel_rfl) F rfl rfl rfl (fun w => rMv F rfl) (H.sel [0, 1, 2, 3] rfl rfl) (fun _ _ _ h => h) ?_
            clear F a; intro a F
            refine F.split 160 rfl ?_ ?_ <;> (clear F; intro h160 F)
            ·
             replace h160 := beqT h160
             refine eTake (k := 24) (i := 24) rfl (by kernel_rfl) F rfl rfl rfl rfl (fun w H => rLrB Tryd.underlying41 rfl Tryd.sizeOf41 F rfl (H.whole 2 rfl)) (H.sel [0, 1, 2, 3] rfl rfl) (fun _ _ _ h => h) ?_
             clear F a; intro a F
             refine eTakeF (k := 25) (i := 25) rfl (by kernel_rfl) F rfl rfl rfl (fun w => rMv F rfl) (H.sel [0, 1, 2, 3] rfl rfl) (fun _ _ _ h => h) ?_
             clear F a; intro a F
             refine eTakeF (k := 26) (i := 26) rfl (by kernel_rfl) F rfl rfl rfl (fun w => rMv F rfl) (H.sel [0, 1, 2, 3] rfl rfl) (fun _ _ _ h => h) ?_
             clear F a; intro a F
             refine eTakeF (k := 27) (i := 28) rfl (by kernel_rfl) F rfl rfl rfl (fun w => rMv F rfl) (H.sel [0, 1, 2, 3] rfl rfl) (fun _ _ _ h => h) ?_
             clear F a; intro a F
             refine eTakeF (k := 28) (i := 29) rfl (by kernel_rfl) F rfl rfl rfl (fun w => rFa (f := 1) (k := 36) Tryd.underlying41 rfl Tryd.sizeOf34 rfl rfl F rfl) (H.sel [0, 1, 2, 3] rfl rfl) (fun _ _ _ h => h) ?_
             clear F a; intro a F
             refine eTakeF (k := 29) (i := 30) rfl (by kernel_rfl) F rfl rfl rfl (fun w => rIa1 Tryd.underlying34 Tryd.sizeOf5 F rfl rfl ?_) (H.sel [0, 1, 2, 3] rfl rfl) (fun _ _ _ h => h) ?_
             focus (first | omega | decide | (simp; omega))
             clear F a; intro a F
             refine eTake (k := 30) (i := 31) rfl (by kernel_rfl) F rfl rfl rfl rfl (fun w H => rLd Tryd.isAgg5 F rfl (H.cellB 2 rfl (by omega))) (H.sel [0, 1, 2, 3] rfl rfl) (fun _ _ _ h => h) ?_
             clear F a; intro a F
             refine eOne (k := 31) (i := 27) rfl (by kernel_rfl) F rfl (oCall Tryd.call15 F rfl rfl (seen_any s u (UInt8.ofNat j) _ hu4 hlt) ?_)
             rintro e w ⟨rfl, hb⟩
             replace H := H.grow hb; clear hb
             refine ⟨_, rfl, ?_⟩
             clear F a; intro a F
             refine eKeep (H.sel [0, 1, 2, 3] rfl rfl) ?_
             refine eTakeF (k := 32) (i := 32) rfl (by kernel_rfl) F rfl rfl rfl (fun w => rBin F rfl rfl bNeqB) (H.sel [0, 1, 2, 3] rfl rfl) (fun _ _ _ h => h) ?_
             clear F a; intro a F
             refine eTakeF (k := 33) (i := 33) rfl (by kernel_rfl) F rfl rfl rfl (fun w => rPk F rfl rfl) (H.sel [0, 1, 2, 3] rfl rfl) (fun _ _ _ h => h) ?_
             clear F a; intro a F
             refine eTakeF (k := 34) (i := 34) rfl (by kernel_rfl) F rfl rfl rfl (fun w => rPk F rfl rfl) (H.sel [0, 1, 2, 3] rfl rfl) (fun _ _ _ h => h) ?_
             clear F a; intro a F
             refine eNil (k := 35) (by kernel_rfl) ?_
             refine hK32 _ _ ?_; clear hK32
             refine cIf F rfl (fun h171 => ?_) (fun h171 => ?_)
             ·
              replace h171 := bneT h171
              exact absurd (seen_mem (by unfold manyB; rw [h160]; rfl)) h171
             ·
              replace h171 := bneF h171
              refine wp_skip ?_
              refine hK30 _ _ ?_; clear hK30
              refine cReg ?_
              refine sBin F rfl rfl rfl rfl (bAddN (j := 1) ?_) ?_
              focus omega
              clear F a; intro a F
              refine sMv F rfl rfl rfl ?_
              clear F a; intro a F
              refine sNil ?_
              exact ⟨_, by omega, _, ⟨u + 1, rfl, rfl, by omega, H.sel [0, 1, 2, 3] rfl rfl⟩, F.to (by repeat (first | exact trivial | refine Le.cons rfl ?_))⟩
            ·
             replace h160 := beqF h160
             refine eSkip (k := 24) (i := 24) rfl (by kernel_rfl) F rfl rfl rfl (H.sel [0, 1, 2, 3] rfl rfl) (fun _ _ _ h => h) ?_
             clear F a; intro a F
             refine eSkip (k := 25) (i := 25) rfl (by kernel_rfl) F rfl rfl rfl (H.sel [0, 1, 2, 3] rfl rfl) (fun _ _ _ h => h) ?_
             clear F a; intro a F
             refine eSkip (k := 26) (i := 26) rfl (by kernel_rfl) F rfl rfl rfl (H.sel [0, 1, 2, 3] rfl rfl) (fun _ _ _ h => h) ?_
             clear F a; intro a F
             refine eSkip (k := 27) (i := 27) rfl (by kernel_rfl) F rfl rfl rfl (H.sel [0, 1, 2, 3] rfl rfl) (fun _ _ _ h => h) ?_
             clear F a; intro a F
             refine eSkip (k := 28) (i := 28) rfl (by kernel_rfl) F rfl rfl rfl (H.sel [0, 1, 2, 3] rfl rfl) (fun _ _ _ h => h) ?_
             clear F a; intro a F
             refine eSkip (k := 29) (i := 29) rfl (by kernel_rfl) F rfl rfl rfl (H.sel [0, 1, 2, 3] rfl rfl) (fun _ _ _ h => h) ?_
             clear F a; intro a F
             refine eSkip (k := 30) (i := 30) rfl (by kernel_rfl) F rfl rfl rfl (H.sel [0, 1, 2, 3] rfl rfl) (fun _ _ _ h => h) ?_
             clear F a; intro a F
             refine eSkip (k := 31) (i := 31) rfl (by kernel_rfl) F rfl rfl rfl (H.sel [0, 1, 2, 3] rfl rfl) (fun _ _ _ h => h) ?_
             clear F a; intro a F
             refine eSkip (k := 32) (i := 32) rfl (by kernel_rfl) F rfl rfl rfl (H.sel [0, 1, 2, 3] rfl rfl) (fun _ _ _ h => h) ?_
             clear F a; intro a F
             refine eTakeF (k := 33) (i := 33) rfl (by kernel_rfl) F rfl rfl rfl (fun w => rPk F rfl rfl) (H.sel [0, 1, 2, 3] rfl rfl) (fun _ _ _ h => h) ?_
             clear F a; intro a F
             refine eTakeF (k := 34) (i := 34) rfl (by kernel_rfl) F rfl rfl rfl (fun w => rPk F rfl rfl) (H.sel [0, 1, 2, 3] rfl rfl) (fun _ _ _ h => h) ?_
             clear F a; intro a F
             refine eNil (k := 35) (by kernel_rfl) ?_
             refine hK32 _ _ ?_; clear hK32
             refine cIfF F rfl ?_
             refine wp_skip ?_
             refine hK30 _ _ ?_; clear hK30
             refine cReg ?_
             refine sBin F rfl rfl rfl rfl (bAddN (j := 1) ?_) ?_
             focus omega
             clear F a; intro a F
             refine sMv F rfl rfl rfl ?_
             clear F a; intro a F
             refine sNil ?_
             exact ⟨_, by omega, _, ⟨u + 1, rfl, rfl, by omega, H.sel [0, 1, 2, 3] rfl rfl⟩, F.to (by repeat (first | exact trivial | refine Le.cons rfl ?_))⟩
          ·
           refine eSkip (k := 7) (i := 7) rfl (by kernel_rfl) F rfl rfl rfl (H.sel [0, 1, 2, 3] rfl rfl) (fun _ _ _ h => h) ?_
           clear F a; intro a F
           refine eSkip (k := 8) (i := 8) rfl (by kernel_rfl) F rfl rfl rfl (H.sel [0, 1, 2, 3] rfl rfl) (fun _ _ _ h => h) ?_
           clear F a; intro a F
           refine eSkip (k := 9) (i := 9) rfl (by kernel_rfl) F rfl rfl rfl (H.sel [0, 1, 2, 3] rfl rfl) (fun _ _ _ h => h) ?_
           clear F a; intro a F
           refine eSkip (k := 10) (i := 10) rfl (by kernel_rfl) F rfl rfl rfl (H.sel [0, 1, 2, 3] rfl rfl) (fun _ _ _ h => h) ?_
           clear F a; intro a F
           refine eSkip (k := 11) (i := 11) rfl (by kernel_rfl) F rfl rfl rfl (H.sel [0, 1, 2, 3] rfl rfl) (fun _ _ _ h => h) ?_
           clear F a; intro a F
           refine eSkip (k := 12) (i := 12) rfl (by kernel_rfl) F rfl rfl rfl (H.sel [0, 1, 2, 3] rfl rfl) (fun _ _ _ h => h) ?_
           clear F a; intro a F
           refine eSkip (k := 13) (i := 13) rfl (by kernel_rfl) F rfl rfl rfl (H.sel [0, 1, 2, 3] rfl rfl) (fun _ _ _ h => h) ?_
           clear F a; intro a F
           refine eSkip (k := 14) (i := 14) rfl (by kernel_rfl) F rfl rfl rfl (H.sel [0, 1, 2, 3] rfl rfl) (fun _ _ _ h => h) ?_
           clear F a; intro a F
           refine eSkip (k := 15) (i := 15) rfl (by kernel_rfl) F rfl rfl rfl (H.sel [0, 1, 2, 3] rfl rfl) (fun _ _ _ h => h) ?_
           clear F a; intro a F
           refine eTakeF (k := 16) (i := 16) rfl (by kernel_rfl) F rfl rfl rfl (fun w => rPk F rfl rfl) (H.sel [0, 1, 2, 3] rfl rfl) (fun _ _ _ h => h) ?_
           clear F a; intro a F
           refine eTakeF (k := 17) (i := 17) rfl (by kernel_rfl) F rfl rfl rfl (fun w => rMv F rfl) (H.sel [0, 1, 2, 3] rfl rfl) (fun _ _ _ h => h) ?_
           clear F a; intro a F
           refine eTakeF (k := 18) (i := 18) rfl (by kernel_rfl) F rfl rfl rfl (fun w => rMv F rfl) (H.sel [0, 1, 2, 3] rfl rfl) (fun _ _ _ h => h) ?_
           clear F a; intro a F
           refine eTakeF (k := 19) (i := 19) rfl (by kernel_rfl) F rfl rfl rfl (fun w => rFa (f := 3) (k := 138) Tryd.underlying41 rfl Tryd.sizeOf39 rfl rfl F rfl) (H.sel [0, 1, 2, 3] rfl rfl) (fun _ _ _ h => h) ?_
           clear F a; intro a F
           refine eTakeF (k := 20) (i := 20) rfl (by kernel_rfl) F rfl rfl rfl (fun w => rIa1 Tryd.underlying39 Tryd.sizeOf5 F rfl rfl ?_) (H.sel [0, 1, 2, 3] rfl rfl) (fun _ _ _ h => h) ?_
           focus (first | omega | decide | (simp; omega))
           clear F a; intro a F
           refine eTake (k := 21) (i := 21) rfl (by kernel_rfl) F rfl rfl rfl rfl (fun w H => rLd Tryd.isAgg5 F rfl (H.cellB 2 rfl (by omega))) (H.sel [0, 1, 2, 3] rfl rfl) (fun _ _ _ h => h) ?_
           clear F a; intro a F
           refine eTakeF (k := 22) (i := 22) rfl (by kernel_rfl) F rfl rfl rfl (fun w => rBin F rfl rfl (bEqlB (y := 0))) (H.sel [0, 1, 2, 3] rfl rfl) (fun _ _ _ h => h) ?_
           clear F a; intro a F
           refine eTakeF (k := 23) (i := 23) rfl (by kernel_rfl) F rfl rfl rfl (fun w => rMv F rfl) (H.sel [0, 1, 2, 3] rfl rfl) (fun _ _ _ h => h) ?_
           clear F a; intro a F
           refine F.split 160 rfl ?_ ?_ <;> (clear F; intro h160 F)
           ·
            replace h160 := beqT h160
            refine eTake (k := 24) (i := 24) rfl (by kernel_rfl) F rfl rfl rfl rfl (fun w H => rLrB Tryd.underlying41 rfl Tryd.sizeOf41 F rfl (H.whole 2 rfl)) (H.sel [0, 1, 2, 3] rfl rfl) (fun _ _ _ h => h) ?_
            clear F a; intro a F
            refine eTakeF (k := 25) (i := 25) rfl (by kernel_rfl) F rfl rfl rfl (fun w => rMv F rfl) (H.sel [0, 1, 2, 3] rfl rfl) (fun _ _ _ h => h) ?_
            clear F a; intro a F
            refine eTakeF (k := 26) (i := 26) rfl (by kernel_rfl) F rfl rfl rfl (fun w => rMv F rfl) (H.sel [0, 1, 2, 3] rfl rfl) (fun _ _ _ h => h) ?_
            clear F a; intro a F
            refine eTakeF (k := 27) (i := 28) rfl (by kernel_rfl) F rfl rfl rfl (fun w => rMv F rfl) (H.sel [0, 1, 2, 3] rfl rfl) (fun _ _ _ h => h) ?_
            clear F a; intro a F
            refine eTakeF (k := 28) (i := 29) rfl (by kernel_rfl) F rfl rfl rfl (fun w => rFa (f := 1) (k := 36) Tryd.underlying41 rfl Tryd.sizeOf34 rfl rfl F rfl) (H.sel [0, 1, 2, 3] rfl rfl) (fun _ _ _ h => h) ?_
            clear F a; intro a F
            refine eTakeF (k := 29) (i := 30) rfl (by kernel_rfl) F rfl rfl rfl (fun w => rIa1 Tryd.underlying34 Tryd.sizeOf5 F rfl rfl ?_) (H.sel [0, 1, 2, 3] rfl rfl) (fun _ _ _ h => h) ?_
            focus (first | omega | decide | (simp; omega))
            clear F a; intro a F
            refine eTake (k := 30) (i := 31) rfl (by kernel_rfl) F rfl rfl rfl rfl (fun w H => rLd Tryd.isAgg5 F rfl (H.cellB 2 rfl (by omega))) (H.sel [0, 1, 2, 3] rfl rfl) (fun _ _ _ h => h) ?_
            clear F a; intro a F
            refine eOne (k := 31) (i := 27) rfl (by kernel_rfl) F rfl (oCall Tryd.call15 F rfl rfl (seen_any s u (UInt8.ofNat j) _ hu4 hlt) ?_)
            rintro e w ⟨rfl, hb⟩
            replace H := H.grow hb; clear hb
            refine ⟨_, rfl, ?_⟩
            clear F a; intro a F
            refine eKeep (H.sel [0, 1, 2, 3] rfl rfl) ?_
            refine eTakeF (k := 32) (i := 32) rfl (by kernel_rfl) F rfl rfl rfl (fun w => rBin F rfl rfl bNeqB) (H.sel [0, 1, 2, 3] rfl rfl) (fun _ _ _ h => h) ?_
            clear F a; intro a F
            refine eTakeF (k := 33) (i := 33) rfl (by kernel_rfl) F rfl rfl rfl (fun w => rPk F rfl rfl) (H.sel [0, 1, 2, 3] rfl rfl) (fun _ _ _ h => h) ?_
            clear F a; intro a F
            refine eTakeF (k := 34) (i := 34) rfl (by kernel_rfl) F rfl rfl rfl (fun w => rPk F rfl rfl) (H.sel [0, 1, 2, 3] rfl rfl) (fun _ _ _ h => h) ?_
            clear F a; intro a F
            refine eNil (k := 35) (by kernel_rfl) ?_
            refine hK32 _ _ ?_; clear hK32
            refine cIf F rfl (fun h171 => ?_) (fun h171 => ?_)
            ·
             replace h171 := bneT h171
             exact absurd (seen_mem (by unfold manyB; rw [h160]; rfl)) h171
            ·
             replace h171 := bneF h171
             refine wp_skip ?_
             refine hK30 _ _ ?_; clear hK30
             refine cReg ?_
             refine sBin F rfl rfl rfl rfl (bAddN (j := 1) ?_) ?_
             focus omega
             clear F a; intro a F
             refine sMv F rfl rfl rfl ?_
             clear F a; intro a F
             refine sNil ?_
             exact ⟨_, by omega, _, ⟨u + 1, rfl, rfl, by omega, H.sel [0, 1, 2, 3] rfl rfl⟩, F.to (by repeat (first | exact trivial | refine Le.cons rfl ?_))⟩
           ·
            replace h160 := beqF h160
            refine eSkip (k := 24) (i := 24) rfl (by kernel_rfl) F rfl rfl rfl (H.sel [0, 1, 2, 3] rfl rfl) (fun _ _ _ h => h) ?_
            clear F a; intro a F
            refine eSkip (k := 25) (i := 25) rfl (by kernel_rfl) F rfl rfl rfl (H.sel [0, 1, 2, 3] rfl rfl) (fun _ _ _ h => h) ?_
            clear F a; intro a F
            refine eSkip (k := 26) (i := 26) rfl (by kernel_rfl) F rfl rfl rfl (H.sel [0, 1, 2, 3] rfl rfl) (fun _ _ _ h => h) ?_
            clear F a; intro a F
            refine eSkip (k := 27) (i := 27) rfl (by kernel_rfl) F rfl rfl rfl (H.sel [0, 1, 2, 3] rfl rfl) (fun _ _ _ h => h) ?_
            clear F a; intro a F
            refine eSkip (k := 28) (i := 28) rfl (by kernel_rfl) F rfl rfl rfl (H.sel [0, 1, 2, 3] rfl rfl) (fun _ _ _ h => h) ?_
            clear F a; intro a F
            refine eSkip (k := 29) (i := 29) rfl (by kernel_rfl) F rfl rfl rfl (H.sel [0, 1, 2, 3] rfl rfl) (fun _ _ _ h => h) ?_
            clear F a; intro a F
            refine eSkip (k := 30) (i := 30) rfl (by kernel_rfl) F rfl rfl rfl (H.sel [0, 1, 2, 3] rfl rfl) (fun _ _ _ h => h) ?_
            clear F a; intro a F
            refine eSkip (k := 31) (i := 31) rfl (by kernel_rfl) F rfl rfl rfl (H.sel [0, 1, 2, 3] rfl rfl) (fun _ _ _ h => h) ?_
            clear F a; intro a F
            refine eSkip (k := 32) (i := 32) rfl (by kernel_rfl) F rfl rfl rfl (H.sel [0, 1, 2, 3] rfl rfl) (fun _ _ _ h => h) ?_
            clear F a; intro a F
            refine eTakeF (k := 33) (i := 33) rfl (by kernel_rfl) F rfl rfl rfl (fun w => rPk F rfl rfl) (H.sel [0, 1, 2, 3] rfl rfl) (fun _ _ _ h => h) ?_
            clear F a; intro a F
            refine eTakeF (k := 34) (i := 34) rfl (by kernel_rfl) F rfl rfl rfl (fun w => rPk F rfl rfl) (H.sel [0, 1, 2, 3] rfl rfl) (fun _ _ _ h => h) ?_
            clear F a; intro a F
            refine eNil (k := 35) (by kernel_rfl) ?_
            refine hK32 _ _ ?_; clear hK32
            refine cIfF F rfl ?_
            refine wp_skip ?_
            refine hK30 _ _ ?_; clear hK30
            refine cReg ?_
            refine sBin F rfl rfl rfl rfl (bAddN (j := 1) ?_) ?_
            focus omega
            clear F a; intro a F
            refine sMv F rfl rfl rfl ?_
            clear F a; intro a F
            refine sNil ?_
            exact ⟨_, by omega, _, ⟨u + 1, rfl, rfl, by omega, H.sel [0, 1, 2, 3] rfl rfl⟩, F.to (by repeat (first | exact trivial | refine Le.cons rfl ?_))⟩
         ·
          replace h140 := bneF h140
          refine eSkip (k := 4) (i := 4) rfl (by kernel_rfl) F rfl rfl rfl (H.sel [0, 1, 2, 3] rfl rfl) (fun _ _ _ h => h) ?_
          clear F a; intro a F
          refine eTakeF (k := 5) (i := 5) rfl (by kernel_rfl) F rfl rfl rfl (fun w => rPk F rfl rfl) (H.sel [0, 1, 2, 3] rfl rfl) (fun _ _ _ h => h) ?_
          clear F a; intro a F
          refine eTakeF (k := 6) (i := 6) rfl (by kernel_rfl) F rfl rfl rfl (fun w => rMv F rfl) (H.sel [0, 1, 2, 3] rfl rfl) (fun _ _ _ h => h) ?_
          clear F a; intro a F
          refine eSkip (k := 7) (i := 7) rfl (by kernel_rfl) F rfl rfl rfl (H.sel [0, 1, 2, 3] rfl rfl) (fun _ _ _ h => h) ?_
          clear F a; intro a F
          refine eSkip (k := 8) (i := 8) rfl (by kernel_rfl) F rfl rfl rfl (H.sel [0, 1, 2, 3] rfl rfl) (fun _ _ _ h => h) ?_
          clear F a; intro a F
          refine eSkip (k := 9) (i := 9) rfl (by kernel_rfl) F rfl rfl rfl (H.sel [0, 1, 2, 3] rfl rfl) (fun _ _ _ h => h) ?_
          clear F a; intro a F
          refine eSkip (k := 10) (i := 10) rfl (by kernel_rfl) F rfl rfl rfl (H.sel [0, 1, 2, 3] rfl rfl) (fun _ _ _ h => h) ?_
          clear F a; intro a F
          refine eSkip (k := 11) (i := 11) rfl (by kernel_rfl) F rfl rfl rfl (H.sel [0, 1, 2, 3] rfl rfl) (fun _ _ _ h => h) ?_
          clear F a; intro a F
          refine eSkip (k := 12) (i := 12) rfl (by kernel_rfl) F rfl rfl rfl (H.sel [0, 1, 2, 3] rfl rfl) (fun _ _ _ h => h) ?_
          clear F a; intro a F
          refine eSkip (k := 13) (i := 13) rfl (by kernel_rfl) F rfl rfl rfl (H.sel [0, 1, 2, 3] rfl rfl) (fun _ _ _ h => h) ?_
          clear F a; intro a F
          refine eSkip (k := 14) (i := 14) rfl (by kernel_rfl) F rfl rfl rfl (H.sel [0, 1, 2, 3] rfl rfl) (fun _ _ _ h => h) ?_
          clear F a; intro a F
          refine eSkip (k := 15) (i := 15) rfl (by kernel_rfl) F rfl rfl rfl (H.sel [0, 1, 2, 3] rfl rfl) (fun _ _ _ h => h) ?_
          clear F a; intro a F
          refine eTakeF (k := 16) (i := 16) rfl (by kernel_rfl) F rfl rfl rfl (fun w => rPk F rfl rfl) (H.sel [0, 1, 2, 3] rfl rfl) (fun _ _ _ h => h) ?_
          clear F a; intro a F
          refine eTakeF (k := 17) (i := 17) rfl (by kernel_rfl) F rfl rfl rfl (fun w => rMv F rfl) (H.sel [0, 1, 2, 3] rfl rfl) (fun _ _ _ h => h) ?_
          clear F a; intro a F
          refine eTakeF (k := 18) (i := 18) rfl (by kernel_rfl) F rfl rfl rfl (fun w => rMv F rfl) (H.sel [0, 1, 2, 3] rfl rfl) (fun _ _ _ h => h) ?_
          clear F a; intro a F
          refine eTakeF (k := 19) (i := 19) rfl (by kernel_rfl) F rfl rfl rfl (fun w => rFa (f := 3) (k := 138) Tryd.underlying41 rfl Tryd.sizeOf39 rfl rfl F rfl) (H.sel [0, 1, 2, 3] rfl rfl) (fun _ _ _ h => h) ?_
          clear F a; intro a F
          refine eTakeF (k := 20) (i := 20) rfl (by kernel_rfl) F rfl rfl rfl (fun w => rIa1 Tryd.underlying39 Tryd.sizeOf5 F rfl rfl ?_) (H.sel [0, 1, 2, 3] rfl rfl) (fun _ _ _ h => h) ?_
          focus (first | omega | decide | (simp; omega))
          clear F a; intro a F
          refine eTake (k := 21) (i := 21) rfl (by kernel_rfl) F rfl rfl rfl rfl (fun w H => rLd Tryd.isAgg5 F rfl (H.cellB 2 rfl (by omega))) (H.sel [0, 1, 2, 3] rfl rfl) (fun _ _ _ h => h) ?_
          clear F a; intro a F
          refine eTakeF (k := 22) (i := 22) rfl (by kernel_rfl) F rfl rfl rfl (fun w => rBin F rfl rfl (bEqlB (y := 0))) (H.sel [0, 1, 2, 3] rfl rfl) (fun _ _ _ h => h) ?_
          clear F a; intro a F
          refine eTakeF (k := 23) (i := 23) rfl (by kernel_rfl) F rfl rfl rfl (fun w => rMv F rfl) (H.sel [0, 1, 2, 3] rfl rfl) (fun _ _ _ h => h) ?_
          clear F a; intro a F
          refine F.split 160 rfl ?_ ?_ <;> (clear F; intro h160 F)
          ·
           replace h160 := beqT h160
           refine eTake (k := 24) (i := 24) rfl (by kernel_rfl) F rfl rfl rfl rfl (fun w H => rLrB Tryd.underlying41 rfl Tryd.sizeOf41 F rfl (H.whole 2 rfl)) (H.sel [0, 1, 2, 3] rfl rfl) (fun _ _ _ h => h) ?_
           clear F a; intro a F
           refine eTakeF (k := 25) (i := 25) rfl (by kernel_rfl) F rfl rfl rfl (fun w => rMv F rfl) (H.sel [0, 1, 2, 3] rfl rfl) (fun _ _ _ h => h) ?_
           clear F a; intro a F
           refine eTakeF (k := 26) (i := 26) rfl (by kernel_rfl) F rfl rfl rfl (fun w => rMv F rfl) (H.sel [0, 1, 2, 3] rfl rfl) (fun _ _ _ h => h) ?_
           clear F a; intro a F
           refine eTakeF (k := 27) (i := 28) rfl (by kernel_rfl) F rfl rfl rfl (fun w => rMv F rfl) (H.sel [0, 1, 2, 3] rfl rfl) (fun _ _ _ h => h) ?_
           clear F a; intro a F
           refine eTakeF (k := 28) (i := 29) rfl (by kernel_rfl) F rfl rfl rfl (fun w => rFa (f := 1) (k := 36) Tryd.underlying41 rfl Tryd.sizeOf34 rfl rfl F rfl) (H.sel [0, 1, 2, 3] rfl rfl) (fun _ _ _ h => h) ?_
           clear F a; intro a F
           refine eTakeF (k := 29) (i := 30) rfl (by kernel_rfl) F rfl rfl rfl (fun w => rIa1 Tryd.underlying34 Tryd.sizeOf5 F rfl rfl ?_) (H.sel [0, 1, 2, 3] rfl rfl) (fun _ _ _ h => h) ?_
           focus (first | omega | decide | (simp; omega))
           clear F a; intro a F
           refine eTake (k := 30) (i := 31) rfl (by kernel_rfl) F rfl rfl rfl rfl (fun w H => rLd Tryd.isAgg5 F rfl (H.cellB 2 rfl (by omega))) (H.sel [0, 1, 2, 3] rfl rfl) (fun _ _ _ h => h) ?_
           clear F a; intro a F
           refine eOne (k := 31) (i := 27) rfl (by kernel_rfl) F rfl (oCall Tryd.call15 F rfl rfl (seen_any s u (UInt8.ofNat j) _ hu4 hlt) ?_)
           rintro e w ⟨rfl, hb⟩
           replace H := H.grow hb; clear hb
           refine ⟨_, rfl, ?_⟩
           clear F a; intro a F
           refine eKeep (H.sel [0, 1, 2, 3] rfl rfl) ?_
           refine eTakeF (k := 32) (i := 32) rfl (by kernel_rfl) F rfl rfl rfl (fun w => rBin F rfl rfl bNeqB) (H.sel [0, 1, 2, 3] rfl rfl) (fun _ _ _ h => h) ?_
           clear F a; intro a F
           refine eTakeF (k := 33) (i := 33) rfl (by kernel_rfl) F rfl rfl rfl (fun w => rPk F rfl rfl) (H.sel [0, 1, 2, 3] rfl rfl) (fun _ _ _ h => h) ?_
           clear F a; intro a F
           refine eTakeF (k := 34) (i := 34) rfl (by kernel_rfl) F rfl rfl rfl (fun w => rPk F rfl rfl) (H.sel [0, 1, 2, 3] rfl rfl) (fun _ _ _ h => h) ?_
           clear F a; intro a F
           refine eNil (k := 35) (by kernel_rfl) ?_
           refine hK32 _ _ ?_; clear hK32
           refine cIf F rfl (fun h171 => ?_) (fun h171 => ?_)
           ·
            replace h171 := bneT h171
            exact absurd (seen_mem (by unfold manyB; rw [h160]; rfl)) h171
           ·
            replace h171 := bneF h171
            refine wp_skip ?_
            refine hK30 _ _ ?_; clear hK30
            refine cReg ?_
            refine sBin F rfl rfl rfl rfl (bAddN (j := 1) ?_) ?_
            focus omega
            clear F a; intro a F
            refine sMv F rfl rfl rfl ?_
            clear F a; intro a F
            refine sNil ?_
            exact ⟨_, by omega, _, ⟨u + 1, rfl, rfl, by omega, H.sel [0, 1, 2, 3] rfl rfl⟩, F.to (by repeat (first | exact trivial | refine Le.cons rfl ?_))⟩
          ·
           replace h160 := beqF h160
           refine eSkip (k := 24) (i := 24) rfl (by kernel_rfl) F rfl rfl rfl (H.sel [0, 1, 2, 3] rfl rfl) (fun _ _ _ h => h) ?_
           clear F a; intro a F
           refine eSkip (k := 25) (i := 25) rfl (by kernel_rfl) F rfl rfl rfl (H.sel [0, 1, 2, 3] rfl rfl) (fun _ _ _ h => h) ?_
           clear F a; intro a F
           refine eSkip (k := 26) (i := 26) rfl (by kernel_rfl) F rfl rfl rfl (H.sel [0, 1, 2, 3] rfl rfl) (fun _ _ _ h => h) ?_
           clear F a; intro a F
           refine eSkip (k := 27) (i := 27) rfl (by kernel_rfl) F rfl rfl rfl (H.sel [0, 1, 2, 3] rfl rfl) (fun _ _ _ h => h) ?_
           clear F a; intro a F
           refine eSkip (k := 28) (i := 28) rfl (by kernel_rfl) F rfl rfl rfl (H.sel [0, 1, 2, 3] rfl rfl) (fun _ _ _ h => h) ?_
           clear F a; intro a F
           refine eSkip (k := 29) (i := 29) rfl (by kernel_rfl) F rfl rfl rfl (H.sel [0, 1, 2, 3] rfl rfl) (fun _ _ _ h => h) ?_
           clear F a; intro a F
           refine eSkip (k := 30) (i := 30) rfl (by kernel_rfl) F rfl rfl rfl (H.sel [0, 1, 2, 3] rfl rfl) (fun _ _ _ h => h) ?_
           clear F a; intro a F
           refine eSkip (k := 31) (i := 31) rfl (by kernel_rfl) F rfl rfl rfl (H.sel [0, 1, 2, 3] rfl rfl) (fun _ _ _ h => h) ?_
           clear F a; intro a F
           refine eSkip (k := 32) (i := 32) rfl (by kernel_rfl) F rfl rfl rfl (H.sel [0, 1, 2, 3] rfl rfl) (fun _ _ _ h => h) ?_
           clear F a; intro a F
           refine eTakeF (k := 33) (i := 33) rfl (by kernel_rfl) F rfl rfl rfl (fun w => rPk F rfl rfl) (H.sel [0, 1, 2, 3] rfl rfl) (fun _ _ _ h => h) ?_
           clear F a; intro a F
           refine eTakeF (k := 34) (i := 34) rfl (by kernel_rfl) F rfl rfl rfl (fun w => rPk F rfl rfl) (H.sel [0, 1, 2, 3] rfl rfl) (fun _ _ _ h => h) ?_
           clear F a; intro a F
           refine eNil (k := 35) (by kernel_rfl) ?_
           refine hK32 _ _ ?_; clear hK32
           refine cIfF F rfl ?_
           refine wp_skip ?_
           refine hK30 _ _ ?_; clear hK30
           refine cReg ?_
           refine sBin F rfl rfl rfl rfl (bAddN (j := 1) ?_) ?_
           focus omega
           clear F a; intro a F
           refine sMv F rfl rfl rfl ?_
           clear F a; intro a F
           refine sNil ?_
           exact ⟨_, by omega, _, ⟨u + 1, rfl, rfl, by omega, H.sel [0, 1, 2, 3] rfl rfl⟩, F.to (by repeat (first | exact trivial | refine Le.cons rfl ?_))⟩
        ·
         replace h135 := of_decide_eq_false h135
         refine wp_exit ?_
         refine hK19 _ _ ?_; clear hK19
         refine cReg ?_
         refine sBin F rfl rfl rfl rfl (bAddB (y := 1)) ?_
         clear F a; intro a F
         refine sMv F rfl rfl rfl ?_
         clear F a; intro a F
         refine sNil ?_
         (have e1 : UInt8.ofNat j + 1 = UInt8.ofNat (j + 1) := by
           apply UInt8.toNat_inj.1
           rw [UInt8.toNat_add, UInt8.toNat_ofNat', UInt8.toNat_ofNat', show (1 : UInt8).toNat = 1 from rfl]
           omega
          rw [e1] at F
          exact ⟨_, by omega, _, ⟨j + 1, rfl, rfl, by omega, H.sel [0, 1, 2, 3] rfl rfl⟩, F.to (by repeat (first | exact trivial | refine Le.cons rfl ?_))⟩)
      ·
       refine sMv F rfl rfl rfl ?_
       clear F a; intro a F
       refine sPk F rfl rfl rfl rfl ?_
       clear F a; intro a F
       refine sMv F rfl rfl rfl ?_
       clear F a; intro a F
       refine F.split 126 rfl ?_ ?_ <;> (clear F; intro h126 F)
       ·
        refine sMv F rfl rfl rfl ?_
        clear F a; intro a F
        refine sMv F rfl rfl rfl ?_
        clear F a; intro a F
        refine sBin F rfl rfl rfl rfl bNeqB ?_
        clear F a; intro a F
        refine sPk F rfl rfl rfl rfl ?_
        clear F a; intro a F
        refine sNil ?_
        refine hK26 _ _ ?_; clear hK26
        refine cIf F rfl (fun h130 => ?_) (fun h130 => ?_)
        ·
         replace h130 := bneT h130
         exact absurd (hown (by first | exact .inl (by assumption) | exact .inr (by assumption))) h130
        ·
         replace h130 := bneF h130
         refine wp_skip ?_
         refine hK25 _ _ ?_; clear hK25
         refine cSeq (fun K33 hK33 => ?_)
         refine cReg ?_
         refine sFa (f := 3) (k := 3) Tryd.underlying29 rfl Tryd.sizeOf24 rfl rfl F rfl rfl rfl ?_
         clear F a; intro a F
         refine sLd Tryd.isAgg24 F rfl rfl rfl (H.cell 3 rfl rfl) ?_
         clear F a; intro a F
         refine sLen Tryd.underlying24 F rfl rfl rfl ?_
         clear F a; intro a F
         refine sMv F rfl rfl rfl ?_
         clear F a; intro a F
         refine sNil ?_
         refine hK33 _ _ ?_; clear hK33
         refine wp_block ?_
         refine cLoopR [4, 10, 13, 14, 15, 17, 18, 84, 85, 133] (fun m ups w => ∃ u : Nat, m = p.threads.length - u ∧ ups = [(134, .int .i64 ((u : Nat) : Int))] ∧ u ≤ p.threads.length ∧ Own w0 none w [.blk b15 (bs 142 (stepM p mc s x)) 41, .blk b13 x.cells 50, .blk b10 (bs 142 s) 41, .blk b4 ([.string p.name, .slice LA p.locs.length LC, .slice IA p.init.length IC, .slice (some ⟨bT, oT, none⟩) p.threads.length TC, Go.Proofs.YtjephfjnohgcbaaDoor.b8 p.ask] ++ [c1, c2, c3, c4, c5]) 29]) F (p.threads.length) [(134, .int .i64 ((0 : Nat) : Int))] (by repeat (first | exact SubR.nil | (apply SubR.cons; · rfl))) ?_ ?_ ?_
         · exact ⟨0, rfl, rfl, by omega, H.sel [0, 1, 2, 3] rfl rfl⟩
         · repeat (first | exact trivial | refine Le.cons rfl ?_)
         clear F
         clear H
         intro m ups a w hI F
         obtain ⟨u, rfl, rfl, hu, H⟩ := hI
         refine cSeq (fun K34 hK34 => ?_)
         refine cReg ?_
         refine sBin F rfl rfl rfl rfl bLss ?_
         clear F a; intro a F
         refine sNil ?_
         refine hK34 _ _ ?_; clear hK34
         refine cSeq (fun K35 hK35 => ?_)
         refine cIf F rfl (fun h135 => ?_) (fun h135 => ?_)
         ·
          replace h135 := of_decide_eq_true h135
          have hu4 : u < 4 := by omega
          refine wp_skip ?_
          refine hK35 _ _ ?_; clear hK35
          refine cSeq (fun K36 hK36 => ?_)
          refine wp_block ?_
          refine cSeq (fun K37 hK37 => ?_)
          refine cReg ?_
          refine sMv F rfl rfl rfl ?_
          clear F a; intro a F
          refine sAs F rfl rfl rfl ?_
          clear F a; intro a F
          refine sNil ?_
          refine hK37 _ _ ?_; clear hK37
          refine cSeq (fun K38 hK38 => ?_)
          refine cRegRO (by kernel_rfl) H ?_
          replace H := H.drew
          refine eTakeF (k := 0) (i := 0) rfl (by kernel_rfl) F rfl rfl rfl (fun w => rMv F rfl) (H.sel [0, 1, 2, 3] rfl rfl) (fun _ _ _ h => h) ?_
          clear F a; intro a F
          refine eTakeF (k := 1) (i := 1) rfl (by kernel_rfl) F rfl rfl rfl (fun w => rMv F rfl) (H.sel [0, 1, 2, 3] rfl rfl) (fun _ _ _ h => h) ?_
          clear F a; intro a F
          refine eTakeF (k := 2) (i := 2) rfl (by kernel_rfl) F rfl rfl rfl (fun w => rBin F rfl rfl bNeq) (H.sel [0, 1, 2, 3] rfl rfl) (fun _ _ _ h => h) ?_
          clear F a; intro a F
          refine eTakeF (k := 3) (i := 3) rfl (by kernel_rfl) F rfl rfl rfl (fun w => rMv F rfl) (H.sel [0, 1, 2, 3] rfl rfl) (fun _ _ _ h => h) ?_
          clear F a; intro a F
          refine F.split 140 rfl ?_ ?_ <;> (clear F; intro h140 F)
          ·
           replace h140 := bneT h140
           refine eTakeF (k := 4) (i := 4) rfl (by kernel_rfl) F rfl rfl rfl (fun w => rMv F rfl) (H.sel [0, 1, 2, 3] rfl rfl) (fun _ _ _ h => h) ?_
           clear F a; intro a F
           refine eTakeF (k := 5) (i := 5) rfl (by kernel_rfl) F rfl rfl rfl (fun w => rPk F rfl rfl) (H.sel [0, 1, 2, 3] rfl rfl) (fun _ _ _ h => h) ?_
           clear F a; intro a F
           refine eTakeF (k := 6) (i := 6) rfl (by kernel_rfl) F rfl rfl rfl (fun w => rMv F rfl) (H.sel [0, 1, 2, 3] rfl rfl) (fun _ _ _ h => h) ?_
           clear F a; intro a F
           refine F.split 143 rfl ?_ ?_ <;> (clear F; intro h143 F)
           ·
            refine eTake (k := 7) (i := 7) rfl (by kernel_rfl) F rfl rfl rfl rfl (fun w H => rLrB Tryd.underlying41 rfl Tryd.sizeOf41 F rfl (H.whole 0 rfl)) (H.sel [0, 1, 2, 3] rfl rfl) (fun _ _ _ h => h) ?_
            clear F a; intro a F
            refine eTakeF (k := 8) (i := 8) rfl (by kernel_rfl) F rfl rfl rfl (fun w => rMv F rfl) (H.sel [0, 1, 2, 3] rfl rfl) (fun _ _ _ h => h) ?_
            clear F a; intro a F
            refine eTakeF (k := 9) (i := 9) rfl (by kernel_rfl) F rfl rfl rfl (fun w => rMv F rfl) (H.sel [0, 1, 2, 3] rfl rfl) (fun _ _ _ h => h) ?_
            clear F a; intro a F
            refine eTake (k := 10) (i := 11) rfl (by kernel_rfl) F rfl rfl rfl rfl (fun w H => rLrB Tryd.underlying41 rfl Tryd.sizeOf41 F rfl (H.whole 2 rfl)) (H.sel [0, 1, 2, 3] rfl rfl) (fun _ _ _ h => h) ?_
            clear F a; intro a F
            refine eTakeF (k := 11) (i := 12) rfl (by kernel_rfl) F rfl rfl rfl (fun w => rMv F rfl) (H.sel [0, 1, 2, 3] rfl rfl) (fun _ _ _ h => h) ?_
            clear F a; intro a F
            refine eTakeF (k := 12) (i := 13) rfl (by kernel_rfl) F rfl rfl rfl (fun w => rMv F rfl) (H.sel [0, 1, 2, 3] rfl rfl) (fun _ _ _ h => h) ?_
            clear F a; intro a F
            refine eOne (k := 13) (i := 10) rfl (by kernel_rfl) F rfl (oCall Tryd.call15 F rfl rfl (seen_any (stepM p mc s x) u (UInt8.ofNat j) _ hu4 hlt) ?_)
            rintro e w ⟨rfl, hb⟩
            replace H := H.grow hb; clear hb
            refine ⟨_, rfl, ?_⟩
            clear F a; intro a F
            refine eKeep (H.sel [0, 1, 2, 3] rfl rfl) ?_
            refine eOne (k := 14) (i := 14) rfl (by kernel_rfl) F rfl (oCall Tryd.call15 F rfl rfl (seen_any s u (UInt8.ofNat j) _ hu4 hlt) ?_)
            rintro e w ⟨rfl, hb⟩
            replace H := H.grow hb; clear hb
            refine ⟨_, rfl, ?_⟩
            clear F a; intro a F
            refine ePartO (by kernel_rfl) H ?_
            refine eTakeF (k := 15) (i := 15) rfl (by kernel_rfl) F rfl rfl rfl (fun w => rBin F rfl rfl bNeqB) (H.sel [0, 1, 2, 3] rfl rfl) (fun _ _ _ h => h) ?_
            clear F a; intro a F
            refine eTakeF (k := 16) (i := 16) rfl (by kernel_rfl) F rfl rfl rfl (fun w => rPk F rfl rfl) (H.sel [0, 1, 2, 3] rfl rfl) (fun _ _ _ h => h) ?_
            clear F a; intro a F
            refine eTakeF (k := 17) (i := 17) rfl (by kernel_rfl) F rfl rfl rfl (fun w => rMv F rfl) (H.sel [0, 1, 2, 3] rfl rfl) (fun _ _ _ h => h) ?_
            clear F a; intro a F
            refine F.split 154 rfl ?_ ?_ <;> (clear F; intro h154 F)
            ·
             replace h154 := bneT h154
             exact absurd (far_was O hl (hW.trans h143) hu4 (fun e => h140 (by rw [e])) hlt) h154
            ·
             replace h154 := bneF h154
             refine eTakeF (k := 18) (i := 18) rfl (by kernel_rfl) F rfl rfl rfl (fun w => rMv F rfl) (H.sel [0, 1, 2, 3] rfl rfl) (fun _ _ _ h => h) ?_
             clear F a; intro a F
             refine eTakeF (k := 19) (i := 19) rfl (by kernel_rfl) F rfl rfl rfl (fun w => rFa (f := 3) (k := 138) Tryd.underlying41 rfl Tryd.sizeOf39 rfl rfl F rfl) (H.sel [0, 1, 2, 3] rfl rfl) (fun _ _ _ h => h) ?_
             clear F a; intro a F
             refine eTakeF (k := 20) (i := 20) rfl (by kernel_rfl) F rfl rfl rfl (fun w => rIa1 Tryd.underlying39 Tryd.sizeOf5 F rfl rfl ?_) (H.sel [0, 1, 2, 3] rfl rfl) (fun _ _ _ h => h) ?_
             focus (first | omega | decide | (simp; omega))
             clear F a; intro a F
             refine eTake (k := 21) (i := 21) rfl (by kernel_rfl) F rfl rfl rfl rfl (fun w H => rLd Tryd.isAgg5 F rfl (H.cellB 2 rfl (by omega))) (H.sel [0, 1, 2, 3] rfl rfl) (fun _ _ _ h => h) ?_
             clear F a; intro a F
             refine eTakeF (k := 22) (i := 22) rfl (by kernel_rfl) F rfl rfl rfl (fun w => rBin F rfl rfl (bEqlB (y := 0))) (H.sel [0, 1, 2, 3] rfl rfl) (fun _ _ _ h => h) ?_
             clear F a; intro a F
             refine eTakeF (k := 23) (i := 23) rfl (by kernel_rfl) F rfl rfl rfl (fun w => rMv F rfl) (H.sel [0, 1, 2, 3] rfl rfl) (fun _ _ _ h => h) ?_
             clear F a; intro a F
             refine F.split 160 rfl ?_ ?_ <;> (clear F; intro h160 F)
             ·
              replace h160 := beqT h160
              refine eTake (k := 24) (i := 24) rfl (by kernel_rfl) F rfl rfl rfl rfl (fun w H => rLrB Tryd.underlying41 rfl Tryd.sizeOf41 F rfl (H.whole 2 rfl)) (H.sel [0, 1, 2, 3] rfl rfl) (fun _ _ _ h => h) ?_
              clear F a; intro a F
              refine eTakeF (k := 25) (i := 25) rfl (by kernel_rfl) F rfl rfl rfl (fun w => rMv F rfl) (H.sel [0, 1, 2, 3] rfl rfl) (fun _ _ _ h => h) ?_
              clear F a; intro a F
              refine eTakeF (k := 26) (i := 26) rfl (by kernel_rfl) F rfl rfl rfl (fun w => rMv F rfl) (H.sel [0, 1, 2, 3] rfl rfl) (fun _ _ _ h => h) ?_
              clear F a; intro a F
              refine eTakeF (k := 27) (i := 28) rfl (by kernel_rfl) F rfl rfl rfl (fun w => rMv F rfl) (H.sel [0, 1, 2, 3] rfl rfl) (fun _ _ _ h => h) ?_
              clear F a; intro a F
              refine eTakeF (k := 28) (i := 29) rfl (by kernel_rfl) F rfl rfl rfl (fun w => rFa (f := 1) (k := 36) Tryd.underlying41 rfl Tryd.sizeOf34 rfl rfl F rfl) (H.sel [0, 1, 2, 3] rfl rfl) (fun _ _ _ h => h) ?_
              clear F a; intro a F
              refine eTakeF (k := 29) (i := 30) rfl (by kernel_rfl) F rfl rfl rfl (fun w => rIa1 Tryd.underlying34 Tryd.sizeOf5 F rfl rfl ?_) (H.sel [0, 1, 2, 3] rfl rfl) (fun _ _ _ h => h) ?_
              focus (first | omega | decide | (simp; omega))
              clear F a; intro a F
              refine eTake (k := 30) (i := 31) rfl (by kernel_rfl) F rfl rfl rfl rfl (fun w H => rLd Tryd.isAgg5 F rfl (H.cellB 2 rfl (by omega))) (H.sel [0, 1, 2, 3] rfl rfl) (fun _ _ _ h => h) ?_
              clear F a; intro a F
              refine eOne (k := 31) (i := 27) rfl (by kernel_rfl) F rfl (oCall Tryd.call15 F rfl rfl (seen_any s u (UInt8.ofNat j) _ hu4 hlt) ?_)
              rintro e w ⟨rfl, hb⟩
              replace H := H.grow hb; clear hb
              refine ⟨_, rfl, ?_⟩
              clear F a; intro a F
              refine eKeep (H.sel [0, 1, 2, 3] rfl rfl) ?_
              refine eTakeF (k := 32) (i := 32) rfl (by kernel_rfl) F rfl rfl rfl (fun w => rBin F rfl rfl bNeqB) (H.sel [0, 1, 2, 3] rfl rfl) (fun _ _ _ h => h) ?_
              clear F a; intro a F
              refine eTakeF (k := 33) (i := 33) rfl (by kernel_rfl) F rfl rfl rfl (fun w => rPk F rfl rfl) (H.sel [0, 1, 2, 3] rfl rfl) (fun _ _ _ h => h) ?_
              clear F a; intro a F
              refine eTakeF (k := 34) (i := 34) rfl (by kernel_rfl) F rfl rfl rfl (fun w => rPk F rfl rfl) (H.sel [0, 1, 2, 3] rfl rfl) (fun _ _ _ h => h) ?_
              clear F a; intro a F
              refine eNil (k := 35) (by kernel_rfl) ?_
              refine hK38 _ _ ?_; clear hK38
              refine cIf F rfl (fun h171 => ?_) (fun h171 => ?_)
              ·
               replace h171 := bneT h171
               exact absurd (seen_mem (by unfold manyB; rw [h160]; rfl)) h171
              ·
               replace h171 := bneF h171
               refine wp_skip ?_
               refine hK36 _ _ ?_; clear hK36
               refine cReg ?_
               refine sBin F rfl rfl rfl rfl (bAddN (j := 1) ?_) ?_
               focus omega
               clear F a; intro a F
               refine sMv F rfl rfl rfl ?_
               clear F a; intro a F
               refine sNil ?_
               exact ⟨_, by omega, _, ⟨u + 1, rfl, rfl, by omega, H.sel [0, 1, 2, 3] rfl rfl⟩, F.to (by repeat (first | exact trivial | refine Le.cons rfl ?_))⟩
             ·
              replace h160 := beqF h160
              refine eSkip (k := 24) (i := 24) rfl (by kernel_rfl) F rfl rfl rfl (H.sel [0, 1, 2, 3] rfl rfl) (fun _ _ _ h => h) ?_
              clear F a; intro a F
              refine eSkip (k := 25) (i := 25) rfl (by kernel_rfl) F rfl rfl rfl (H.sel [0, 1, 2, 3] rfl rfl) (fun _ _ _ h => h) ?_
              clear F a; intro a F
              refine eSkip (k := 26) (i := 26) rfl (by kernel_rfl) F rfl rfl rfl (H.sel [0, 1, 2, 3] rfl rfl) (fun _ _ _ h => h) ?_
              clear F a; intro a F
              refine eSkip (k := 27) (i := 27) rfl (by kernel_rfl) F rfl rfl rfl (H.sel [0, 1, 2, 3] rfl rfl) (fun _ _ _ h => h) ?_
              clear F a; intro a F
              refine eSkip (k := 28) (i := 28) rfl (by kernel_rfl) F rfl rfl rfl (H.sel [0, 1, 2, 3] rfl rfl) (fun _ _ _ h => h) ?_
              clear F a; intro a F
              refine eSkip (k := 29) (i := 29) rfl (by kernel_rfl) F rfl rfl rfl (H.sel [0, 1, 2, 3] rfl rfl) (fun _ _ _ h => h) ?_
              clear F a; intro a F
              refine eSkip (k := 30) (i := 30) rfl (by kernel_rfl) F rfl rfl rfl (H.sel [0, 1, 2, 3] rfl rfl) (fun _ _ _ h => h) ?_
              clear F a; intro a F
              refine eSkip (k := 31) (i := 31) rfl (by kernel_rfl) F rfl rfl rfl (H.sel [0, 1, 2, 3] rfl rfl) (fun _ _ _ h => h) ?_
              clear F a; intro a F
              refine eSkip (k := 32) (i := 32) rfl (by kernel_rfl) F rfl rfl rfl (H.sel [0, 1, 2, 3] rfl rfl) (fun _ _ _ h => h) ?_
              clear F a; intro a F
              refine eTakeF (k := 33) (i := 33) rfl (by kernel_rfl) F rfl rfl rfl (fun w => rPk F rfl rfl) (H.sel [0, 1, 2, 3] rfl rfl) (fun _ _ _ h => h) ?_
              clear F a; intro a F
              refine eTakeF (k := 34) (i := 34) rfl (by kernel_rfl) F rfl rfl rfl (fun w => rPk F rfl rfl) (H.sel [0, 1, 2, 3] rfl rfl) (fun _ _ _ h => h) ?_
              clear F a; intro a F
              refine eNil (k := 35) (by kernel_rfl) ?_
              refine hK38 _ _ ?_; clear hK38
              refine cIfF F rfl ?_
              refine wp_skip ?_
              refine hK36 _ _ ?_; clear hK36
              refine cReg ?_
              refine sBin F rfl rfl rfl rfl (bAddN (j := 1) ?_) ?_
              focus omega
              clear F a; intro a F
              refine sMv F rfl rfl rfl ?_
              clear F a; intro a F
              refine sNil ?_
              exact ⟨_, by omega, _, ⟨u + 1, rfl, rfl, by omega, H.sel [0, 1, 2, 3] rfl rfl⟩, F.to (by repeat (first | exact trivial | refine Le.cons rfl ?_))⟩
           ·
            refine eSkip (k := 7) (i := 7) rfl (by kernel_rfl) F rfl rfl rfl (H.sel [0, 1, 2, 3] rfl rfl) (fun _ _ _ h => h) ?_
            clear F a; intro a F
            refine eSkip (k := 8) (i := 8) rfl (by kernel_rfl) F rfl rfl rfl (H.sel [0, 1, 2, 3] rfl rfl) (fun _ _ _ h => h) ?_
            clear F a; intro a F
            refine eSkip (k := 9) (i := 9) rfl (by kernel_rfl) F rfl rfl rfl (H.sel [0, 1, 2, 3] rfl rfl) (fun _ _ _ h => h) ?_
            clear F a; intro a F
            refine eSkip (k := 10) (i := 10) rfl (by kernel_rfl) F rfl rfl rfl (H.sel [0, 1, 2, 3] rfl rfl) (fun _ _ _ h => h) ?_
            clear F a; intro a F
            refine eSkip (k := 11) (i := 11) rfl (by kernel_rfl) F rfl rfl rfl (H.sel [0, 1, 2, 3] rfl rfl) (fun _ _ _ h => h) ?_
            clear F a; intro a F
            refine eSkip (k := 12) (i := 12) rfl (by kernel_rfl) F rfl rfl rfl (H.sel [0, 1, 2, 3] rfl rfl) (fun _ _ _ h => h) ?_
            clear F a; intro a F
            refine eSkip (k := 13) (i := 13) rfl (by kernel_rfl) F rfl rfl rfl (H.sel [0, 1, 2, 3] rfl rfl) (fun _ _ _ h => h) ?_
            clear F a; intro a F
            refine eSkip (k := 14) (i := 14) rfl (by kernel_rfl) F rfl rfl rfl (H.sel [0, 1, 2, 3] rfl rfl) (fun _ _ _ h => h) ?_
            clear F a; intro a F
            refine eSkip (k := 15) (i := 15) rfl (by kernel_rfl) F rfl rfl rfl (H.sel [0, 1, 2, 3] rfl rfl) (fun _ _ _ h => h) ?_
            clear F a; intro a F
            refine eTakeF (k := 16) (i := 16) rfl (by kernel_rfl) F rfl rfl rfl (fun w => rPk F rfl rfl) (H.sel [0, 1, 2, 3] rfl rfl) (fun _ _ _ h => h) ?_
            clear F a; intro a F
            refine eTakeF (k := 17) (i := 17) rfl (by kernel_rfl) F rfl rfl rfl (fun w => rMv F rfl) (H.sel [0, 1, 2, 3] rfl rfl) (fun _ _ _ h => h) ?_
            clear F a; intro a F
            refine eTakeF (k := 18) (i := 18) rfl (by kernel_rfl) F rfl rfl rfl (fun w => rMv F rfl) (H.sel [0, 1, 2, 3] rfl rfl) (fun _ _ _ h => h) ?_
            clear F a; intro a F
            refine eTakeF (k := 19) (i := 19) rfl (by kernel_rfl) F rfl rfl rfl (fun w => rFa (f := 3) (k := 138) Tryd.underlying41 rfl Tryd.sizeOf39 rfl rfl F rfl) (H.sel [0, 1, 2, 3] rfl rfl) (fun _ _ _ h => h) ?_
            clear F a; intro a F
            refine eTakeF (k := 20) (i := 20) rfl (by kernel_rfl) F rfl rfl rfl (fun w => rIa1 Tryd.underlying39 Tryd.sizeOf5 F rfl rfl ?_) (H.sel [0, 1, 2, 3] rfl rfl) (fun _ _ _ h => h) ?_
            focus (first | omega | decide | (simp; omega))
            clear F a; intro a F
            refine eTake (k := 21) (i := 21) rfl (by kernel_rfl) F rfl rfl rfl rfl (fun w H => rLd Tryd.isAgg5 F rfl (H.cellB 2 rfl (by omega))) (H.sel [0, 1, 2, 3] rfl rfl) (fun _ _ _ h => h) ?_
            clear F a; intro a F
            refine eTakeF (k := 22) (i := 22) rfl (by kernel_rfl) F rfl rfl rfl (fun w => rBin F rfl rfl (bEqlB (y := 0))) (H.sel [0, 1, 2, 3] rfl rfl) (fun _ _ _ h => h) ?_
            clear F a; intro a F
            refine eTakeF (k := 23) (i := 23) rfl (by kernel_rfl) F rfl rfl rfl (fun w => rMv F rfl) (H.sel [0, 1, 2, 3] rfl rfl) (fun _ _ _ h => h) ?_
            clear F a; intro a F
            refine F.split 160 rfl ?_ ?_ <;> (clear F; intro h160 F)
            ·
             replace h160 := beqT h160
             refine eTake (k := 24) (i := 24) rfl (by kernel_rfl) F rfl rfl rfl rfl (fun w H => rLrB Tryd.underlying41 rfl Tryd.sizeOf41 F rfl (H.whole 2 rfl)) (H.sel [0, 1, 2, 3] rfl rfl) (fun _ _ _ h => h) ?_
             clear F a; intro a F
             refine eTakeF (k := 25) (i := 25) rfl (by kernel_rfl) F rfl rfl rfl (fun w => rMv F rfl) (H.sel [0, 1, 2, 3] rfl rfl) (fun _ _ _ h => h) ?_
             clear F a; intro a F
             refine eTakeF (k := 26) (i := 26) rfl (by kernel_rfl) F rfl rfl rfl (fun w => rMv F rfl) (H.sel [0, 1, 2, 3] rfl rfl) (fun _ _ _ h => h) ?_
             clear F a; intro a F
             refine eTakeF (k := 27) (i := 28) rfl (by kernel_rfl) F rfl rfl rfl (fun w => rMv F rfl) (H.sel [0, 1, 2, 3] rfl rfl) (fun _ _ _ h => h) ?_
             clear F a; intro a F
             refine eTakeF (k := 28) (i := 29) rfl (by kernel_rfl) F rfl rfl rfl (fun w => rFa (f := 1) (k := 36) Tryd.underlying41 rfl Tryd.sizeOf34 rfl rfl F rfl) (H.sel [0, 1, 2, 3] rfl rfl) (fun _ _ _ h => h) ?_
             clear F a; intro a F
             refine eTakeF (k := 29) (i := 30) rfl (by kernel_rfl) F rfl rfl rfl (fun w => rIa1 Tryd.underlying34 Tryd.sizeOf5 F rfl rfl ?_) (H.sel [0, 1, 2, 3] rfl rfl) (fun _ _ _ h => h) ?_
             focus (first | omega | decide | (simp; omega))
             clear F a; intro a F
             refine eTake (k := 30) (i := 31) rfl (by kernel_rfl) F rfl rfl rfl rfl (fun w H => rLd Tryd.isAgg5 F rfl (H.cellB 2 rfl (by omega))) (H.sel [0, 1, 2, 3] rfl rfl) (fun _ _ _ h => h) ?_
             clear F a; intro a F
             refine eOne (k := 31) (i := 27) rfl (by kernel_rfl) F rfl (oCall Tryd.call15 F rfl rfl (seen_any s u (UInt8.ofNat j) _ hu4 hlt) ?_)
             rintro e w ⟨rfl, hb⟩
             replace H := H.grow hb; clear hb
             refine ⟨_, rfl, ?_⟩
             clear F a; intro a F
             refine eKeep (H.sel [0, 1, 2, 3] rfl rfl) ?_
             refine eTakeF (k := 32) (i := 32) rfl (by kernel_rfl) F rfl rfl rfl (fun w => rBin F rfl rfl bNeqB) (H.sel [0, 1, 2, 3] rfl rfl) (fun _ _ _ h => h) ?_
             clear F a; intro a F
             refine eTakeF (k := 33) (i := 33) rfl (by kernel_rfl) F rfl rfl rfl (fun w => rPk F rfl rfl) (H.sel [0, 1, 2, 3] rfl rfl) (fun _ _ _ h => h) ?_
             clear F a; intro a F
             refine eTakeF (k := 34) (i := 34) rfl (by kernel_rfl) F rfl rfl rfl (fun w => rPk F rfl rfl) (H.sel [0, 1, 2, 3] rfl rfl) (fun _ _ _ h => h) ?_
             clear F a; intro a F
             refine eNil (k := 35) (by kernel_rfl) ?_
             refine hK38 _ _ ?_; clear hK38
             refine cIf F rfl (fun h171 => ?_) (fun h171 => ?_)
             ·
              replace h171 := bneT h171
              exact absurd (seen_mem (by unfold manyB; rw [h160]; rfl)) h171
             ·
              replace h171 := bneF h171
              refine wp_skip ?_
              refine hK36 _ _ ?_; clear hK36
              refine cReg ?_
              refine sBin F rfl rfl rfl rfl (bAddN (j := 1) ?_) ?_
              focus omega
              clear F a; intro a F
              refine sMv F rfl rfl rfl ?_
              clear F a; intro a F
              refine sNil ?_
              exact ⟨_, by omega, _, ⟨u + 1, rfl, rfl, by omega, H.sel [0, 1, 2, 3] rfl rfl⟩, F.to (by repeat (first | exact trivial | refine Le.cons rfl ?_))⟩
            ·
             replace h160 := beqF h160
             refine eSkip (k := 24) (i := 24) rfl (by kernel_rfl) F rfl rfl rfl (H.sel [0, 1, 2, 3] rfl rfl) (fun _ _ _ h => h) ?_
             clear F a; intro a F
             refine eSkip (k := 25) (i := 25) rfl (by kernel_rfl) F rfl rfl rfl (H.sel [0, 1, 2, 3] rfl rfl) (fun _ _ _ h => h) ?_
             clear F a; intro a F
             refine eSkip (k := 26) (i := 26) rfl (by kernel_rfl) F rfl rfl rfl (H.sel [0, 1, 2, 3] rfl rfl) (fun _ _ _ h => h) ?_
             clear F a; intro a F
             refine eSkip (k := 27) (i := 27) rfl (by kernel_rfl) F rfl rfl rfl (H.sel [0, 1, 2, 3] rfl rfl) (fun _ _ _ h => h) ?_
             clear F a; intro a F
             refine eSkip (k := 28) (i := 28) rfl (by kernel_rfl) F rfl rfl rfl (H.sel [0, 1, 2, 3] rfl rfl) (fun _ _ _ h => h) ?_
             clear F a; intro a F
             refine eSkip (k := 29) (i := 29) rfl (by kernel_rfl) F rfl rfl rfl (H.sel [0, 1, 2, 3] rfl rfl) (fun _ _ _ h => h) ?_
             clear F a; intro a F
             refine eSkip (k := 30) (i := 30) rfl (by kernel_rfl) F rfl rfl rfl (H.sel [0, 1, 2, 3] rfl rfl) (fun _ _ _ h => h) ?_
             clear F a; intro a F
             refine eSkip (k := 31) (i := 31) rfl (by kernel_rfl) F rfl rfl rfl (H.sel [0, 1, 2, 3] rfl rfl) (fun _ _ _ h => h) ?_
             clear F a; intro a F
             refine eSkip (k := 32) (i := 32) rfl (by kernel_rfl) F rfl rfl rfl (H.sel [0, 1, 2, 3] rfl rfl) (fun _ _ _ h => h) ?_
             clear F a; intro a F
             refine eTakeF (k := 33) (i := 33) rfl (by kernel_rfl) F rfl rfl rfl (fun w => rPk F rfl rfl) (H.sel [0, 1, 2, 3] rfl rfl) (fun _ _ _ h => h) ?_
             clear F a; intro a F
             refine eTakeF (k := 34) (i := 34) rfl (by kernel_rfl) F rfl rfl rfl (fun w => rPk F rfl rfl) (H.sel [0, 1, 2, 3] rfl rfl) (fun _ _ _ h => h) ?_
             clear F a; intro a F
             refine eNil (k := 35) (by kernel_rfl) ?_
             refine hK38 _ _ ?_; clear hK38
             refine cIfF F rfl ?_
             refine wp_skip ?_
             refine hK36 _ _ ?_; clear hK36
             refine cReg ?_
             refine sBin F rfl rfl rfl rfl (bAddN (j := 1) ?_) ?_
             focus omega
             clear F a; intro a F
             refine sMv F rfl rfl rfl ?_
             clear F a; intro a F
             refine sNil ?_
             exact ⟨_, by omega, _, ⟨u + 1, rfl, rfl, by omega, H.sel [0, 1, 2, 3] rfl rfl⟩, F.to (by repeat (first | exact trivial | refine Le.cons rfl ?_))⟩
          ·
           replace h140 := bneF h140
           refine eSkip (k := 4) (i := 4) rfl (by kernel_rfl) F rfl rfl rfl (H.sel [0, 1, 2, 3] rfl rfl) (fun _ _ _ h => h) ?_
           clear F a; intro a F
           refine eTakeF (k := 5) (i := 5) rfl (by kernel_rfl) F rfl rfl rfl (fun w => rPk F rfl rfl) (H.sel [0, 1, 2, 3] rfl rfl) (fun _ _ _ h => h) ?_
           clear F a; intro a F
           refine eTakeF (k := 6) (i := 6) rfl (by kernel_rfl) F rfl rfl rfl (fun w => rMv F rfl) (H.sel [0, 1, 2, 3] rfl rfl) (fun _ _ _ h => h) ?_
           clear F a; intro a F
           refine eSkip (k := 7) (i := 7) rfl (by kernel_rfl) F rfl rfl rfl (H.sel [0, 1, 2, 3] rfl rfl) (fun _ _ _ h => h) ?_
           clear F a; intro a F
           refine eSkip (k := 8) (i := 8) rfl (by kernel_rfl) F rfl rfl rfl (H.sel [0, 1, 2, 3] rfl rfl) (fun _ _ _ h => h) ?_
           clear F a; intro a F
           refine eSkip (k := 9) (i := 9) rfl (by kernel_rfl) F rfl rfl rfl (H.sel [0, 1, 2, 3] rfl rfl) (fun _ _ _ h => h) ?_
           clear F a; intro a F
           refine eSkip (k := 10) (i := 10) rfl (by kernel_rfl) F rfl rfl rfl (H.sel [0, 1, 2, 3] rfl rfl) (fun _ _ _ h => h) ?_
           clear F a; intro a F
           refine eSkip (k := 11) (i := 11) rfl (by kernel_rfl) F rfl rfl rfl (H.sel [0, 1, 2, 3] rfl rfl) (fun _ _ _ h => h) ?_
           clear F a; intro a F
           refine eSkip (k := 12) (i := 12) rfl (by kernel_rfl) F rfl rfl rfl (H.sel [0, 1, 2, 3] rfl rfl) (fun _ _ _ h => h) ?_
           clear F a; intro a F
           refine eSkip (k := 13) (i := 13) rfl (by kernel_rfl) F rfl rfl rfl (H.sel [0, 1, 2, 3] rfl rfl) (fun _ _ _ h => h) ?_
           clear F a; intro a F
           refine eSkip (k := 14) (i := 14) rfl (by kernel_rfl) F rfl rfl rfl (H.sel [0, 1, 2, 3] rfl rfl) (fun _ _ _ h => h) ?_
           clear F a; intro a F
           refine eSkip (k := 15) (i := 15) rfl (by kernel_rfl) F rfl rfl rfl (H.sel [0, 1, 2, 3] rfl rfl) (fun _ _ _ h => h) ?_
           clear F a; intro a F
           refine eTakeF (k := 16) (i := 16) rfl (by kernel_rfl) F rfl rfl rfl (fun w => rPk F rfl rfl) (H.sel [0, 1, 2, 3] rfl rfl) (fun _ _ _ h => h) ?_
           clear F a; intro a F
           refine eTakeF (k := 17) (i := 17) rfl (by kernel_rfl) F rfl rfl rfl (fun w => rMv F rfl) (H.sel [0, 1, 2, 3] rfl rfl) (fun _ _ _ h => h) ?_
           clear F a; intro a F
           refine eTakeF (k := 18) (i := 18) rfl (by kernel_rfl) F rfl rfl rfl (fun w => rMv F rfl) (H.sel [0, 1, 2, 3] rfl rfl) (fun _ _ _ h => h) ?_
           clear F a; intro a F
           refine eTakeF (k := 19) (i := 19) rfl (by kernel_rfl) F rfl rfl rfl (fun w => rFa (f := 3) (k := 138) Tryd.underlying41 rfl Tryd.sizeOf39 rfl rfl F rfl) (H.sel [0, 1, 2, 3] rfl rfl) (fun _ _ _ h => h) ?_
           clear F a; intro a F
           refine eTakeF (k := 20) (i := 20) rfl (by kernel_rfl) F rfl rfl rfl (fun w => rIa1 Tryd.underlying39 Tryd.sizeOf5 F rfl rfl ?_) (H.sel [0, 1, 2, 3] rfl rfl) (fun _ _ _ h => h) ?_
           focus (first | omega | decide | (simp; omega))
           clear F a; intro a F
           refine eTake (k := 21) (i := 21) rfl (by kernel_rfl) F rfl rfl rfl rfl (fun w H => rLd Tryd.isAgg5 F rfl (H.cellB 2 rfl (by omega))) (H.sel [0, 1, 2, 3] rfl rfl) (fun _ _ _ h => h) ?_
           clear F a; intro a F
           refine eTakeF (k := 22) (i := 22) rfl (by kernel_rfl) F rfl rfl rfl (fun w => rBin F rfl rfl (bEqlB (y := 0))) (H.sel [0, 1, 2, 3] rfl rfl) (fun _ _ _ h => h) ?_
           clear F a; intro a F
           refine eTakeF (k := 23) (i := 23) rfl (by kernel_rfl) F rfl rfl rfl (fun w => rMv F rfl) (H.sel [0, 1, 2, 3] rfl rfl) (fun _ _ _ h => h) ?_
           clear F a; intro a F
           refine F.split 160 rfl ?_ ?_ <;> (clear F; intro h160 F)
           ·
            replace h160 := beqT h160
            refine eTake (k := 24) (i := 24) rfl (by kernel_rfl) F rfl rfl rfl rfl (fun w H => rLrB Tryd.underlying41 rfl Tryd.sizeOf41 F rfl (H.whole 2 rfl)) (H.sel [0, 1, 2, 3] rfl rfl) (fun _ _ _ h => h) ?_
            clear F a; intro a F
            refine eTakeF (k := 25) (i := 25) rfl (by kernel_rfl) F rfl rfl rfl (fun w => rMv F rfl) (H.sel [0, 1, 2, 3] rfl rfl) (fun _ _ _ h => h) ?_
            clear F a; intro a F
            refine eTakeF (k := 26) (i := 26) rfl (by kernel_rfl) F rfl rfl rfl (fun w => rMv F rfl) (H.sel [0, 1, 2, 3] rfl rfl) (fun _ _ _ h => h) ?_
            clear F a; intro a F
            refine eTakeF (k := 27) (i := 28) rfl (by kernel_rfl) F rfl rfl rfl (fun w => rMv F rfl) (H.sel [0, 1, 2, 3] rfl rfl) (fun _ _ _ h => h) ?_
            clear F a; intro a F
            refine eTakeF (k := 28) (i := 29) rfl (by kernel_rfl) F rfl rfl rfl (fun w => rFa (f := 1) (k := 36) Tryd.underlying41 rfl Tryd.sizeOf34 rfl rfl F rfl) (H.sel [0, 1, 2, 3] rfl rfl) (fun _ _ _ h => h) ?_
            clear F a; intro a F
            refine eTakeF (k := 29) (i := 30) rfl (by kernel_rfl) F rfl rfl rfl (fun w => rIa1 Tryd.underlying34 Tryd.sizeOf5 F rfl rfl ?_) (H.sel [0, 1, 2, 3] rfl rfl) (fun _ _ _ h => h) ?_
            focus (first | omega | decide | (simp; omega))
            clear F a; intro a F
            refine eTake (k := 30) (i := 31) rfl (by kernel_rfl) F rfl rfl rfl rfl (fun w H => rLd Tryd.isAgg5 F rfl (H.cellB 2 rfl (by omega))) (H.sel [0, 1, 2, 3] rfl rfl) (fun _ _ _ h => h) ?_
            clear F a; intro a F
            refine eOne (k := 31) (i := 27) rfl (by kernel_rfl) F rfl (oCall Tryd.call15 F rfl rfl (seen_any s u (UInt8.ofNat j) _ hu4 hlt) ?_)
            rintro e w ⟨rfl, hb⟩
            replace H := H.grow hb; clear hb
            refine ⟨_, rfl, ?_⟩
            clear F a; intro a F
            refine eKeep (H.sel [0, 1, 2, 3] rfl rfl) ?_
            refine eTakeF (k := 32) (i := 32) rfl (by kernel_rfl) F rfl rfl rfl (fun w => rBin F rfl rfl bNeqB) (H.sel [0, 1, 2, 3] rfl rfl) (fun _ _ _ h => h) ?_
            clear F a; intro a F
            refine eTakeF (k := 33) (i := 33) rfl (by kernel_rfl) F rfl rfl rfl (fun w => rPk F rfl rfl) (H.sel [0, 1, 2, 3] rfl rfl) (fun _ _ _ h => h) ?_
            clear F a; intro a F
            refine eTakeF (k := 34) (i := 34) rfl (by kernel_rfl) F rfl rfl rfl (fun w => rPk F rfl rfl) (H.sel [0, 1, 2, 3] rfl rfl) (fun _ _ _ h => h) ?_
            clear F a; intro a F
            refine eNil (k := 35) (by kernel_rfl) ?_
            refine hK38 _ _ ?_; clear hK38
            refine cIf F rfl (fun h171 => ?_) (fun h171 => ?_)
            ·
             replace h171 := bneT h171
             exact absurd (seen_mem (by unfold manyB; rw [h160]; rfl)) h171
            ·
             replace h171 := bneF h171
             refine wp_skip ?_
             refine hK36 _ _ ?_; clear hK36
             refine cReg ?_
             refine sBin F rfl rfl rfl rfl (bAddN (j := 1) ?_) ?_
             focus omega
             clear F a; intro a F
             refine sMv F rfl rfl rfl ?_
             clear F a; intro a F
             refine sNil ?_
             exact ⟨_, by omega, _, ⟨u + 1, rfl, rfl, by omega, H.sel [0, 1, 2, 3] rfl rfl⟩, F.to (by repeat (first | exact trivial | refine Le.cons rfl ?_))⟩
           ·
            replace h160 := beqF h160
            refine eSkip (k := 24) (i := 24) rfl (by kernel_rfl) F rfl rfl rfl (H.sel [0, 1, 2, 3] rfl rfl) (fun _ _ _ h => h) ?_
            clear F a; intro a F
            refine eSkip (k := 25) (i := 25) rfl (by kernel_rfl) F rfl rfl rfl (H.sel [0, 1, 2, 3] rfl rfl) (fun _ _ _ h => h) ?_
            clear F a; intro a F
            refine eSkip (k := 26) (i := 26) rfl (by kernel_rfl) F rfl rfl rfl (H.sel [0, 1, 2, 3] rfl rfl) (fun _ _ _ h => h) ?_
            clear F a; intro a F
            refine eSkip (k := 27) (i := 27) rfl (by kernel_rfl) F rfl rfl rfl (H.sel [0, 1, 2, 3] rfl rfl) (fun _ _ _ h => h) ?_
            clear F a; intro a F
            refine eSkip (k := 28) (i := 28) rfl (by kernel_rfl) F rfl rfl rfl (H.sel [0, 1, 2, 3] rfl rfl) (fun _ _ _ h => h) ?_
            clear F a; intro a F
            refine eSkip (k := 29) (i := 29) rfl (by kernel_rfl) F rfl rfl rfl (H.sel [0, 1, 2, 3] rfl rfl) (fun _ _ _ h => h) ?_
            clear F a; intro a F
            refine eSkip (k := 30) (i := 30) rfl (by kernel_rfl) F rfl rfl rfl (H.sel [0, 1, 2, 3] rfl rfl) (fun _ _ _ h => h) ?_
            clear F a; intro a F
            refine eSkip (k := 31) (i := 31) rfl (by kernel_rfl) F rfl rfl rfl (H.sel [0, 1, 2, 3] rfl rfl) (fun _ _ _ h => h) ?_
            clear F a; intro a F
            refine eSkip (k := 32) (i := 32) rfl (by kernel_rfl) F rfl rfl rfl (H.sel [0, 1, 2, 3] rfl rfl) (fun _ _ _ h => h) ?_
            clear F a; intro a F
            refine eTakeF (k := 33) (i := 33) rfl (by kernel_rfl) F rfl rfl rfl (fun w => rPk F rfl rfl) (H.sel [0, 1, 2, 3] rfl rfl) (fun _ _ _ h => h) ?_
            clear F a; intro a F
            refine eTakeF (k := 34) (i := 34) rfl (by kernel_rfl) F rfl rfl rfl (fun w => rPk F rfl rfl) (H.sel [0, 1, 2, 3] rfl rfl) (fun _ _ _ h => h) ?_
            clear F a; intro a F
            refine eNil (k := 35) (by kernel_rfl) ?_
            refine hK38 _ _ ?_; clear hK38
            refine cIfF F rfl ?_
            refine wp_skip ?_
            refine hK36 _ _ ?_; clear hK36
            refine cReg ?_
            refine sBin F rfl rfl rfl rfl (bAddN (j := 1) ?_) ?_
            focus omega
            clear F a; intro a F
            refine sMv F rfl rfl rfl ?_
            clear F a; intro a F
            refine sNil ?_
            exact ⟨_, by omega, _, ⟨u + 1, rfl, rfl, by omega, H.sel [0, 1, 2, 3] rfl rfl⟩, F.to (by repeat (first | exact trivial | refine Le.cons rfl ?_))⟩
         ·
          replace h135 := of_decide_eq_false h135
          refine wp_exit ?_
          refine hK19 _ _ ?_; clear hK19
          refine cReg ?_
          refine sBin F rfl rfl rfl rfl (bAddB (y := 1)) ?_
          clear F a; intro a F
          refine sMv F rfl rfl rfl ?_
          clear F a; intro a F
          refine sNil ?_
          (have e1 : UInt8.ofNat j + 1 = UInt8.ofNat (j + 1) := by
            apply UInt8.toNat_inj.1
            rw [UInt8.toNat_add, UInt8.toNat_ofNat', UInt8.toNat_ofNat', show (1 : UInt8).toNat = 1 from rfl]
            omega
           rw [e1] at F
           exact ⟨_, by omega, _, ⟨j + 1, rfl, rfl, by omega, H.sel [0, 1, 2, 3] rfl rfl⟩, F.to (by repeat (first | exact trivial | refine Le.cons rfl ?_))⟩)
       ·
        refine sSk F rfl rfl ?_
        clear F a; intro a F
        refine sSk F rfl rfl ?_
        clear F a; intro a F
        refine sSk F rfl rfl ?_
        clear F a; intro a F
        refine sPk F rfl rfl rfl rfl ?_
        clear F a; intro a F
        refine sNil ?_
        refine hK26 _ _ ?_; clear hK26
        refine cIfF F rfl ?_
        refine wp_skip ?_
        refine hK25 _ _ ?_; clear hK25
        refine cSeq (fun K39 hK39 => ?_)
        refine cReg ?_
        refine sFa (f := 3) (k := 3) Tryd.underlying29 rfl Tryd.sizeOf24 rfl rfl F rfl rfl rfl ?_
        clear F a; intro a F
        refine sLd Tryd.isAgg24 F rfl rfl rfl (H.cell 3 rfl rfl) ?_
        clear F a; intro a F
        refine sLen Tryd.underlying24 F rfl rfl rfl ?_
        clear F a; intro a F
        refine sMv F rfl rfl rfl ?_
        clear F a; intro a F
        refine sNil ?_
        refine hK39 _ _ ?_; clear hK39
        refine wp_block ?_
        refine cLoopR [4, 10, 13, 14, 15, 17, 18, 84, 85, 133] (fun m ups w => ∃ u : Nat, m = p.threads.length - u ∧ ups = [(134, .int .i64 ((u : Nat) : Int))] ∧ u ≤ p.threads.length ∧ Own w0 none w [.blk b15 (bs 142 (stepM p mc s x)) 41, .blk b13 x.cells 50, .blk b10 (bs 142 s) 41, .blk b4 ([.string p.name, .slice LA p.locs.length LC, .slice IA p.init.length IC, .slice (some ⟨bT, oT, none⟩) p.threads.length TC, Go.Proofs.YtjephfjnohgcbaaDoor.b8 p.ask] ++ [c1, c2, c3, c4, c5]) 29]) F (p.threads.length) [(134, .int .i64 ((0 : Nat) : Int))] (by repeat (first | exact SubR.nil | (apply SubR.cons; · rfl))) ?_ ?_ ?_
        · exact ⟨0, rfl, rfl, by omega, H.sel [0, 1, 2, 3] rfl rfl⟩
        · repeat (first | exact trivial | refine Le.cons rfl ?_)
        clear F
        clear H
        intro m ups a w hI F
        obtain ⟨u, rfl, rfl, hu, H⟩ := hI
        refine cSeq (fun K40 hK40 => ?_)
        refine cReg ?_
        refine sBin F rfl rfl rfl rfl bLss ?_
        clear F a; intro a F
        refine sNil ?_
        refine hK40 _ _ ?_; clear hK40
        refine cSeq (fun K41 hK41 => ?_)
        refine cIf F rfl (fun h135 => ?_) (fun h135 => ?_)
        ·
         replace h135 := of_decide_eq_true h135
         have hu4 : u < 4 := by omega
         refine wp_skip ?_
         refine hK41 _ _ ?_; clear hK41
         refine cSeq (fun K42 hK42 => ?_)
         refine wp_block ?_
         refine cSeq (fun K43 hK43 => ?_)
         refine cReg ?_
         refine sMv F rfl rfl rfl ?_
         clear F a; intro a F
         refine sAs F rfl rfl rfl ?_
         clear F a; intro a F
         refine sNil ?_
         refine hK43 _ _ ?_; clear hK43
         refine cSeq (fun K44 hK44 => ?_)
         refine cRegRO (by kernel_rfl) H ?_
         replace H := H.drew
         refine eTakeF (k := 0) (i := 0) rfl (by kernel_rfl) F rfl rfl rfl (fun w => rMv F rfl) (H.sel [0, 1, 2, 3] rfl rfl) (fun _ _ _ h => h) ?_
         clear F a; intro a F
         refine eTakeF (k := 1) (i := 1) rfl (by kernel_rfl) F rfl rfl rfl (fun w => rMv F rfl) (H.sel [0, 1, 2, 3] rfl rfl) (fun _ _ _ h => h) ?_
         clear F a; intro a F
         refine eTakeF (k := 2) (i := 2) rfl (by kernel_rfl) F rfl rfl rfl (fun w => rBin F rfl rfl bNeq) (H.sel [0, 1, 2, 3] rfl rfl) (fun _ _ _ h => h) ?_
         clear F a; intro a F
         refine eTakeF (k := 3) (i := 3) rfl (by kernel_rfl) F rfl rfl rfl (fun w => rMv F rfl) (H.sel [0, 1, 2, 3] rfl rfl) (fun _ _ _ h => h) ?_
         clear F a; intro a F
         refine F.split 140 rfl ?_ ?_ <;> (clear F; intro h140 F)
         ·
          replace h140 := bneT h140
          refine eTakeF (k := 4) (i := 4) rfl (by kernel_rfl) F rfl rfl rfl (fun w => rMv F rfl) (H.sel [0, 1, 2, 3] rfl rfl) (fun _ _ _ h => h) ?_
          clear F a; intro a F
          refine eTakeF (k := 5) (i := 5) rfl (by kernel_rfl) F rfl rfl rfl (fun w => rPk F rfl rfl) (H.sel [0, 1, 2, 3] rfl rfl) (fun _ _ _ h => h) ?_
          clear F a; intro a F
          refine eTakeF (k := 6) (i := 6) rfl (by kernel_rfl) F rfl rfl rfl (fun w => rMv F rfl) (H.sel [0, 1, 2, 3] rfl rfl) (fun _ _ _ h => h) ?_
          clear F a; intro a F
          refine F.split 143 rfl ?_ ?_ <;> (clear F; intro h143 F)
          ·
           refine eTake (k := 7) (i := 7) rfl (by kernel_rfl) F rfl rfl rfl rfl (fun w H => rLrB Tryd.underlying41 rfl Tryd.sizeOf41 F rfl (H.whole 0 rfl)) (H.sel [0, 1, 2, 3] rfl rfl) (fun _ _ _ h => h) ?_
           clear F a; intro a F
           refine eTakeF (k := 8) (i := 8) rfl (by kernel_rfl) F rfl rfl rfl (fun w => rMv F rfl) (H.sel [0, 1, 2, 3] rfl rfl) (fun _ _ _ h => h) ?_
           clear F a; intro a F
           refine eTakeF (k := 9) (i := 9) rfl (by kernel_rfl) F rfl rfl rfl (fun w => rMv F rfl) (H.sel [0, 1, 2, 3] rfl rfl) (fun _ _ _ h => h) ?_
           clear F a; intro a F
           refine eTake (k := 10) (i := 11) rfl (by kernel_rfl) F rfl rfl rfl rfl (fun w H => rLrB Tryd.underlying41 rfl Tryd.sizeOf41 F rfl (H.whole 2 rfl)) (H.sel [0, 1, 2, 3] rfl rfl) (fun _ _ _ h => h) ?_
           clear F a; intro a F
           refine eTakeF (k := 11) (i := 12) rfl (by kernel_rfl) F rfl rfl rfl (fun w => rMv F rfl) (H.sel [0, 1, 2, 3] rfl rfl) (fun _ _ _ h => h) ?_
           clear F a; intro a F
           refine eTakeF (k := 12) (i := 13) rfl (by kernel_rfl) F rfl rfl rfl (fun w => rMv F rfl) (H.sel [0, 1, 2, 3] rfl rfl) (fun _ _ _ h => h) ?_
           clear F a; intro a F
           refine eOne (k := 13) (i := 10) rfl (by kernel_rfl) F rfl (oCall Tryd.call15 F rfl rfl (seen_any (stepM p mc s x) u (UInt8.ofNat j) _ hu4 hlt) ?_)
           rintro e w ⟨rfl, hb⟩
           replace H := H.grow hb; clear hb
           refine ⟨_, rfl, ?_⟩
           clear F a; intro a F
           refine eKeep (H.sel [0, 1, 2, 3] rfl rfl) ?_
           refine eOne (k := 14) (i := 14) rfl (by kernel_rfl) F rfl (oCall Tryd.call15 F rfl rfl (seen_any s u (UInt8.ofNat j) _ hu4 hlt) ?_)
           rintro e w ⟨rfl, hb⟩
           replace H := H.grow hb; clear hb
           refine ⟨_, rfl, ?_⟩
           clear F a; intro a F
           refine ePartO (by kernel_rfl) H ?_
           refine eTakeF (k := 15) (i := 15) rfl (by kernel_rfl) F rfl rfl rfl (fun w => rBin F rfl rfl bNeqB) (H.sel [0, 1, 2, 3] rfl rfl) (fun _ _ _ h => h) ?_
           clear F a; intro a F
           refine eTakeF (k := 16) (i := 16) rfl (by kernel_rfl) F rfl rfl rfl (fun w => rPk F rfl rfl) (H.sel [0, 1, 2, 3] rfl rfl) (fun _ _ _ h => h) ?_
           clear F a; intro a F
           refine eTakeF (k := 17) (i := 17) rfl (by kernel_rfl) F rfl rfl rfl (fun w => rMv F rfl) (H.sel [0, 1, 2, 3] rfl rfl) (fun _ _ _ h => h) ?_
           clear F a; intro a F
           refine F.split 154 rfl ?_ ?_ <;> (clear F; intro h154 F)
           ·
            replace h154 := bneT h154
            exact absurd (far_was O hl (hW.trans h143) hu4 (fun e => h140 (by rw [e])) hlt) h154
           ·
            replace h154 := bneF h154
            refine eTakeF (k := 18) (i := 18) rfl (by kernel_rfl) F rfl rfl rfl (fun w => rMv F rfl) (H.sel [0, 1, 2, 3] rfl rfl) (fun _ _ _ h => h) ?_
            clear F a; intro a F
            refine eTakeF (k := 19) (i := 19) rfl (by kernel_rfl) F rfl rfl rfl (fun w => rFa (f := 3) (k := 138) Tryd.underlying41 rfl Tryd.sizeOf39 rfl rfl F rfl) (H.sel [0, 1, 2, 3] rfl rfl) (fun _ _ _ h => h) ?_
            clear F a; intro a F
            refine eTakeF (k := 20) (i := 20) rfl (by kernel_rfl) F rfl rfl rfl (fun w => rIa1 Tryd.underlying39 Tryd.sizeOf5 F rfl rfl ?_) (H.sel [0, 1, 2, 3] rfl rfl) (fun _ _ _ h => h) ?_
            focus (first | omega | decide | (simp; omega))
            clear F a; intro a F
            refine eTake (k := 21) (i := 21) rfl (by kernel_rfl) F rfl rfl rfl rfl (fun w H => rLd Tryd.isAgg5 F rfl (H.cellB 2 rfl (by omega))) (H.sel [0, 1, 2, 3] rfl rfl) (fun _ _ _ h => h) ?_
            clear F a; intro a F
            refine eTakeF (k := 22) (i := 22) rfl (by kernel_rfl) F rfl rfl rfl (fun w => rBin F rfl rfl (bEqlB (y := 0))) (H.sel [0, 1, 2, 3] rfl rfl) (fun _ _ _ h => h) ?_
            clear F a; intro a F
            refine eTakeF (k := 23) (i := 23) rfl (by kernel_rfl) F rfl rfl rfl (fun w => rMv F rfl) (H.sel [0, 1, 2, 3] rfl rfl) (fun _ _ _ h => h) ?_
            clear F a; intro a F
            refine F.split 160 rfl ?_ ?_ <;> (clear F; intro h160 F)
            ·
             replace h160 := beqT h160
             refine eTake (k := 24) (i := 24) rfl (by kernel_rfl) F rfl rfl rfl rfl (fun w H => rLrB Tryd.underlying41 rfl Tryd.sizeOf41 F rfl (H.whole 2 rfl)) (H.sel [0, 1, 2, 3] rfl rfl) (fun _ _ _ h => h) ?_
             clear F a; intro a F
             refine eTakeF (k := 25) (i := 25) rfl (by kernel_rfl) F rfl rfl rfl (fun w => rMv F rfl) (H.sel [0, 1, 2, 3] rfl rfl) (fun _ _ _ h => h) ?_
             clear F a; intro a F
             refine eTakeF (k := 26) (i := 26) rfl (by kernel_rfl) F rfl rfl rfl (fun w => rMv F rfl) (H.sel [0, 1, 2, 3] rfl rfl) (fun _ _ _ h => h) ?_
             clear F a; intro a F
             refine eTakeF (k := 27) (i := 28) rfl (by kernel_rfl) F rfl rfl rfl (fun w => rMv F rfl) (H.sel [0, 1, 2, 3] rfl rfl) (fun _ _ _ h => h) ?_
             clear F a; intro a F
             refine eTakeF (k := 28) (i := 29) rfl (by kernel_rfl) F rfl rfl rfl (fun w => rFa (f := 1) (k := 36) Tryd.underlying41 rfl Tryd.sizeOf34 rfl rfl F rfl) (H.sel [0, 1, 2, 3] rfl rfl) (fun _ _ _ h => h) ?_
             clear F a; intro a F
             refine eTakeF (k := 29) (i := 30) rfl (by kernel_rfl) F rfl rfl rfl (fun w => rIa1 Tryd.underlying34 Tryd.sizeOf5 F rfl rfl ?_) (H.sel [0, 1, 2, 3] rfl rfl) (fun _ _ _ h => h) ?_
             focus (first | omega | decide | (simp; omega))
             clear F a; intro a F
             refine eTake (k := 30) (i := 31) rfl (by kernel_rfl) F rfl rfl rfl rfl (fun w H => rLd Tryd.isAgg5 F rfl (H.cellB 2 rfl (by omega))) (H.sel [0, 1, 2, 3] rfl rfl) (fun _ _ _ h => h) ?_
             clear F a; intro a F
             refine eOne (k := 31) (i := 27) rfl (by kernel_rfl) F rfl (oCall Tryd.call15 F rfl rfl (seen_any s u (UInt8.ofNat j) _ hu4 hlt) ?_)
             rintro e w ⟨rfl, hb⟩
             replace H := H.grow hb; clear hb
             refine ⟨_, rfl, ?_⟩
             clear F a; intro a F
             refine eKeep (H.sel [0, 1, 2, 3] rfl rfl) ?_
             refine eTakeF (k := 32) (i := 32) rfl (by kernel_rfl) F rfl rfl rfl (fun w => rBin F rfl rfl bNeqB) (H.sel [0, 1, 2, 3] rfl rfl) (fun _ _ _ h => h) ?_
             clear F a; intro a F
             refine eTakeF (k := 33) (i := 33) rfl (by kernel_rfl) F rfl rfl rfl (fun w => rPk F rfl rfl) (H.sel [0, 1, 2, 3] rfl rfl) (fun _ _ _ h => h) ?_
             clear F a; intro a F
             refine eTakeF (k := 34) (i := 34) rfl (by kernel_rfl) F rfl rfl rfl (fun w => rPk F rfl rfl) (H.sel [0, 1, 2, 3] rfl rfl) (fun _ _ _ h => h) ?_
             clear F a; intro a F
             refine eNil (k := 35) (by kernel_rfl) ?_
             refine hK44 _ _ ?_; clear hK44
             refine cIf F rfl (fun h171 => ?_) (fun h171 => ?_)
             ·
              replace h171 := bneT h171
              exact absurd (seen_mem (by unfold manyB; rw [h160]; rfl)) h171
             ·
              replace h171 := bneF h171
              refine wp_skip ?_
              refine hK42 _ _ ?_; clear hK42
              refine cReg ?_
              refine sBin F rfl rfl rfl rfl (bAddN (j := 1) ?_) ?_
              focus omega
              clear F a; intro a F
              refine sMv F rfl rfl rfl ?_
              clear F a; intro a F
              refine sNil ?_
              exact ⟨_, by omega, _, ⟨u + 1, rfl, rfl, by omega, H.sel [0, 1, 2, 3] rfl rfl⟩, F.to (by repeat (first | exact trivial | refine Le.cons rfl ?_))⟩
            ·
             replace h160 := beqF h160
             refine eSkip (k := 24) (i := 24) rfl (by kernel_rfl) F rfl rfl rfl (H.sel [0, 1, 2, 3] rfl rfl) (fun _ _ _ h => h) ?_
             clear F a; intro a F
             refine eSkip (k := 25) (i := 25) rfl (by kernel_rfl) F rfl rfl rfl (H.sel [0, 1, 2, 3] rfl rfl) (fun _ _ _ h => h) ?_
             clear F a; intro a F
             refine eSkip (k := 26) (i := 26) rfl (by kernel_rfl) F rfl rfl rfl (H.sel [0, 1, 2, 3] rfl rfl) (fun _ _ _ h => h) ?_
             clear F a; intro a F
             refine eSkip (k := 27) (i := 27) rfl (by kernel_rfl) F rfl rfl rfl (H.sel [0, 1, 2, 3] rfl rfl) (fun _ _ _ h => h) ?_
             clear F a; intro a F
             refine eSkip (k := 28) (i := 28) rfl (by kernel_rfl) F rfl rfl rfl (H.sel [0, 1, 2, 3] rfl rfl) (fun _ _ _ h => h) ?_
             clear F a; intro a F
             refine eSkip (k := 29) (i := 29) rfl (by kernel_rfl) F rfl rfl rfl (H.sel [0, 1, 2, 3] rfl rfl) (fun _ _ _ h => h) ?_
             clear F a; intro a F
             refine eSkip (k := 30) (i := 30) rfl (by kernel_rfl) F rfl rfl rfl (H.sel [0, 1, 2, 3] rfl rfl) (fun _ _ _ h => h) ?_
             clear F a; intro a F
             refine eSkip (k := 31) (i := 31) rfl (by kernel_rfl) F rfl rfl rfl (H.sel [0, 1, 2, 3] rfl rfl) (fun _ _ _ h => h) ?_
             clear F a; intro a F
             refine eSkip (k := 32) (i := 32) rfl (by kernel_rfl) F rfl rfl rfl (H.sel [0, 1, 2, 3] rfl rfl) (fun _ _ _ h => h) ?_
             clear F a; intro a F
             refine eTakeF (k := 33) (i := 33) rfl (by kernel_rfl) F rfl rfl rfl (fun w => rPk F rfl rfl) (H.sel [0, 1, 2, 3] rfl rfl) (fun _ _ _ h => h) ?_
             clear F a; intro a F
             refine eTakeF (k := 34) (i := 34) rfl (by kernel_rfl) F rfl rfl rfl (fun w => rPk F rfl rfl) (H.sel [0, 1, 2, 3] rfl rfl) (fun _ _ _ h => h) ?_
             clear F a; intro a F
             refine eNil (k := 35) (by kernel_rfl) ?_
             refine hK44 _ _ ?_; clear hK44
             refine cIfF F rfl ?_
             refine wp_skip ?_
             refine hK42 _ _ ?_; clear hK42
             refine cReg ?_
             refine sBin F rfl rfl rfl rfl (bAddN (j := 1) ?_) ?_
             focus omega
             clear F a; intro a F
             refine sMv F rfl rfl rfl ?_
             clear F a; intro a F
             refine sNil ?_
             exact ⟨_, by omega, _, ⟨u + 1, rfl, rfl, by omega, H.sel [0, 1, 2, 3] rfl rfl⟩, F.to (by repeat (first | exact trivial | refine Le.cons rfl ?_))⟩
          ·
           refine eSkip (k := 7) (i := 7) rfl (by kernel_rfl) F rfl rfl rfl (H.sel [0, 1, 2, 3] rfl rfl) (fun _ _ _ h => h) ?_
           clear F a; intro a F
           refine eSkip (k := 8) (i := 8) rfl (by kernel_rfl) F rfl rfl rfl (H.sel [0, 1, 2, 3] rfl rfl) (fun _ _ _ h => h) ?_
           clear F a; intro a F
           refine eSkip (k := 9) (i := 9) rfl (by kernel_rfl) F rfl rfl rfl (H.sel [0, 1, 2, 3] rfl rfl) (fun _ _ _ h => h) ?_
           clear F a; intro a F
           refine eSkip (k := 10) (i := 10) rfl (by kernel_rfl) F rfl rfl rfl (H.sel [0, 1, 2, 3] rfl rfl) (fun _ _ _ h => h) ?_
           clear F a; intro a F
           refine eSkip (k := 11) (i := 11) rfl (by kernel_rfl) F rfl rfl rfl (H.sel [0, 1, 2, 3] rfl rfl) (fun _ _ _ h => h) ?_
           clear F a; intro a F
           refine eSkip (k := 12) (i := 12) rfl (by kernel_rfl) F rfl rfl rfl (H.sel [0, 1, 2, 3] rfl rfl) (fun _ _ _ h => h) ?_
           clear F a; intro a F
           refine eSkip (k := 13) (i := 13) rfl (by kernel_rfl) F rfl rfl rfl (H.sel [0, 1, 2, 3] rfl rfl) (fun _ _ _ h => h) ?_
           clear F a; intro a F
           refine eSkip (k := 14) (i := 14) rfl (by kernel_rfl) F rfl rfl rfl (H.sel [0, 1, 2, 3] rfl rfl) (fun _ _ _ h => h) ?_
           clear F a; intro a F
           refine eSkip (k := 15) (i := 15) rfl (by kernel_rfl) F rfl rfl rfl (H.sel [0, 1, 2, 3] rfl rfl) (fun _ _ _ h => h) ?_
           clear F a; intro a F
           refine eTakeF (k := 16) (i := 16) rfl (by kernel_rfl) F rfl rfl rfl (fun w => rPk F rfl rfl) (H.sel [0, 1, 2, 3] rfl rfl) (fun _ _ _ h => h) ?_
           clear F a; intro a F
           refine eTakeF (k := 17) (i := 17) rfl (by kernel_rfl) F rfl rfl rfl (fun w => rMv F rfl) (H.sel [0, 1, 2, 3] rfl rfl) (fun _ _ _ h => h) ?_
           clear F a; intro a F
           refine eTakeF (k := 18) (i := 18) rfl (by kernel_rfl) F rfl rfl rfl (fun w => rMv F rfl) (H.sel [0, 1, 2, 3] rfl rfl) (fun _ _ _ h => h) ?_
           clear F a; intro a F
           refine eTakeF (k := 19) (i := 19) rfl (by kernel_rfl) F rfl rfl rfl (fun w => rFa (f := 3) (k := 138) Tryd.underlying41 rfl Tryd.sizeOf39 rfl rfl F rfl) (H.sel [0, 1, 2, 3] rfl rfl) (fun _ _ _ h => h) ?_
           clear F a; intro a F
           refine eTakeF (k := 20) (i := 20) rfl (by kernel_rfl) F rfl rfl rfl (fun w => rIa1 Tryd.underlying39 Tryd.sizeOf5 F rfl rfl ?_) (H.sel [0, 1, 2, 3] rfl rfl) (fun _ _ _ h => h) ?_
           focus (first | omega | decide | (simp; omega))
           clear F a; intro a F
           refine eTake (k := 21) (i := 21) rfl (by kernel_rfl) F rfl rfl rfl rfl (fun w H => rLd Tryd.isAgg5 F rfl (H.cellB 2 rfl (by omega))) (H.sel [0, 1, 2, 3] rfl rfl) (fun _ _ _ h => h) ?_
           clear F a; intro a F
           refine eTakeF (k := 22) (i := 22) rfl (by kernel_rfl) F rfl rfl rfl (fun w => rBin F rfl rfl (bEqlB (y := 0))) (H.sel [0, 1, 2, 3] rfl rfl) (fun _ _ _ h => h) ?_
           clear F a; intro a F
           refine eTakeF (k := 23) (i := 23) rfl (by kernel_rfl) F rfl rfl rfl (fun w => rMv F rfl) (H.sel [0, 1, 2, 3] rfl rfl) (fun _ _ _ h => h) ?_
           clear F a; intro a F
           refine F.split 160 rfl ?_ ?_ <;> (clear F; intro h160 F)
           ·
            replace h160 := beqT h160
            refine eTake (k := 24) (i := 24) rfl (by kernel_rfl) F rfl rfl rfl rfl (fun w H => rLrB Tryd.underlying41 rfl Tryd.sizeOf41 F rfl (H.whole 2 rfl)) (H.sel [0, 1, 2, 3] rfl rfl) (fun _ _ _ h => h) ?_
            clear F a; intro a F
            refine eTakeF (k := 25) (i := 25) rfl (by kernel_rfl) F rfl rfl rfl (fun w => rMv F rfl) (H.sel [0, 1, 2, 3] rfl rfl) (fun _ _ _ h => h) ?_
            clear F a; intro a F
            refine eTakeF (k := 26) (i := 26) rfl (by kernel_rfl) F rfl rfl rfl (fun w => rMv F rfl) (H.sel [0, 1, 2, 3] rfl rfl) (fun _ _ _ h => h) ?_
            clear F a; intro a F
            refine eTakeF (k := 27) (i := 28) rfl (by kernel_rfl) F rfl rfl rfl (fun w => rMv F rfl) (H.sel [0, 1, 2, 3] rfl rfl) (fun _ _ _ h => h) ?_
            clear F a; intro a F
            refine eTakeF (k := 28) (i := 29) rfl (by kernel_rfl) F rfl rfl rfl (fun w => rFa (f := 1) (k := 36) Tryd.underlying41 rfl Tryd.sizeOf34 rfl rfl F rfl) (H.sel [0, 1, 2, 3] rfl rfl) (fun _ _ _ h => h) ?_
            clear F a; intro a F
            refine eTakeF (k := 29) (i := 30) rfl (by kernel_rfl) F rfl rfl rfl (fun w => rIa1 Tryd.underlying34 Tryd.sizeOf5 F rfl rfl ?_) (H.sel [0, 1, 2, 3] rfl rfl) (fun _ _ _ h => h) ?_
            focus (first | omega | decide | (simp; omega))
            clear F a; intro a F
            refine eTake (k := 30) (i := 31) rfl (by kernel_rfl) F rfl rfl rfl rfl (fun w H => rLd Tryd.isAgg5 F rfl (H.cellB 2 rfl (by omega))) (H.sel [0, 1, 2, 3] rfl rfl) (fun _ _ _ h => h) ?_
            clear F a; intro a F
            refine eOne (k := 31) (i := 27) rfl (by kernel_rfl) F rfl (oCall Tryd.call15 F rfl rfl (seen_any s u (UInt8.ofNat j) _ hu4 hlt) ?_)
            rintro e w ⟨rfl, hb⟩
            replace H := H.grow hb; clear hb
            refine ⟨_, rfl, ?_⟩
            clear F a; intro a F
            refine eKeep (H.sel [0, 1, 2, 3] rfl rfl) ?_
            refine eTakeF (k := 32) (i := 32) rfl (by kernel_rfl) F rfl rfl rfl (fun w => rBin F rfl rfl bNeqB) (H.sel [0, 1, 2, 3] rfl rfl) (fun _ _ _ h => h) ?_
            clear F a; intro a F
            refine eTakeF (k := 33) (i := 33) rfl (by kernel_rfl) F rfl rfl rfl (fun w => rPk F rfl rfl) (H.sel [0, 1, 2, 3] rfl rfl) (fun _ _ _ h => h) ?_
            clear F a; intro a F
            refine eTakeF (k := 34) (i := 34) rfl (by kernel_rfl) F rfl rfl rfl (fun w => rPk F rfl rfl) (H.sel [0, 1, 2, 3] rfl rfl) (fun _ _ _ h => h) ?_
            clear F a; intro a F
            refine eNil (k := 35) (by kernel_rfl) ?_
            refine hK44 _ _ ?_; clear hK44
            refine cIf F rfl (fun h171 => ?_) (fun h171 => ?_)
            ·
             replace h171 := bneT h171
             exact absurd (seen_mem (by unfold manyB; rw [h160]; rfl)) h171
            ·
             replace h171 := bneF h171
             refine wp_skip ?_
             refine hK42 _ _ ?_; clear hK42
             refine cReg ?_
             refine sBin F rfl rfl rfl rfl (bAddN (j := 1) ?_) ?_
             focus omega
             clear F a; intro a F
             refine sMv F rfl rfl rfl ?_
             clear F a; intro a F
             refine sNil ?_
             exact ⟨_, by omega, _, ⟨u + 1, rfl, rfl, by omega, H.sel [0, 1, 2, 3] rfl rfl⟩, F.to (by repeat (first | exact trivial | refine Le.cons rfl ?_))⟩
           ·
            replace h160 := beqF h160
            refine eSkip (k := 24) (i := 24) rfl (by kernel_rfl) F rfl rfl rfl (H.sel [0, 1, 2, 3] rfl rfl) (fun _ _ _ h => h) ?_
            clear F a; intro a F
            refine eSkip (k := 25) (i := 25) rfl (by kernel_rfl) F rfl rfl rfl (H.sel [0, 1, 2, 3] rfl rfl) (fun _ _ _ h => h) ?_
            clear F a; intro a F
            refine eSkip (k := 26) (i := 26) rfl (by kernel_rfl) F rfl rfl rfl (H.sel [0, 1, 2, 3] rfl rfl) (fun _ _ _ h => h) ?_
            clear F a; intro a F
            refine eSkip (k := 27) (i := 27) rfl (by kernel_rfl) F rfl rfl rfl (H.sel [0, 1, 2, 3] rfl rfl) (fun _ _ _ h => h) ?_
            clear F a; intro a F
            refine eSkip (k := 28) (i := 28) rfl (by kernel_rfl) F rfl rfl rfl (H.sel [0, 1, 2, 3] rfl rfl) (fun _ _ _ h => h) ?_
            clear F a; intro a F
            refine eSkip (k := 29) (i := 29) rfl (by kernel_rfl) F rfl rfl rfl (H.sel [0, 1, 2, 3] rfl rfl) (fun _ _ _ h => h) ?_
            clear F a; intro a F
            refine eSkip (k := 30) (i := 30) rfl (by kernel_rfl) F rfl rfl rfl (H.sel [0, 1, 2, 3] rfl rfl) (fun _ _ _ h => h) ?_
            clear F a; intro a F
            refine eSkip (k := 31) (i := 31) rfl (by kernel_rfl) F rfl rfl rfl (H.sel [0, 1, 2, 3] rfl rfl) (fun _ _ _ h => h) ?_
            clear F a; intro a F
            refine eSkip (k := 32) (i := 32) rfl (by kernel_rfl) F rfl rfl rfl (H.sel [0, 1, 2, 3] rfl rfl) (fun _ _ _ h => h) ?_
            clear F a; intro a F
            refine eTakeF (k := 33) (i := 33) rfl (by kernel_rfl) F rfl rfl rfl (fun w => rPk F rfl rfl) (H.sel [0, 1, 2, 3] rfl rfl) (fun _ _ _ h => h) ?_
            clear F a; intro a F
            refine eTakeF (k := 34) (i := 34) rfl (by kernel_rfl) F rfl rfl rfl (fun w => rPk F rfl rfl) (H.sel [0, 1, 2, 3] rfl rfl) (fun _ _ _ h => h) ?_
            clear F a; intro a F
            refine eNil (k := 35) (by kernel_rfl) ?_
            refine hK44 _ _ ?_; clear hK44
            refine cIfF F rfl ?_
            refine wp_skip ?_
            refine hK42 _ _ ?_; clear hK42
            refine cReg ?_
            refine sBin F rfl rfl rfl rfl (bAddN (j := 1) ?_) ?_
            focus omega
            clear F a; intro a F
            refine sMv F rfl rfl rfl ?_
            clear F a; intro a F
            refine sNil ?_
            exact ⟨_, by omega, _, ⟨u + 1, rfl, rfl, by omega, H.sel [0, 1, 2, 3] rfl rfl⟩, F.to (by repeat (first | exact trivial | refine Le.cons rfl ?_))⟩
         ·
          replace h140 := bneF h140
          refine eSkip (k := 4) (i := 4) rfl (by kernel_rfl) F rfl rfl rfl (H.sel [0, 1, 2, 3] rfl rfl) (fun _ _ _ h => h) ?_
          clear F a; intro a F
          refine eTakeF (k := 5) (i := 5) rfl (by kernel_rfl) F rfl rfl rfl (fun w => rPk F rfl rfl) (H.sel [0, 1, 2, 3] rfl rfl) (fun _ _ _ h => h) ?_
          clear F a; intro a F
          refine eTakeF (k := 6) (i := 6) rfl (by kernel_rfl) F rfl rfl rfl (fun w => rMv F rfl) (H.sel [0, 1, 2, 3] rfl rfl) (fun _ _ _ h => h) ?_
          clear F a; intro a F
          refine eSkip (k := 7) (i := 7) rfl (by kernel_rfl) F rfl rfl rfl (H.sel [0, 1, 2, 3] rfl rfl) (fun _ _ _ h => h) ?_
          clear F a; intro a F
          refine eSkip (k := 8) (i := 8) rfl (by kernel_rfl) F rfl rfl rfl (H.sel [0, 1, 2, 3] rfl rfl) (fun _ _ _ h => h) ?_
          clear F a; intro a F
          refine eSkip (k := 9) (i := 9) rfl (by kernel_rfl) F rfl rfl rfl (H.sel [0, 1, 2, 3] rfl rfl) (fun _ _ _ h => h) ?_
          clear F a; intro a F
          refine eSkip (k := 10) (i := 10) rfl (by kernel_rfl) F rfl rfl rfl (H.sel [0, 1, 2, 3] rfl rfl) (fun _ _ _ h => h) ?_
          clear F a; intro a F
          refine eSkip (k := 11) (i := 11) rfl (by kernel_rfl) F rfl rfl rfl (H.sel [0, 1, 2, 3] rfl rfl) (fun _ _ _ h => h) ?_
          clear F a; intro a F
          refine eSkip (k := 12) (i := 12) rfl (by kernel_rfl) F rfl rfl rfl (H.sel [0, 1, 2, 3] rfl rfl) (fun _ _ _ h => h) ?_
          clear F a; intro a F
          refine eSkip (k := 13) (i := 13) rfl (by kernel_rfl) F rfl rfl rfl (H.sel [0, 1, 2, 3] rfl rfl) (fun _ _ _ h => h) ?_
          clear F a; intro a F
          refine eSkip (k := 14) (i := 14) rfl (by kernel_rfl) F rfl rfl rfl (H.sel [0, 1, 2, 3] rfl rfl) (fun _ _ _ h => h) ?_
          clear F a; intro a F
          refine eSkip (k := 15) (i := 15) rfl (by kernel_rfl) F rfl rfl rfl (H.sel [0, 1, 2, 3] rfl rfl) (fun _ _ _ h => h) ?_
          clear F a; intro a F
          refine eTakeF (k := 16) (i := 16) rfl (by kernel_rfl) F rfl rfl rfl (fun w => rPk F rfl rfl) (H.sel [0, 1, 2, 3] rfl rfl) (fun _ _ _ h => h) ?_
          clear F a; intro a F
          refine eTakeF (k := 17) (i := 17) rfl (by kernel_rfl) F rfl rfl rfl (fun w => rMv F rfl) (H.sel [0, 1, 2, 3] rfl rfl) (fun _ _ _ h => h) ?_
          clear F a; intro a F
          refine eTakeF (k := 18) (i := 18) rfl (by kernel_rfl) F rfl rfl rfl (fun w => rMv F rfl) (H.sel [0, 1, 2, 3] rfl rfl) (fun _ _ _ h => h) ?_
          clear F a; intro a F
          refine eTakeF (k := 19) (i := 19) rfl (by kernel_rfl) F rfl rfl rfl (fun w => rFa (f := 3) (k := 138) Tryd.underlying41 rfl Tryd.sizeOf39 rfl rfl F rfl) (H.sel [0, 1, 2, 3] rfl rfl) (fun _ _ _ h => h) ?_
          clear F a; intro a F
          refine eTakeF (k := 20) (i := 20) rfl (by kernel_rfl) F rfl rfl rfl (fun w => rIa1 Tryd.underlying39 Tryd.sizeOf5 F rfl rfl ?_) (H.sel [0, 1, 2, 3] rfl rfl) (fun _ _ _ h => h) ?_
          focus (first | omega | decide | (simp; omega))
          clear F a; intro a F
          refine eTake (k := 21) (i := 21) rfl (by kernel_rfl) F rfl rfl rfl rfl (fun w H => rLd Tryd.isAgg5 F rfl (H.cellB 2 rfl (by omega))) (H.sel [0, 1, 2, 3] rfl rfl) (fun _ _ _ h => h) ?_
          clear F a; intro a F
          refine eTakeF (k := 22) (i := 22) rfl (by kernel_rfl) F rfl rfl rfl (fun w => rBin F rfl rfl (bEqlB (y := 0))) (H.sel [0, 1, 2, 3] rfl rfl) (fun _ _ _ h => h) ?_
          clear F a; intro a F
          refine eTakeF (k := 23) (i := 23) rfl (by kernel_rfl) F rfl rfl rfl (fun w => rMv F rfl) (H.sel [0, 1, 2, 3] rfl rfl) (fun _ _ _ h => h) ?_
          clear F a; intro a F
          refine F.split 160 rfl ?_ ?_ <;> (clear F; intro h160 F)
          ·
           replace h160 := beqT h160
           refine eTake (k := 24) (i := 24) rfl (by kernel_rfl) F rfl rfl rfl rfl (fun w H => rLrB Tryd.underlying41 rfl Tryd.sizeOf41 F rfl (H.whole 2 rfl)) (H.sel [0, 1, 2, 3] rfl rfl) (fun _ _ _ h => h) ?_
           clear F a; intro a F
           refine eTakeF (k := 25) (i := 25) rfl (by kernel_rfl) F rfl rfl rfl (fun w => rMv F rfl) (H.sel [0, 1, 2, 3] rfl rfl) (fun _ _ _ h => h) ?_
           clear F a; intro a F
           refine eTakeF (k := 26) (i := 26) rfl (by kernel_rfl) F rfl rfl rfl (fun w => rMv F rfl) (H.sel [0, 1, 2, 3] rfl rfl) (fun _ _ _ h => h) ?_
           clear F a; intro a F
           refine eTakeF (k := 27) (i := 28) rfl (by kernel_rfl) F rfl rfl rfl (fun w => rMv F rfl) (H.sel [0, 1, 2, 3] rfl rfl) (fun _ _ _ h => h) ?_
           clear F a; intro a F
           refine eTakeF (k := 28) (i := 29) rfl (by kernel_rfl) F rfl rfl rfl (fun w => rFa (f := 1) (k := 36) Tryd.underlying41 rfl Tryd.sizeOf34 rfl rfl F rfl) (H.sel [0, 1, 2, 3] rfl rfl) (fun _ _ _ h => h) ?_
           clear F a; intro a F
           refine eTakeF (k := 29) (i := 30) rfl (by kernel_rfl) F rfl rfl rfl (fun w => rIa1 Tryd.underlying34 Tryd.sizeOf5 F rfl rfl ?_) (H.sel [0, 1, 2, 3] rfl rfl) (fun _ _ _ h => h) ?_
           focus (first | omega | decide | (simp; omega))
           clear F a; intro a F
           refine eTake (k := 30) (i := 31) rfl (by kernel_rfl) F rfl rfl rfl rfl (fun w H => rLd Tryd.isAgg5 F rfl (H.cellB 2 rfl (by omega))) (H.sel [0, 1, 2, 3] rfl rfl) (fun _ _ _ h => h) ?_
           clear F a; intro a F
           refine eOne (k := 31) (i := 27) rfl (by kernel_rfl) F rfl (oCall Tryd.call15 F rfl rfl (seen_any s u (UInt8.ofNat j) _ hu4 hlt) ?_)
           rintro e w ⟨rfl, hb⟩
           replace H := H.grow hb; clear hb
           refine ⟨_, rfl, ?_⟩
           clear F a; intro a F
           refine eKeep (H.sel [0, 1, 2, 3] rfl rfl) ?_
           refine eTakeF (k := 32) (i := 32) rfl (by kernel_rfl) F rfl rfl rfl (fun w => rBin F rfl rfl bNeqB) (H.sel [0, 1, 2, 3] rfl rfl) (fun _ _ _ h => h) ?_
           clear F a; intro a F
           refine eTakeF (k := 33) (i := 33) rfl (by kernel_rfl) F rfl rfl rfl (fun w => rPk F rfl rfl) (H.sel [0, 1, 2, 3] rfl rfl) (fun _ _ _ h => h) ?_
           clear F a; intro a F
           refine eTakeF (k := 34) (i := 34) rfl (by kernel_rfl) F rfl rfl rfl (fun w => rPk F rfl rfl) (H.sel [0, 1, 2, 3] rfl rfl) (fun _ _ _ h => h) ?_
           clear F a; intro a F
           refine eNil (k := 35) (by kernel_rfl) ?_
           refine hK44 _ _ ?_; clear hK44
           refine cIf F rfl (fun h171 => ?_) (fun h171 => ?_)
           ·
            replace h171 := bneT h171
            exact absurd (seen_mem (by unfold manyB; rw [h160]; rfl)) h171
           ·
            replace h171 := bneF h171
            refine wp_skip ?_
            refine hK42 _ _ ?_; clear hK42
            refine cReg ?_
            refine sBin F rfl rfl rfl rfl (bAddN (j := 1) ?_) ?_
            focus omega
            clear F a; intro a F
            refine sMv F rfl rfl rfl ?_
            clear F a; intro a F
            refine sNil ?_
            exact ⟨_, by omega, _, ⟨u + 1, rfl, rfl, by omega, H.sel [0, 1, 2, 3] rfl rfl⟩, F.to (by repeat (first | exact trivial | refine Le.cons rfl ?_))⟩
          ·
           replace h160 := beqF h160
           refine eSkip (k := 24) (i := 24) rfl (by kernel_rfl) F rfl rfl rfl (H.sel [0, 1, 2, 3] rfl rfl) (fun _ _ _ h => h) ?_
           clear F a; intro a F
           refine eSkip (k := 25) (i := 25) rfl (by kernel_rfl) F rfl rfl rfl (H.sel [0, 1, 2, 3] rfl rfl) (fun _ _ _ h => h) ?_
           clear F a; intro a F
           refine eSkip (k := 26) (i := 26) rfl (by kernel_rfl) F rfl rfl rfl (H.sel [0, 1, 2, 3] rfl rfl) (fun _ _ _ h => h) ?_
           clear F a; intro a F
           refine eSkip (k := 27) (i := 27) rfl (by kernel_rfl) F rfl rfl rfl (H.sel [0, 1, 2, 3] rfl rfl) (fun _ _ _ h => h) ?_
           clear F a; intro a F
           refine eSkip (k := 28) (i := 28) rfl (by kernel_rfl) F rfl rfl rfl (H.sel [0, 1, 2, 3] rfl rfl) (fun _ _ _ h => h) ?_
           clear F a; intro a F
           refine eSkip (k := 29) (i := 29) rfl (by kernel_rfl) F rfl rfl rfl (H.sel [0, 1, 2, 3] rfl rfl) (fun _ _ _ h => h) ?_
           clear F a; intro a F
           refine eSkip (k := 30) (i := 30) rfl (by kernel_rfl) F rfl rfl rfl (H.sel [0, 1, 2, 3] rfl rfl) (fun _ _ _ h => h) ?_
           clear F a; intro a F
           refine eSkip (k := 31) (i := 31) rfl (by kernel_rfl) F rfl rfl rfl (H.sel [0, 1, 2, 3] rfl rfl) (fun _ _ _ h => h) ?_
           clear F a; intro a F
           refine eSkip (k := 32) (i := 32) rfl (by kernel_rfl) F rfl rfl rfl (H.sel [0, 1, 2, 3] rfl rfl) (fun _ _ _ h => h) ?_
           clear F a; intro a F
           refine eTakeF (k := 33) (i := 33) rfl (by kernel_rfl) F rfl rfl rfl (fun w => rPk F rfl rfl) (H.sel [0, 1, 2, 3] rfl rfl) (fun _ _ _ h => h) ?_
           clear F a; intro a F
           refine eTakeF (k := 34) (i := 34) rfl (by kernel_rfl) F rfl rfl rfl (fun w => rPk F rfl rfl) (H.sel [0, 1, 2, 3] rfl rfl) (fun _ _ _ h => h) ?_
           clear F a; intro a F
           refine eNil (k := 35) (by kernel_rfl) ?_
           refine hK44 _ _ ?_; clear hK44
           refine cIfF F rfl ?_
           refine wp_skip ?_
           refine hK42 _ _ ?_; clear hK42
           refine cReg ?_
           refine sBin F rfl rfl rfl rfl (bAddN (j := 1) ?_) ?_
           focus omega
           clear F a; intro a F
           refine sMv F rfl rfl rfl ?_
           clear F a; intro a F
           refine sNil ?_
           exact ⟨_, by omega, _, ⟨u + 1, rfl, rfl, by omega, H.sel [0, 1, 2, 3] rfl rfl⟩, F.to (by repeat (first | exact trivial | refine Le.cons rfl ?_))⟩
        ·
         replace h135 := of_decide_eq_false h135
         refine wp_exit ?_
         refine hK19 _ _ ?_; clear hK19
         refine cReg ?_
         refine sBin F rfl rfl rfl rfl (bAddB (y := 1)) ?_
         clear F a; intro a F
         refine sMv F rfl rfl rfl ?_
         clear F a; intro a F
         refine sNil ?_
         (have e1 : UInt8.ofNat j + 1 = UInt8.ofNat (j + 1) := by
           apply UInt8.toNat_inj.1
           rw [UInt8.toNat_add, UInt8.toNat_ofNat', UInt8.toNat_ofNat', show (1 : UInt8).toNat = 1 from rfl]
           omega
          rw [e1] at F
          exact ⟨_, by omega, _, ⟨j + 1, rfl, rfl, by omega, H.sel [0, 1, 2, 3] rfl rfl⟩, F.to (by repeat (first | exact trivial | refine Le.cons rfl ?_))⟩)
     ·
      replace h86 := of_decide_eq_false h86
      refine wp_exit ?_
      refine hK15 _ _ ?_; clear hK15
      refine cSeq (fun K45 hK45 => ?_)
      refine cReg ?_
      refine sCall Tryd.call12 F rfl rfl rfl (awake14_any _ (hN.own H)) ?_
      rintro e w ⟨rfl, hb⟩
      replace H := H.grow hb; clear hb
      refine ⟨_, rfl, ?_⟩
      clear F a; intro a F
      refine sAs F rfl rfl rfl ?_
      clear F a; intro a F
      refine sNil ?_
      refine hK45 _ _ ?_; clear hK45
      refine wp_ret ?_
      refine bRet Tryd.results3 F rfl ?_
      first
        | exact ⟨rfl, H.below⟩
        | exact absurd h48 hne
        | exact absurd h43 (by rw [startE, if_pos hp0]; decide)
end Go.Proofs.YtjephfjnohgcbaaDoor
