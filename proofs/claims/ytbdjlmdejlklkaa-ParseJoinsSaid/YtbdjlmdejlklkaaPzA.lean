/-
  WALK2. Package parse: program. Conditions: the parser and its tokens lie in memory.
-/
import Derived.Test.YtbdjlmdejlklkaaPrZ
set_option linter.unusedSimpArgs false
set_option linter.unusedVariables false
namespace Go.Proofs.Ytbdjlmdejlklkaa
open Go.RowKit
set_option maxRecDepth 100000
theorem depC_le {S : Nat → Prop} {w : World} : ∀ {h : Nat} {cs : List Value} {c : Cnd}, TreeIn S w h cs c → depC c ≤ h
  | 0, _, _, hc => hc.elim
  | h + 1, cs, .mk k t n v kids, ⟨A, C, _, _, h3⟩ => by
    have hk : ∀ (l : List Cnd), (∀ x ∈ l, depC x ≤ h) → depC.depL l ≤ h := fun l => by
      induction l with
      | nil => intro _; exact Nat.zero_le _
      | cons x r ih =>
        intro hx
        rw [depC.depL]
        exact Nat.max_le.2 ⟨hx x (List.mem_cons_self ..), ih fun y hy => hx y (List.mem_cons_of_mem _ hy)⟩
    rw [depC]
    have := hk kids fun x hx => by
      obtain ⟨j, hj⟩ := List.mem_iff_getElem?.1 hx
      obtain ⟨b, off, cs', _, _, _, h7⟩ := h3 j x hj
      exact depC_le h7
    omega
theorem line_start {W w : World} {rs : List Res} {c : PX} {A : Option Addr} {C bp : Nat} {S : Nat → Prop} (hf : c.fixed = false) (H : Own W none w (.blk bp (parC c A C ⟨0, []⟩ none 0 [.string ⟨#[]⟩, .slice none 0 0, .slice none 0 0, .slice none 0 0, b8 0, b8 0, b8 0, b8 0, b8 0, .slice none 0 0, .int .i64 (0 : Int), .int .i64 (0 : Int)]) 59 :: .held S A 3 (rowsT c.ts) :: rs)) :
    LineAt W w rs c A C bp S false zQL ⟨0, []⟩ := by
  refine ⟨none, 0, none, 0, none, 0, [], none, 0, [], fun _ => False, [], [], fun _ => False, 1, b8 0, b8 0, b8 0, b8 0, .slice none 0 0, ?_, rfl, (fun r h => absurd h List.not_mem_nil), rfl, .inl ⟨rfl, rfl, rfl, rfl, rfl⟩, by decide⟩
  have hn : Res.nms W c.fixed none 0 [] = .rws 9 1 (.slice none 0 0) [] := by unfold Res.nms; rw [hf]; rfl
  rw [hn]
  exact (((((((own_leaf 0 0 0 0 0 H).void (.thrs (fun _ => False) [] []) (show ThrIn _ w _ _ from fun j l h => by simp at h) (fun _ hb => hb)).nilRws 42 10).nilRws 38 1).nilRws 5 1).nilRws 9 1).selT 8 [6, 7, 0, 1, 2, 3, 4, 5] rfl rfl)
theorem padI_app (l : List UInt8) (n j : Nat) (h : n = l.length + j) : padI l n = l ++ List.replicate j 0 := by unfold padI; rw [h, Nat.add_sub_cancel_left]
set_option maxHeartbeats 16000000 in
theorem pprogram_any {W w0 : World} {rs : List Res} {c : PX} (hc : c.Ok) (hm : c.ts.length ≤ 900000) {A : Option Addr} {C bp : Nat} {S : Nat → Prop} (hL : LineAt W w0 rs c A C bp S false zQL ⟨0, []⟩) :
    Calls Try.prog 22 #[.pointer (some ⟨bp, 0, none⟩)] w0 fun e w' => Ans W rs (progP c) (fun p t e w' => e = .returned (.tuple #[]) ∧ ∃ q, p = ⟨q.name, t.names, q.init, q.threads, q.ask, q.cond⟩ ∧ LineAt W w' rs c A C bp S true q t) e w' := by
  have hfew := hc.few
  obtain ⟨B, D, IA, IC, TA, TC, hrows, LA, LC, last, ST, frows, front, T, h, c1, c2, c3, c4, c5, H, hfl, hr1, hrl, hth, hh⟩ := hL
  refine enterF Try.func22 rfl Try.ntmps22 rfl (fun a F => ?_)
  refine cSeq (fun K1 hK1 => ?_)
  refine cReg ?_
  refine sCall Try.call42 F rfl rfl rfl (plines_any H) ?_
  rintro e w ⟨mb, rfl, H⟩
  replace H := H.selT 9 [1, 2, 3, 4, 5, 6, 7, 8, 0] rfl rfl
  refine ⟨_, rfl, ?_⟩
  clear F a; intro a F
  refine sAs F rfl rfl rfl ?_;clear F a;intro a F
  refine sNil ?_
  refine hK1 _ _ ?_; clear hK1
  refine cSeq (fun K2 hK2 => ?_)
  refine wp_block ?_
  refine cLoopR [0, 2] (fun m ups w => ∃ (g : Nat) (q : QL) (u : PS), m = g ∧ ups = [] ∧ linesL c g q u = linesL c (c.ts.length + 2) zQL ⟨0, []⟩ ∧ c.ts.length < u.pos + g ∧ u.pos ≤ c.ts.length ∧ QOk q u ∧ LineAt W w (.mpT mb linesM :: rs) c A C bp S false q u) F (c.ts.length + 2) [] (by repeat (first | exact SubR.nil | (apply SubR.cons; · rfl))) ?_ ?_ ?_
  · exact ⟨c.ts.length + 2, zQL, ⟨0, []⟩, rfl, rfl, rfl, by show c.ts.length < 0 + (c.ts.length + 2); omega, Nat.zero_le _, qok_zero, _, _, _, _, _, _, _, _, _, _, _, _, _, _, _, _, _, _, _, _, H, hfl, hr1, hrl, hth, hh⟩
  · repeat (first | exact trivial | refine Le.cons rfl ?_)
  clear F
  clear H
  intro m ups a w hI F
  obtain ⟨g, q, u, rfl, rfl, heq, hg, hul, hq, B, D, IA, IC, TA, TC, hrows, LA, LC, last, ST, frows, front, T, h, c1, c2, c3, c4, c5, H, hfl, hr1, hrl, hth, hh⟩ := hI
  obtain ⟨g, rfl⟩ : ∃ k, m = k + 1 := ⟨m - 1, by omega⟩
  refine cSeq (fun K3 hK3 => ?_)
  refine cSeq (fun K4 hK4 => ?_)
  refine cReg ?_
  refine sMv F rfl rfl rfl ?_;clear F a;intro a F
  refine sNc F rfl rfl rfl ?_;clear F a;intro a F
  refine sFa (f := 4) (k := 15) Try.underlying59 rfl Try.sizeOf3 rfl rfl F rfl rfl rfl ?_;clear F a;intro a F
  refine sLd Try.isAgg3 F rfl rfl rfl (H.cell 0 rfl rfl) ?_;clear F a;intro a F
  refine sBin F rfl rfl rfl rfl bNeq ?_;clear F a;intro a F
  refine sNil ?_
  refine hK4 _ _ ?_; clear hK4
  refine cIf F rfl (fun h10 => ?_) (fun h10 => ?_)
  ·
   replace h10 := bneT h10
   have hw4 : ¬ q.wh = 4 := by omega
   refine wp_skip ?_
   refine hK3 _ _ ?_; clear hK3
   refine wp_block ?_
   refine cSeq (fun K5 hK5 => ?_)
   refine cReg ?_
   refine sMv F rfl rfl rfl ?_;clear F a;intro a F
   refine sMv F rfl rfl rfl ?_;clear F a;intro a F
   refine sNc F rfl rfl rfl ?_;clear F a;intro a F
   refine sFa (f := 0) (k := 0) Try.underlying59 rfl Try.sizeOf57 rfl rfl F rfl rfl rfl ?_;clear F a;intro a F
   refine sCall Try.call43 F rfl rfl rfl (pword_any (s := u) hc (by omega) H) ?_
   rintro e w ⟨rfl, H⟩
   refine ⟨_, rfl, ?_⟩
   clear F a; intro a F
   refine stepV F rfl rfl rfl (rLkT H 8 Try.underlying95 Try.underlying9 Try.zeroValue61 F rfl rfl rfl) ?_;clear F a;intro a F
   refine sMv F rfl rfl rfl ?_;clear F a;intro a F
   refine sExt F rfl rfl rfl rfl ?_;clear F a;intro a F
   refine sExt F rfl rfl rfl rfl ?_;clear F a;intro a F
   refine sAs F rfl rfl rfl ?_;clear F a;intro a F
   refine sAs F rfl rfl rfl ?_;clear F a;intro a F
   refine sNil ?_
   refine hK5 _ _ ?_; clear hK5
   refine cSeq (fun K6 hK6 => ?_)
   refine cSeq (fun K7 hK7 => ?_)
   refine cReg ?_
   refine sMv F rfl rfl rfl ?_;clear F a;intro a F
   refine sNot F rfl rfl rfl ?_;clear F a;intro a F
   refine sNil ?_
   refine hK7 _ _ ?_; clear hK7
   refine cIf F rfl (fun h21 => ?_) (fun h21 => ?_)
   ·
    replace h21 := notT h21
    have hv : ∀ z : Value, z = addF → z = lineF c u.pos := fun z hz => by (have hn : findT (c.word u.pos) linesM = none := by (cases hh : findT (c.word u.pos) linesM with | none => rfl | some x => rw [hh] at h21; cases h21)); unfold lineF; rw [hn]; exact hz
    refine cReg ?_
    refine sAs F rfl rfl rfl ?_;clear F a;intro a F
    refine sNil ?_
    refine hK6 _ _ ?_; clear hK6
    refine cSeq (fun K8 hK8 => ?_)
    refine cReg ?_
    refine sMv F rfl rfl rfl ?_;clear F a;intro a F
    refine sMv F rfl rfl rfl ?_;clear F a;intro a F
    refine sCallVP F rfl rfl rfl rfl (pline_any hc hm (hv _ rfl) hq hul ⟨B, D, IA, IC, TA, TC, hrows, LA, LC, last, ST, frows, front, T, h, c1, c2, c3, c4, c5, H, hfl, hr1, hrl, hth, hh⟩) ?_
    rintro e w hq9
    rcases hq9.cases with ⟨p9, e9, hn24, rfl, H⟩ | ⟨v24, t24, hr24, rfl, hL⟩
    ·
     refine .inl ⟨_, rfl, ?_⟩
     exact And.intro F.nod (Ans.no (by unfold progP; rw [← heq]; show (if q.wh = 4 then _ else _ : Rs QL).bind _ = _; rw [if_neg hw4, hn24]; rfl) H.tail)
    obtain ⟨hg24, hq24⟩ := lineL_all hq v24 t24 hr24
    have hlt24 := hg24.lt
    have hle24 := hg24.le
    obtain ⟨B, D, IA, IC, TA, TC, hrows, LA, LC, last, ST, frows, front, T, h, c1, c2, c3, c4, c5, H, hfl, hr1, hrl, hth, hh⟩ := hL
    refine .inr ⟨_, rfl, ?_⟩
    clear F a; intro a F
    refine sNil ?_
    refine hK8 _ _ ?_; clear hK8
    refine cReg ?_
    refine sMv F rfl rfl rfl ?_;clear F a;intro a F
    refine sNc F rfl rfl rfl ?_;clear F a;intro a F
    refine sFa (f := 0) (k := 0) Try.underlying59 rfl Try.sizeOf57 rfl rfl F rfl rfl rfl ?_;clear F a;intro a F
    refine sCallP Try.call29 F rfl rfl rfl (pend_any (s := t24) hc (by omega) H) ?_
    rintro e w hq9
    rcases hq9.cases with ⟨p9, e9, hn28, rfl, H⟩ | ⟨v28, t28, hr28, rfl, H⟩
    ·
     refine .inl ⟨_, rfl, ?_⟩
     exact And.intro F.nod (Ans.no (by unfold progP; rw [← heq]; show (if q.wh = 4 then _ else _ : Rs QL).bind _ = _; rw [if_neg hw4, hr24]; show ((endP c t24).bind _).bind _ = _; rw [hn28]; rfl) H.tail.tail.tail.tail.tail.tail.tail)
    obtain ⟨hg28, rfl⟩ := endP_all v28 t28 hr28; have hle28 := hg28.le
    refine .inr ⟨_, rfl, ?_⟩
    clear F a; intro a F
    refine sNil ?_
    have hstep : linesL c (g + 1) q u = linesL c g v24 t24.next := by
      show (if q.wh = 4 then _ else _ : Rs QL) = _
      rw [if_neg hw4, hr24]
      show (endP c t24).bind _ = _
      rw [hr28]
      rfl
    exact ⟨g, Nat.lt_succ_self _, [], ⟨g, v24, t24.next, rfl, rfl, hstep.symm.trans heq, by simp only [PS.next]; omega, hle28, hq24.step hg28 (.inr rfl), _, _, _, _, _, _, _, _, _, _, _, _, _, _, _, _, _, _, _, _, H, hfl, hr1, hrl, hth, hh⟩, F.to (by repeat (first | exact trivial | refine Le.cons rfl ?_))⟩
   replace h21 := notF h21
   obtain ⟨pr, hpr⟩ : ∃ pr, findT (c.word u.pos) linesM = some pr := Option.isSome_iff_exists.1 (by simpa using h21)
   have hv : ∀ z : Value, z = ((findT (c.word u.pos) linesM).map (·.2)).getD .nilFunc → z = lineF c u.pos := fun z hz => by rw [hz]; unfold lineF; rw [hpr]; rfl
   refine wp_skip ?_
   refine hK6 _ _ ?_; clear hK6
   refine cSeq (fun K9 hK9 => ?_)
   refine cReg ?_
   refine sMv F rfl rfl rfl ?_;clear F a;intro a F
   refine sMv F rfl rfl rfl ?_;clear F a;intro a F
   refine sCallVP F rfl rfl rfl rfl (pline_any hc hm (hv _ rfl) hq hul ⟨B, D, IA, IC, TA, TC, hrows, LA, LC, last, ST, frows, front, T, h, c1, c2, c3, c4, c5, H, hfl, hr1, hrl, hth, hh⟩) ?_
   rintro e w hq9
   rcases hq9.cases with ⟨p9, e9, hn24, rfl, H⟩ | ⟨v24, t24, hr24, rfl, hL⟩
   ·
    refine .inl ⟨_, rfl, ?_⟩
    exact And.intro F.nod (Ans.no (by unfold progP; rw [← heq]; show (if q.wh = 4 then _ else _ : Rs QL).bind _ = _; rw [if_neg hw4, hn24]; rfl) H.tail)
   obtain ⟨hg24, hq24⟩ := lineL_all hq v24 t24 hr24
   have hlt24 := hg24.lt
   have hle24 := hg24.le
   obtain ⟨B, D, IA, IC, TA, TC, hrows, LA, LC, last, ST, frows, front, T, h, c1, c2, c3, c4, c5, H, hfl, hr1, hrl, hth, hh⟩ := hL
   refine .inr ⟨_, rfl, ?_⟩
   clear F a; intro a F
   refine sNil ?_
   refine hK9 _ _ ?_; clear hK9
   refine cReg ?_
   refine sMv F rfl rfl rfl ?_;clear F a;intro a F
   refine sNc F rfl rfl rfl ?_;clear F a;intro a F
   refine sFa (f := 0) (k := 0) Try.underlying59 rfl Try.sizeOf57 rfl rfl F rfl rfl rfl ?_;clear F a;intro a F
   refine sCallP Try.call29 F rfl rfl rfl (pend_any (s := t24) hc (by omega) H) ?_
   rintro e w hq9
   rcases hq9.cases with ⟨p9, e9, hn28, rfl, H⟩ | ⟨v28, t28, hr28, rfl, H⟩
   ·
    refine .inl ⟨_, rfl, ?_⟩
    exact And.intro F.nod (Ans.no (by unfold progP; rw [← heq]; show (if q.wh = 4 then _ else _ : Rs QL).bind _ = _; rw [if_neg hw4, hr24]; show ((endP c t24).bind _).bind _ = _; rw [hn28]; rfl) H.tail.tail.tail.tail.tail.tail.tail)
   obtain ⟨hg28, rfl⟩ := endP_all v28 t28 hr28; have hle28 := hg28.le
   refine .inr ⟨_, rfl, ?_⟩
   clear F a; intro a F
   refine sNil ?_
   have hstep : linesL c (g + 1) q u = linesL c g v24 t24.next := by
     show (if q.wh = 4 then _ else _ : Rs QL) = _
     rw [if_neg hw4, hr24]
     show (endP c t24).bind _ = _
     rw [hr28]
     rfl
   exact ⟨g, Nat.lt_succ_self _, [], ⟨g, v24, t24.next, rfl, rfl, hstep.symm.trans heq, by simp only [PS.next]; omega, hle28, hq24.step hg28 (.inr rfl), _, _, _, _, _, _, _, _, _, _, _, _, _, _, _, _, _, _, _, _, H, hfl, hr1, hrl, hth, hh⟩, F.to (by repeat (first | exact trivial | refine Le.cons rfl ?_))⟩
  replace h10 := bneF h10
  have hw4 : q.wh = 4 := by omega
  refine wp_exit ?_
  refine hK2 _ _ ?_; clear hK2
  refine cSeq (fun K10 hK10 => ?_)
  refine cReg ?_
  refine sMv F rfl rfl rfl ?_;clear F a;intro a F
  refine sNc F rfl rfl rfl ?_;clear F a;intro a F
  refine sFa (f := 0) (k := 0) Try.underlying59 rfl Try.sizeOf57 rfl rfl F rfl rfl rfl ?_;clear F a;intro a F
  refine sCallP Try.call30 F rfl rfl rfl (pfinish_any (s := u) hc (by omega) H) ?_
  rintro e w hq9
  rcases hq9.cases with ⟨p9, e9, hn32, rfl, H⟩ | ⟨v32, t32, hr32, rfl, H⟩
  ·
   refine .inl ⟨_, rfl, ?_⟩
   exact And.intro F.nod (Ans.no (by unfold progP; rw [← heq]; show (if q.wh = 4 then _ else _ : Rs QL).bind _ = _; rw [if_pos hw4]; show (if u.pos < c.ts.length then _ else _ : Rs Prg) = _; (have hx := hn32; split at hx); (rename_i h9; rw [if_pos h9]; cases hx; rfl); cases hx) H.tail.tail.tail.tail.tail.tail.tail)
  have hdone : linesL c (c.ts.length + 2) zQL ⟨0, []⟩ = .ok q u := by rw [← heq]; show (if q.wh = 4 then _ else _ : Rs QL) = _; rw [if_pos hw4]
  have hfin : ¬ u.pos < c.ts.length := fun h => by rw [if_pos h] at hr32; cases hr32
  rw [if_neg hfin] at hr32
  cases hr32
  have hini := hq.ini
  have hfew6 := hq.nm.few
  refine .inr ⟨_, rfl, ?_⟩
  clear F a; intro a F
  refine sNil ?_
  refine hK10 _ _ ?_; clear hK10
  refine cSeq (fun K11 hK11 => ?_)
  refine cReg ?_
  refine sMv F rfl rfl rfl ?_;clear F a;intro a F
  refine sMv F rfl rfl rfl ?_;clear F a;intro a F
  refine sNc F rfl rfl rfl ?_;clear F a;intro a F
  refine sFa (f := 1) (k := 3) Try.underlying59 rfl Try.sizeOf29 rfl rfl F rfl rfl rfl ?_;clear F a;intro a F
  refine sLd Try.isAgg29 F rfl rfl rfl (H.cell 0 rfl rfl) ?_;clear F a;intro a F
  refine sNc F rfl rfl rfl ?_;clear F a;intro a F
  refine sFa (f := 3) (k := 5) Try.underlying59 rfl Try.sizeOf33 rfl rfl F rfl rfl rfl ?_;clear F a;intro a F
  refine sFa (f := 1) (k := 6) Try.underlying33 rfl Try.sizeOf29 rfl rfl F rfl rfl rfl ?_;clear F a;intro a F
  refine sSt H 0 Try.sizeOf29 F rfl rfl rfl rfl rfl rfl ?_
  clear H; intro w H
  refine sNil ?_
  refine hK11 _ _ ?_; clear hK11
  refine cSeq (fun K12 hK12 => ?_)
  refine wp_block ?_
  refine cLoopR [0] (fun m ups w => ∃ (j : Nat) (JA : Option Addr) (JC : Nat), m = u.names.length - (q.init.length + j) ∧ ups = [] ∧ q.init.length + j ≤ u.names.length ∧ Own W none w (.blk bp (parC c A C u B D [.string q.name, .slice B u.names.length D, .slice JA (q.init ++ List.replicate j 0).length JC, .slice TA hrows.length TC, b8 q.ask, c1, c2, c3, c4, c5, .int .i64 (q.wh : Int), .int .i64 (q.query : Int)]) 59 :: .held S A 3 (rowsT c.ts) :: .nms W c.fixed B D u.names :: .rws 5 1 (.slice JA (q.init ++ List.replicate j 0).length JC) (iniC (q.init ++ List.replicate j 0)) :: .rws 38 1 (.slice TA hrows.length TC) hrows :: .rws 42 10 (.slice LA last.length LC) (insC last) :: .thrs ST frows front :: .tree T h [c1, c2, c3, c4, c5] q.cond :: .mpT mb linesM :: rs)) F (u.names.length - q.init.length) [] (by repeat (first | exact SubR.nil | (apply SubR.cons; · rfl))) ?_ ?_ ?_
  · exact ⟨0, IA, IC, rfl, rfl, hini, by rw [show List.replicate 0 (0 : UInt8) = [] from rfl, List.append_nil]; exact H⟩
  · repeat (first | exact trivial | refine Le.cons rfl ?_)
  clear F
  clear H
  intro m ups a w hI F
  obtain ⟨j, JA, JC, rfl, rfl, hj, H⟩ := hI
  refine cSeq (fun K13 hK13 => ?_)
  refine cSeq (fun K14 hK14 => ?_)
  refine cRegRO (by kernel_rfl) H ?_
  replace H := H.drew
  refine eTakeF (k := 0) (i := 0) rfl (by kernel_rfl) F rfl rfl rfl (fun w => rMv F rfl) H (fun _ _ _ h => h) ?_;clear F a;intro a F
  refine eTake (k := 1) (i := 1) rfl (by kernel_rfl) F rfl rfl rfl rfl (fun w H => rNc F rfl) H (fun _ _ _ h => h) ?_;clear F a;intro a F
  refine eTakeF (k := 2) (i := 2) rfl (by kernel_rfl) F rfl rfl rfl (fun w => rFa (f := 3) (k := 5) Try.underlying59 rfl Try.sizeOf33 rfl rfl F rfl) H (fun _ _ _ h => h) ?_;clear F a;intro a F
  refine eTakeF (k := 3) (i := 3) rfl (by kernel_rfl) F rfl rfl rfl (fun w => rFa (f := 2) (k := 7) Try.underlying33 rfl Try.sizeOf30 rfl rfl F rfl) H (fun _ _ _ h => h) ?_;clear F a;intro a F
  refine eTake (k := 4) (i := 4) rfl (by kernel_rfl) F rfl rfl rfl rfl (fun w H => rLd Try.isAgg30 F rfl (H.cell 0 rfl rfl)) H (fun _ _ _ h => h) ?_;clear F a;intro a F
  refine eTake (k := 5) (i := 5) rfl (by kernel_rfl) F rfl rfl rfl rfl (fun w H => rLen Try.underlying30 F rfl) H (fun _ _ _ h => h) ?_;clear F a;intro a F
  refine eTakeF (k := 6) (i := 6) rfl (by kernel_rfl) F rfl rfl rfl (fun w => rMv F rfl) H (fun _ _ _ h => h) ?_;clear F a;intro a F
  refine eTake (k := 7) (i := 7) rfl (by kernel_rfl) F rfl rfl rfl rfl (fun w H => rNc F rfl) H (fun _ _ _ h => h) ?_;clear F a;intro a F
  refine eTakeF (k := 8) (i := 8) rfl (by kernel_rfl) F rfl rfl rfl (fun w => rFa (f := 1) (k := 3) Try.underlying59 rfl Try.sizeOf29 rfl rfl F rfl) H (fun _ _ _ h => h) ?_;clear F a;intro a F
  refine eTake (k := 9) (i := 9) rfl (by kernel_rfl) F rfl rfl rfl rfl (fun w H => rLd Try.isAgg29 F rfl (H.cell 0 rfl rfl)) H (fun _ _ _ h => h) ?_;clear F a;intro a F
  refine eTake (k := 10) (i := 10) rfl (by kernel_rfl) F rfl rfl rfl rfl (fun w H => rLen Try.underlying29 F rfl) H (fun _ _ _ h => h) ?_;clear F a;intro a F
  refine eTakeF (k := 11) (i := 11) rfl (by kernel_rfl) F rfl rfl rfl (fun w => rBin F rfl rfl bLss) H (fun _ _ _ h => h) ?_;clear F a;intro a F
  refine eNil (k := 12) (by kernel_rfl) ?_
  refine hK14 _ _ ?_; clear hK14
  refine cIf F rfl (fun h52 => ?_) (fun h52 => ?_)
  ·
   replace h52 := of_decide_eq_true h52
   have hjl : q.init.length + j < u.names.length := by rw [List.length_append, List.length_replicate] at h52; omega
   refine wp_skip ?_
   refine hK13 _ _ ?_; clear hK13
   refine wp_block ?_
   refine cReg ?_
   refine sMv F rfl rfl rfl ?_;clear F a;intro a F
   refine sMv F rfl rfl rfl ?_;clear F a;intro a F
   refine sNc F rfl rfl rfl ?_;clear F a;intro a F
   refine sFa (f := 3) (k := 5) Try.underlying59 rfl Try.sizeOf33 rfl rfl F rfl rfl rfl ?_;clear F a;intro a F
   refine sFa (f := 2) (k := 7) Try.underlying33 rfl Try.sizeOf30 rfl rfl F rfl rfl rfl ?_;clear F a;intro a F
   refine sLd Try.isAgg30 F rfl rfl rfl (H.cell 0 rfl rfl) ?_;clear F a;intro a F
   refine sBs1 H Try.underlying30 Try.sizeOf5 Try.zeroValue5 rfl F rfl rfl rfl rfl ?_
   clear F a H; intro b59 a w F H
   refine sApp1 (bytes := 1) H 4 Try.underlying30 Try.typeInfo5 rfl rfl rfl rfl rfl rfl F rfl rfl rfl rfl rfl (H.whole 0 rfl) rfl ?s1 ?s2 ?_
   case s1 => first | rfl | (repeat (first | exact one_nil | (apply one_cons; · first | rfl | assumption | exact one_bif rfl rfl)))
   case s2 => (simp only [iniC, List.length_map, List.length_append, List.length_replicate]; omega)
   clear F a H; intro A60 c60 a w F H
   refine sNc F rfl rfl rfl ?_;clear F a;intro a F
   refine sFa (f := 3) (k := 5) Try.underlying59 rfl Try.sizeOf33 rfl rfl F rfl rfl rfl ?_;clear F a;intro a F
   refine sFa (f := 2) (k := 7) Try.underlying33 rfl Try.sizeOf30 rfl rfl F rfl rfl rfl ?_;clear F a;intro a F
   refine sSt H 1 Try.sizeOf30 F rfl rfl rfl rfl rfl rfl ?_
   clear H; intro w H
   refine sNil ?_
   rw [show iniC (q.init ++ List.replicate j 0) ++ [[Value.int IntKind.u8 0]] = iniC ((q.init ++ List.replicate j 0) ++ [0]) from iniC_snoc _ 0, iniC_length, List.append_assoc, ← List.replicate_succ'] at H
   replace H := H.tail
   exact ⟨_, by omega, [], ⟨j + 1, _, _, rfl, rfl, by omega, H⟩, F.to (by repeat (first | exact trivial | refine Le.cons rfl ?_))⟩
  replace h52 := of_decide_eq_false h52
  have hjl : u.names.length = q.init.length + j := by rw [List.length_append, List.length_replicate] at h52; omega
  refine wp_exit ?_
  refine hK12 _ _ ?_; clear hK12
  refine cSeq (fun K15 hK15 => ?_)
  refine cReg ?_
  refine sMv F rfl rfl rfl ?_;clear F a;intro a F
  refine sNc F rfl rfl rfl ?_;clear F a;intro a F
  refine sFa (f := 3) (k := 5) Try.underlying59 rfl Try.sizeOf33 rfl rfl F rfl rfl rfl ?_;clear F a;intro a F
  refine sFa (f := 5) (k := 10) Try.underlying33 rfl Try.sizeOf24 rfl rfl F rfl rfl rfl ?_;clear F a;intro a F
  refine sLr Try.underlying24 rfl ?si F rfl rfl rfl (H.range 0 rfl _ 5) ?_
  case si => exact info_size Try.sizeOf24
  clear F a; intro a F
  refine sCall Try.call9 F rfl rfl rfl (pdeep_any h [c1, c2, c3, c4, c5] q.cond _ (H.pred 7 _ rfl : TreeIn T _ h [c1, c2, c3, c4, c5] q.cond).at (by have := depC_le (H.pred 7 _ rfl : TreeIn T _ h [c1, c2, c3, c4, c5] q.cond); omega)) ?_
  rintro e w ⟨rfl, hb⟩
  replace H := H.grow hb; clear hb
  refine ⟨_, rfl, ?_⟩
  clear F a; intro a F
  refine sBin F rfl rfl rfl rfl bGtr ?_;clear F a;intro a F
  refine sNil ?_
  refine hK15 _ _ ?_; clear hK15
  refine cIf F rfl (fun h70 => ?_) (fun h70 => ?_)
  ·
   replace h70 := of_decide_eq_true h70
   have hdp : 20 < depC q.cond := by omega
   refine cReg ?_
   refine sMv F rfl rfl rfl ?_;clear F a;intro a F
   refine sNc F rfl rfl rfl ?_;clear F a;intro a F
   refine sFa (f := 5) (k := 16) Try.underlying59 rfl Try.sizeOf3 rfl rfl F rfl rfl rfl ?_;clear F a;intro a F
   refine sLd Try.isAgg3 F rfl rfl rfl (H.cell 0 rfl rfl) ?_;clear F a;intro a F
   refine sCallP Try.call31 F rfl rfl rfl (fail_any _ 5 H) ?_
   rintro e w ⟨rfl, H⟩
   refine .inl ⟨_, rfl, ?_⟩
   exact And.intro F.nod (Ans.no (by unfold progP; rw [hdone]; show (if u.pos < c.ts.length then _ else _ : Rs Prg) = _; rw [if_neg hfin, if_pos hdp]) H.tail.tail.tail.tail.tail.tail.tail.tail.tail)
  replace h70 := of_decide_eq_false h70
  have hdp : ¬ 20 < depC q.cond := by omega
  refine wp_skip ?_
  first | refine bEnd Try.results22 F ?_ | (simp only [Exit.then, Exit.inBlock, if_true]; (repeat (first | rw [if_pos rfl] | rw [if_neg (by decide)])); refine bEnd Try.results22 F ?_)
  exact Ans.ok (v := ⟨q.name, u.names, padI q.init u.names.length, q.threads, q.ask, q.cond⟩) (s := u) (by unfold progP; rw [hdone]; show (if u.pos < c.ts.length then _ else _ : Rs Prg) = _; rw [if_neg hfin, if_neg hdp]) ⟨rfl, { q with init := padI q.init u.names.length }, rfl, by rw [padI_app _ _ _ hjl]; exact ⟨_, _, _, _, _, _, _, _, _, _, _, _, _, _, _, _, _, _, _, _, H.selT 9 [0, 1, 2, 3, 4, 5, 6, 7] rfl rfl, hfl, hr1, hrl, hth, hh⟩⟩
end Go.Proofs.Ytbdjlmdejlklkaa
