/-
  WALK2. Package path: spread, ends. Conditions: the thread lies in memory and is valid; the domain lies in memory.
-/
import Derived.Test.YtklpiodciblabaaGreatDoorSq1
import Derived.Test.YtklpiodciblabaaGreatDoorPaZ
set_option linter.unusedSimpArgs false
set_option linter.unusedVariables false
namespace Go.Proofs.YtklpiodciblabaaGreatDoor
open Go.RowKit
set_option maxRecDepth 100000
def spreadL (l : List Ins) (dom : List UInt8) : Nat → RunP → List RunP
  | 0, _ => []
  | f + 1, r => if wantsP l (proceedP l r) = true then dom.flatMap fun v => spreadL l dom f (execE (insAt l (proceedP l r)) v (proceedP l r)) else [proceedP l r]
def endsL (l : List Ins) (dom : List UInt8) : List RunP := spreadL l dom (l.length + 1) zRun
theorem spread_end {l : List Ins} {dom : List UInt8} {f : Nat} {r : RunP} (h : wantsP l (proceedP l r) = false) : spreadL l dom (f + 1) r = [proceedP l r] := by
  rw [spreadL, if_neg (fun e => Bool.noConfusion (h.symm.trans e))]
theorem spread_on {l : List Ins} {dom : List UInt8} {f : Nat} {r : RunP} (h : wantsP l (proceedP l r) = true) : spreadL l dom (f + 1) r = dom.flatMap fun v => spreadL l dom f (execE (insAt l (proceedP l r)) v (proceedP l r)) := by
  rw [spreadL, if_pos h]
theorem fm_take {α : Type} {g : UInt8 → List α} {dom : List UInt8} {j : Nat} {v : UInt8} (h : dom[j]? = some v) : (dom.take (j + 1)).flatMap g = (dom.take j).flatMap g ++ g v := by
  rw [List.take_add_one, h, List.flatMap_append]; simp
theorem fm_pre {α : Type} {g : UInt8 → List α} {dom : List UInt8} {j : Nat} {v : UInt8} (h : dom[j]? = some v) {q : List α} (hq : q <+: g v) : (dom.take j).flatMap g ++ q <+: dom.flatMap g := by
  obtain ⟨t, ht⟩ := hq
  have e : dom.flatMap g = (dom.take (j + 1)).flatMap g ++ (dom.drop (j + 1)).flatMap g := by rw [← List.flatMap_append, List.take_append_drop]
  rw [e, fm_take (g := g) h, ← ht]
  exact ⟨t ++ (dom.drop (j + 1)).flatMap g, by simp⟩
theorem proceed_le {l : List Ins} (r : RunP) : r.pc ≤ (proceedP l r).pc := proceed_ind (M := fun r' => r.pc ≤ r'.pc) (fun r' x h hx _ => Nat.le_trans h (by have := exec_pc x 0 r'; omega)) _ r (Nat.le_refl r.pc)
theorem Own.suf {w0 w : World} {row : Option Nat} {ps ts : List Res} (H : Own w0 row w (ps ++ ts)) : Own w0 row w ts := by
  induction ps with
  | nil => exact H
  | cons r ps ih => exact ih H.tail
theorem splice_all : ∀ {cs vs : List Value}, cs.length = vs.length → splice cs 0 vs = vs := fun {cs vs} h => by
  refine List.ext_getElem? fun i => ?_
  rw [splice_get _ _ _ _ (by omega)]
  rcases Nat.lt_or_ge i vs.length with h1 | h1
  · rw [if_pos (by omega), Nat.sub_zero]
  · rw [if_neg (by omega), List.getElem?_eq_none (by omega), List.getElem?_eq_none h1]
theorem copyAll {cs vs : List Value} (k : Nat) (hc : cs.length = k) (hv : vs.length = k) : splice cs 0 (List.take k (List.drop 0 vs)) = vs := by
  rw [List.drop_zero, List.take_of_length_le (by omega)]
  exact splice_all (hc.trans hv.symm)
theorem Own.inTail {w0 w : World} {row : Option Nat} {x y : Res} {ps qs : List Res} (H : Own w0 row w (x :: y :: (ps ++ qs))) : Own w0 row w (x :: (ps ++ (y :: qs))) := H.perm (List.Perm.cons _ List.perm_middle.symm)
theorem Own.outTail {w0 w : World} {row : Option Nat} {x y : Res} {ps qs : List Res} (H : Own w0 row w (x :: (ps ++ (y :: qs)))) : Own w0 row w (x :: y :: (ps ++ qs)) := H.perm (List.Perm.cons _ List.perm_middle)
namespace Md
set_option maxHeartbeats 4000000 in
theorem spread_any (l : List Ins) (dom : List UInt8) (hl : threadOk 6 l = true) (A : Option Addr) (C : Nat) (DA : Option Addr) (DC : Nat) (w0 : World) (hA : RowsAt w0 A 10 (l.map Ins.cells)) (hdn : dom.length ≤ 1000000) (lp : Nat) (J Jx : List RunP → List Res → Prop) (all : List RunP)
    (hY : ∀ (pre : List RunP) (x : RunP) (b : Nat) (w1 : World) (ps1 qs : List Res), J pre ps1 → pre ++ [x] <+: all → InvR l x → Own w0 none w1 (.blk b x.cells 81 :: (ps1 ++ qs)) →
      YieldAt Fence.wide 0 Tryz.prog lp #[.pointer (some ⟨b, 0, none⟩)] w1 fun e w2 => ∃ ps2, Own w0 none w2 (.blk b x.cells 81 :: (ps2 ++ qs)) ∧ ((e = .returned (.bool true) ∧ J (pre ++ [x]) ps2) ∨ (e = .returned (.bool false) ∧ Jx (pre ++ [x]) ps2))) :
    ∀ (f : Nat) (r : RunP) (pre : List RunP) (b : Nat) (ps qs : List Res) (w1 : World), l.length - r.pc < f → InvR l r → pre ++ spreadL l dom f r <+: all → J pre ps → (∀ w, Own w0 none w qs → BytesAt w DA dom) → Own w0 none w1 (.blk b r.cells 81 :: (ps ++ qs)) →
      Calls Tryz.prog 60 #[.pointer (some ⟨b, 0, none⟩), .slice A l.length C, .slice DA dom.length DC, .func (.yield lp) #[] #[]] w1 fun e w' => ∃ (c : Bool) (r' : RunP) (ps' : List Res), e = .returned (.bool c) ∧ Own w0 none w' (.blk b r'.cells 81 :: (ps' ++ qs)) ∧ ((c = true ∧ J (pre ++ spreadL l dom f r) ps') ∨ (c = false ∧ ∃ q, q <+: spreadL l dom f r ∧ Jx (pre ++ q) ps')) := by
  intro f
  induction f with
  | zero => intro r pre b ps qs w1 h; omega
  | succ f ih =>
    intro r pre b ps qs w1 hf hI hpre hJ hdom H
    refine enterF Tryz.func60 rfl Tryz.ntmps60 rfl (fun a F => ?_);refine toMd F ?_;refine cSeq (fun K1 hK1 => ?_);refine cReg ?_;refine sAs F rfl rfl rfl ?_;clear F a;intro a F;refine sNil ?_;refine hK1 _ _ ?_; clear hK1;refine cSeq (fun K2 hK2 => ?_);refine cSeq (fun K3 hK3 => ?_);refine cReg ?_;refine sMv F rfl rfl rfl (qMv rfl rfl rfl ?_);clear F a;intro a F;refine sCall Tryz.call28 F rfl rfl rfl (proceed_any b A C l r _ (H.blk 0 rfl) (own_rowsNot H 0 rfl hA ins_len) hl hI) ?_;rintro e w ⟨rfl, H2⟩
    replace H := H.turned 0 rfl H2
    clear H2
    have hI2 := proceed_inv hl hI
    have hl12 := thr_len hl
    have hpc2 := proceed_le (l := l) r
    refine ⟨_, rfl, ?_⟩;clear F a; intro a F;refine sNot F rfl rfl rfl ?_;clear F a;intro a F;refine sNil ?_;refine hK3 _ _ ?_; clear hK3
    refine cIf F rfl (fun h15 => ?_) (fun h15 => ?_)
    ·
     replace h15 := notT h15
     have hw : wantsP l (proceedP l r) = false := h15
     refine cSeq (fun K4 hK4 => ?_);rw [spread_end hw] at hpre;refine wpIn_region_lit ?_;refine iV F rfl rfl rfl (fun c h => by cases h) (rMv F rfl) ?_;clear F a;intro a F;refine iV F rfl rfl rfl (fun c h => by cases h) (rMv F rfl) ?_;clear F a;intro a F;refine iY F rfl rfl rfl rfl (hY pre (proceedP l r) b _ ps qs hJ hpre hI2 H) ?_;rintro e w ⟨ps2, H2, hc⟩
     obtain ⟨c9, rfl, hc2⟩ : ∃ c9 : Bool, e = .returned (.bool c9) ∧ ((c9 = true ∧ J (pre ++ [proceedP l r]) ps2) ∨ (c9 = false ∧ Jx (pre ++ [proceedP l r]) ps2)) := by
       rcases hc with ⟨h1, h2⟩ | ⟨h1, h2⟩
       · exact ⟨_, h1, .inl ⟨rfl, h2⟩⟩
       · exact ⟨_, h1, .inr ⟨rfl, h2⟩⟩
     refine ⟨_, rfl, ?_⟩;clear F a; intro a F;refine iV F rfl rfl rfl (fun c h => by cases h) (rAs F rfl) ?_;clear F a;intro a F;refine iNil ?_;refine hK4 _ _ ?_; clear hK4;refine wp_ret ?_;simp only [Exit.then];refine bRet Tryz.results60 F rfl ?_
     first
     | (refine ⟨c9, _, _, rfl, H2, ?_⟩
        rw [spread_end hw]
        rcases hc2 with ⟨h1, h2⟩ | ⟨h1, h2⟩
        · exact .inl ⟨h1, h2⟩
        · exact .inr ⟨h1, _, List.prefix_refl _, h2⟩)
     | (refine ⟨false, _, _, rfl, H, .inr ⟨rfl, ?_⟩⟩
        obtain ⟨q, hq, hx9⟩ : ∃ q, q <+: spreadL l dom f (execE (insAt l (proceedP l r)) v (proceedP l r)) ∧ Jx ((pre ++ (dom.take j).flatMap fun v => spreadL l dom f (execE (insAt l (proceedP l r)) v (proceedP l r))) ++ q) ps9 := by
          rcases hc9 with ⟨h1, _⟩ | ⟨_, h2⟩
          · simp_all
          · exact h2
        rw [spread_on hw];rw [List.append_assoc] at hx9
        exact ⟨_, fm_pre (g := fun v => spreadL l dom f (execE (insAt l (proceedP l r)) v (proceedP l r))) hv hq, hx9⟩)
     | (obtain hjd : dom.length ≤ j := by omega
        rw [List.take_of_length_le hjd] at hJ'
        exact ⟨true, _, _, rfl, H, .inl ⟨rfl, by rw [spread_on hw]; exact hJ'⟩⟩)
    replace h15 := notF h15
    have hw : wantsP l (proceedP l r) = true := h15
    refine wp_skip ?_;refine hK2 _ _ ?_; clear hK2;refine cSeq (fun K5 hK5 => ?_);refine cSeq (fun K6 hK6 => ?_);refine cReg ?_;refine sMv F rfl rfl rfl (qLen Tryz.underlying23 rfl rfl rfl (qMv rfl rfl rfl ?_));clear F a;intro a F;refine sNil ?_;refine hK6 _ _ ?_; clear hK6;refine wp_block ?_
    refine cLoopR [0, 1, 2, 3, 19, 20] (fun m ups w => ∃ (j : Nat) (ps' : List Res), m = dom.length - j ∧ ups = [(21, .int .i64 ((j : Nat) : Int))] ∧ J (pre ++ (dom.take j).flatMap fun v => spreadL l dom f (execE (insAt l (proceedP l r)) v (proceedP l r))) ps' ∧ Own w0 none w (.blk b (proceedP l r).cells 81 :: (ps' ++ qs))) F (dom.length) [(21, .int .i64 ((0 : Nat) : Int))] (by repeat (first | exact SubR.nil | (apply SubR.cons; · rfl))) ?_ ?_ ?_
    · exact ⟨0, ps, rfl, rfl, by simpa using hJ, H⟩
    · repeat (first | exact trivial | refine Le.cons rfl ?_)
    clear F
    clear H
    intro m ups a w hI F
    obtain ⟨j, ps', rfl, rfl, hJ', H⟩ := hI
    refine cSeq (fun K7 hK7 => ?_);refine cReg ?_;refine sBin F rfl rfl rfl rfl bLss ?_;clear F a;intro a F;refine sNil ?_;refine hK7 _ _ ?_; clear hK7;refine cSeq (fun K8 hK8 => ?_)
    refine cIf F rfl (fun h22 => ?_) (fun h22 => ?_)
    ·
     replace h22 := of_decide_eq_true h22
     have hjl : j < dom.length := by omega
     obtain ⟨v, hv⟩ : ∃ v, dom[j]? = some v := ⟨_, List.getElem?_eq_getElem hjl⟩
     obtain ⟨bD, oD, rfl, hcell⟩ := (hdom _ H.tail.suf).get hv
     obtain ⟨hx, hrd⟩ := wants_ins hw
     have hpl := (List.getElem?_eq_some_iff.1 hx).1
     obtain ⟨bA, oA, rfl, hR1⟩ := hA _ (insAt l (proceedP l r)).cells (by rw [List.getElem?_map, hx]; rfl)
     refine wp_skip ?_;refine hK8 _ _ ?_; clear hK8;refine cSeq (fun K9 hK9 => ?_);refine wp_block ?_;refine cSeq (fun K10 hK10 => ?_);refine cReg ?_
     refine sIx Tryz.underlying23 Tryz.sizeOf5 F rfl rfl rfl rfl ?_ ?_
     focus (first | omega | decide | (simp; omega))
     clear F a; intro a F;refine sLd Tryz.isAgg5 F rfl rfl rfl hcell (qAs rfl rfl rfl ?_);clear F a;intro a F;refine sNil ?_;refine hK10 _ _ ?_; clear hK10;refine cSeq (fun K11 hK11 => ?_);refine cReg ?_;refine sMv F rfl rfl rfl (qNc rfl rfl rfl ?_);clear F a;intro a F
     refine sLr Tryz.underlying81 rfl ?si F rfl rfl rfl (H.range 0 rfl _ 259) ?_
     case si => exact info_size Tryz.sizeOf81
     clear F a; intro a F;refine sAl H Tryz.zeroValue81 F rfl rfl ?_;clear F a H; intro b11 a w F H
     refine sSr H 0 ?si F rfl rfl rfl ?s1 rfl rfl ?_
     case si => exact info_size Tryz.sizeOf81
     case s1 => first | rfl | (repeat (first | exact one_nil | (apply one_cons; · first | rfl | assumption | exact one_bif rfl rfl)))
     clear H; intro w H;rw [copyAll 259 rfl (RunP.len _)] at H;refine sNil ?_;refine hK11 _ _ ?_; clear hK11;refine cSeq (fun K12 hK12 => ?_);refine cReg ?_;refine sMv F rfl rfl rfl (qFa (f := 0) (k := 0) Tryz.underlying81 rfl Tryz.sizeOf3 rfl rfl rfl rfl rfl (qLd Tryz.isAgg3 rfl rfl rfl (show _ = some (Value.int .i64 ((proceedP l r).pc : Int)) from H.cell 0 rfl (cell_pc _)) ?_));clear F a;intro a F
     refine sIx Tryz.underlying22 Tryz.sizeOf59 F rfl rfl rfl rfl ?_ ?_
     focus (first | omega | decide | (simp; omega))
     clear F a; intro a F
     refine sLr Tryz.underlying59 rfl ?si F rfl rfl rfl (H.argR hR1) ?_
     case si => exact info_size Tryz.sizeOf59
     clear F a; intro a F;refine sMv F rfl rfl rfl ?_;clear F a;intro a F;refine sCall Tryz.call29 F rfl rfl rfl (execute_any b11 (proceedP l r) (insAt l (proceedP l r)) v _ (H.blk 0 rfl) (thr_at hl hx).inr (hI2.ok hl hpl) (thr_at hl hx).op) ?_;rintro e w ⟨rfl, H2⟩
     replace H := H.turned 0 rfl H2
     clear H2
     have hpcx := exec_pc (insAt l (proceedP l r)) v (proceedP l r)
     have hIx := exec_inv v hI2 hl hx
     refine ⟨_, rfl, ?_⟩;clear F a; intro a F;refine sNil ?_;refine hK12 _ _ ?_; clear hK12;refine cSeq (fun K13 hK13 => ?_);refine cReg ?_;refine sMv F rfl rfl rfl (qMv rfl rfl rfl (qMv rfl rfl rfl ?_));clear F a;intro a F
     refine sCall Tryz.call60 F rfl rfl rfl (ih (execE (insAt l (proceedP l r)) v (proceedP l r)) (pre ++ (dom.take j).flatMap fun v => spreadL l dom f (execE (insAt l (proceedP l r)) v (proceedP l r))) b11 ps' (.blk b (proceedP l r).cells 81 :: qs) _ (by omega) hIx ((by
       rw [spread_on hw] at hpre;rw [List.append_assoc, ← fm_take hv]
       refine List.IsPrefix.trans ?_ hpre
       have := fm_pre (g := fun v => spreadL l dom f (execE (insAt l (proceedP l r)) v (proceedP l r))) hv (List.prefix_refl _)
       rw [← fm_take hv] at this
       exact (List.prefix_append_right_inj pre).2 this)) hJ' (fun w h => hdom w h.tail) H.inTail) ?_
     rintro e w ⟨c9, r9, ps9, rfl, H2, hc9⟩
     replace H := H2.outTail.tail
     clear H2
     refine ⟨_, rfl, ?_⟩;clear F a; intro a F;refine sNot F rfl rfl rfl ?_;clear F a;intro a F;refine sNil ?_;refine hK13 _ _ ?_; clear hK13
     refine cIf F rfl (fun h39 => ?_) (fun h39 => ?_)
     ·
      replace h39 := notT h39;refine cSeq (fun K14 hK14 => ?_);refine cReg ?_;refine sAs F rfl rfl rfl ?_;clear F a;intro a F;refine sNil ?_;refine hK14 _ _ ?_; clear hK14;refine wp_ret ?_;simp only [Exit.inBlock, Exit.then];refine bRet Tryz.results60 F rfl ?_
      first
      | (refine ⟨c9, _, _, rfl, H2, ?_⟩
         rw [spread_end hw]
         rcases hc2 with ⟨h1, h2⟩ | ⟨h1, h2⟩
         · exact .inl ⟨h1, h2⟩
         · exact .inr ⟨h1, _, List.prefix_refl _, h2⟩)
      | (refine ⟨false, _, _, rfl, H, .inr ⟨rfl, ?_⟩⟩
         obtain ⟨q, hq, hx9⟩ : ∃ q, q <+: spreadL l dom f (execE (insAt l (proceedP l r)) v (proceedP l r)) ∧ Jx ((pre ++ (dom.take j).flatMap fun v => spreadL l dom f (execE (insAt l (proceedP l r)) v (proceedP l r))) ++ q) ps9 := by
           rcases hc9 with ⟨h1, _⟩ | ⟨_, h2⟩
           · simp_all
           · exact h2
         rw [spread_on hw];rw [List.append_assoc] at hx9
         exact ⟨_, fm_pre (g := fun v => spreadL l dom f (execE (insAt l (proceedP l r)) v (proceedP l r))) hv hq, hx9⟩)
      | (obtain hjd : dom.length ≤ j := by omega
         rw [List.take_of_length_le hjd] at hJ'
         exact ⟨true, _, _, rfl, H, .inl ⟨rfl, by rw [spread_on hw]; exact hJ'⟩⟩)
     replace h39 := notF h39;refine wp_skip ?_;refine hK9 _ _ ?_; clear hK9;refine cReg ?_
     refine sBin F rfl rfl rfl rfl (bAddN (j := 1) ?_) ?_
     focus omega
     clear F a; intro a F;refine sMv F rfl rfl rfl ?_;clear F a;intro a F;refine sNil ?_
     have hJ9 : J ((pre ++ (dom.take j).flatMap fun v => spreadL l dom f (execE (insAt l (proceedP l r)) v (proceedP l r))) ++ spreadL l dom f (execE (insAt l (proceedP l r)) v (proceedP l r))) ps9 := by
       rcases hc9 with ⟨_, h2⟩ | ⟨h1, _⟩
       · exact h2
       · simp_all
     rw [List.append_assoc, ← fm_take hv] at hJ9
     exact ⟨_, by omega, _, ⟨j + 1, ps9, rfl, rfl, hJ9, H⟩, F.toD (by repeat (first | exact trivial | refine Le.cons rfl ?_))⟩
    replace h22 := of_decide_eq_false h22;refine wp_exit ?_;refine hK5 _ _ ?_; clear hK5;refine cSeq (fun K15 hK15 => ?_);refine cReg ?_;refine sAs F rfl rfl rfl ?_;clear F a;intro a F;refine sNil ?_;refine hK15 _ _ ?_; clear hK15;refine wp_ret ?_;refine bRet Tryz.results60 F rfl ?_
    first
    | (refine ⟨c9, _, _, rfl, H2, ?_⟩
       rw [spread_end hw]
       rcases hc2 with ⟨h1, h2⟩ | ⟨h1, h2⟩
       · exact .inl ⟨h1, h2⟩
       · exact .inr ⟨h1, _, List.prefix_refl _, h2⟩)
    | (refine ⟨false, _, _, rfl, H, .inr ⟨rfl, ?_⟩⟩
       obtain ⟨q, hq, hx9⟩ : ∃ q, q <+: spreadL l dom f (execE (insAt l (proceedP l r)) v (proceedP l r)) ∧ Jx ((pre ++ (dom.take j).flatMap fun v => spreadL l dom f (execE (insAt l (proceedP l r)) v (proceedP l r))) ++ q) ps9 := by
         rcases hc9 with ⟨h1, _⟩ | ⟨_, h2⟩
         · simp_all
         · exact h2
       rw [spread_on hw];rw [List.append_assoc] at hx9
       exact ⟨_, fm_pre (g := fun v => spreadL l dom f (execE (insAt l (proceedP l r)) v (proceedP l r))) hv hq, hx9⟩)
    | (obtain hjd : dom.length ≤ j := by omega
       rw [List.take_of_length_le hjd] at hJ'
       exact ⟨true, _, _, rfl, H, .inl ⟨rfl, by rw [spread_on hw]; exact hJ'⟩⟩)
end Md
end Go.Proofs.YtklpiodciblabaaGreatDoor
