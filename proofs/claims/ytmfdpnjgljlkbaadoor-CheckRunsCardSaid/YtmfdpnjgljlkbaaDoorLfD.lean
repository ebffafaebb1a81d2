/-
  WALK2. The law of chapter 07: CheckFolds answers true. Conditions: the program lies in memory; block 0 holds the table of needs.
-/
import Derived.Test.YtmfdpnjgljlkbaaDoorLfC
import Derived.Test.YtmfdpnjgljlkbaaDoorKtG
import Derived.Test.YtmfdpnjgljlkbaaDoorFpB
set_option linter.unusedSimpArgs false
set_option linter.unusedVariables false
namespace Go.Proofs.YtmfdpnjgljlkbaaDoor
open Go.RowKit
set_option maxRecDepth 100000

theorem bEqI2 {x y : Operand} {u v : Ins} : BinR Tryd.prog .eql 50 x y (.agg u.cells.toArray) (.agg v.cells.toArray) (.bool (ceq u.cells v.cells)) :=
  bEqT (x' := x) (y' := y) eTI (by kernel_rfl) (by decide) (fitsI u) (fitsI v)
set_option maxHeartbeats 2000000 in
theorem like_any (x y : Ins) (w0 : World) : Calls Tryd.prog 22 #[.agg x.cells.toArray, .agg y.cells.toArray] w0 fun e w' =>
    ∃ b : Bool, e = .returned (.bool b) ∧ (x.op ≠ 8 → y = x → b = true) ∧ (x.op = 8 → 1 ≤ y.skip → y.skip ≤ x.skip → y = { x with skip := y.skip } → b = true) ∧ Below w0.heap.size w0 w' := by
  have H := Own.start w0 none
  refine enterF Tryd.func22 rfl Tryd.ntmps22 rfl (fun a F => ?_)
  refine cSeq (fun K1 hK1 => ?_)
  refine cReg ?_
  refine sBx H F rfl rfl rfl ?_
  clear F a H; intro b2 a w F H
  refine sBx H F rfl rfl rfl ?_
  clear F a H; intro b3 a w F H
  refine sAs F rfl rfl rfl ?_;clear F a;intro a F
  refine sNil ?_
  refine hK1 _ _ ?_; clear hK1
  refine cSeq (fun K2 hK2 => ?_)
  refine cSeq (fun K3 hK3 => ?_)
  refine cReg ?_
  refine sFa (f := 0) (k := 0) Tryd.underlying50 rfl Tryd.sizeOf5 rfl rfl F rfl rfl rfl ?_;clear F a;intro a F
  refine sLd Tryd.isAgg5 F rfl rfl rfl (H.cell 1 rfl rfl) ?_;clear F a;intro a F
  refine sBin F rfl rfl rfl rfl (bEqlB (y := 8)) ?_;clear F a;intro a F
  refine sMv F rfl rfl rfl ?_;clear F a;intro a F
  refine F.split 8 rfl ?_ ?_ <;> (clear F; intro h8 F)
  ·
   replace h8 := beqT h8
   refine sFa (f := 7) (k := 9) Tryd.underlying50 rfl Tryd.sizeOf5 rfl rfl F rfl rfl rfl ?_;clear F a;intro a F
   refine sLd Tryd.isAgg5 F rfl rfl rfl (H.cell 0 rfl rfl) ?_;clear F a;intro a F
   refine sBin F rfl rfl rfl rfl (bGeqB (y := 1)) ?_;clear F a;intro a F
   refine sPk F rfl rfl rfl rfl ?_;clear F a;intro a F
   refine sMv F rfl rfl rfl ?_;clear F a;intro a F
   refine F.split 13 rfl ?_ ?_ <;> (clear F; intro h13 F)
   ·
    replace h13 := of_decide_eq_true h13
    refine sFa (f := 7) (k := 9) Tryd.underlying50 rfl Tryd.sizeOf5 rfl rfl F rfl rfl rfl ?_;clear F a;intro a F
    refine sLd Tryd.isAgg5 F rfl rfl rfl (H.cell 0 rfl rfl) ?_;clear F a;intro a F
    refine sFa (f := 7) (k := 9) Tryd.underlying50 rfl Tryd.sizeOf5 rfl rfl F rfl rfl rfl ?_;clear F a;intro a F
    refine sLd Tryd.isAgg5 F rfl rfl rfl (H.cell 1 rfl rfl) ?_;clear F a;intro a F
    refine sBin F rfl rfl rfl rfl bLeqB ?_;clear F a;intro a F
    refine sPk F rfl rfl rfl rfl ?_;clear F a;intro a F
    refine sNil ?_
    refine hK3 _ _ ?_; clear hK3
    refine cIf F rfl (fun h19 => ?_) (fun h19 => ?_)
    ·
     replace h19 := of_decide_eq_true h19
     refine cReg ?_
     refine sFa (f := 7) (k := 9) Tryd.underlying50 rfl Tryd.sizeOf5 rfl rfl F rfl rfl rfl ?_;clear F a;intro a F
     refine sLd Tryd.isAgg5 F rfl rfl rfl (H.cell 0 rfl rfl) ?_;clear F a;intro a F
     refine sFa (f := 7) (k := 9) Tryd.underlying50 rfl Tryd.sizeOf5 rfl rfl F rfl rfl rfl ?_;clear F a;intro a F
     refine sSt H 1 Tryd.sizeOf5 F rfl rfl rfl rfl rfl rfl ?_
     clear H; intro w H
     refine sNil ?_
     refine hK2 _ _ ?_; clear hK2
     refine cSeq (fun K4 hK4 => ?_)
     refine cReg ?_
     refine sLr Tryd.underlying50 rfl ?si F rfl rfl rfl (H.whole 1 rfl) ?_
     case si => exact info_size Tryd.sizeOf50
     clear F a; intro a F
     refine sLr Tryd.underlying50 rfl ?si F rfl rfl rfl (H.whole 0 rfl) ?_
     case si => exact info_size Tryd.sizeOf50
     clear F a; intro a F
     refine sBin F rfl rfl rfl rfl (bEqT eTI (by kernel_rfl) (by decide) (by first | exact fitsI x | exact fitsI { x with skip := y.skip }) (by exact fitsI y)) ?_;clear F a;intro a F
     refine sAs F rfl rfl rfl ?_;clear F a;intro a F
     refine sNil ?_
     refine hK4 _ _ ?_; clear hK4
     refine wp_ret ?_
     refine bRet Tryd.results22 F rfl ?_
     first
       | (refine ⟨_, rfl, fun h => absurd h8 h, fun _ _ _ h => ?_, H.below⟩
          have e := ceqI { x with skip := y.skip }
          rw [← h] at e
          refine Eq.trans ?_ e
          conv => rhs; arg 1; rw [h]
          rfl)
       | exact ⟨_, rfl, fun _ h => (by subst h; exact ceqI _), fun h8' => absurd h8' (by assumption), H.below⟩
       | exact ⟨_, rfl, fun _ h => (by subst h; exact ceqI _), fun _ h1 => absurd h1 (by assumption), H.below⟩
       | exact ⟨_, rfl, fun _ h => (by subst h; exact ceqI _), fun _ _ h2 => absurd h2 (by assumption), H.below⟩
    replace h19 := of_decide_eq_false h19
    refine wp_skip ?_
    refine hK2 _ _ ?_; clear hK2
    refine cSeq (fun K5 hK5 => ?_)
    refine cReg ?_
    refine sLr Tryd.underlying50 rfl ?si F rfl rfl rfl (H.whole 1 rfl) ?_
    case si => exact info_size Tryd.sizeOf50
    clear F a; intro a F
    refine sLr Tryd.underlying50 rfl ?si F rfl rfl rfl (H.whole 0 rfl) ?_
    case si => exact info_size Tryd.sizeOf50
    clear F a; intro a F
    refine sBin F rfl rfl rfl rfl (bEqT eTI (by kernel_rfl) (by decide) (by first | exact fitsI x | exact fitsI { x with skip := y.skip }) (by exact fitsI y)) ?_;clear F a;intro a F
    refine sAs F rfl rfl rfl ?_;clear F a;intro a F
    refine sNil ?_
    refine hK5 _ _ ?_; clear hK5
    refine wp_ret ?_
    refine bRet Tryd.results22 F rfl ?_
    first
      | (refine ⟨_, rfl, fun h => absurd h8 h, fun _ _ _ h => ?_, H.below⟩
         have e := ceqI { x with skip := y.skip }
         rw [← h] at e
         refine Eq.trans ?_ e
         conv => rhs; arg 1; rw [h]
         rfl)
      | exact ⟨_, rfl, fun _ h => (by subst h; exact ceqI _), fun h8' => absurd h8' (by assumption), H.below⟩
      | exact ⟨_, rfl, fun _ h => (by subst h; exact ceqI _), fun _ h1 => absurd h1 (by assumption), H.below⟩
      | exact ⟨_, rfl, fun _ h => (by subst h; exact ceqI _), fun _ _ h2 => absurd h2 (by assumption), H.below⟩
   replace h13 := of_decide_eq_false h13
   refine sSk F rfl rfl ?_;clear F a;intro a F
   refine sSk F rfl rfl ?_;clear F a;intro a F
   refine sSk F rfl rfl ?_;clear F a;intro a F
   refine sSk F rfl rfl ?_;clear F a;intro a F
   refine sSk F rfl rfl ?_;clear F a;intro a F
   refine sPk F rfl rfl rfl rfl ?_;clear F a;intro a F
   refine sNil ?_
   refine hK3 _ _ ?_; clear hK3
   refine cIfF F rfl ?_
   refine wp_skip ?_
   refine hK2 _ _ ?_; clear hK2
   refine cSeq (fun K6 hK6 => ?_)
   refine cReg ?_
   refine sLr Tryd.underlying50 rfl ?si F rfl rfl rfl (H.whole 1 rfl) ?_
   case si => exact info_size Tryd.sizeOf50
   clear F a; intro a F
   refine sLr Tryd.underlying50 rfl ?si F rfl rfl rfl (H.whole 0 rfl) ?_
   case si => exact info_size Tryd.sizeOf50
   clear F a; intro a F
   refine sBin F rfl rfl rfl rfl (bEqT eTI (by kernel_rfl) (by decide) (by first | exact fitsI x | exact fitsI { x with skip := y.skip }) (by exact fitsI y)) ?_;clear F a;intro a F
   refine sAs F rfl rfl rfl ?_;clear F a;intro a F
   refine sNil ?_
   refine hK6 _ _ ?_; clear hK6
   refine wp_ret ?_
   refine bRet Tryd.results22 F rfl ?_
   first
     | (refine ⟨_, rfl, fun h => absurd h8 h, fun _ _ _ h => ?_, H.below⟩
        have e := ceqI { x with skip := y.skip }
        rw [← h] at e
        refine Eq.trans ?_ e
        conv => rhs; arg 1; rw [h]
        rfl)
     | exact ⟨_, rfl, fun _ h => (by subst h; exact ceqI _), fun h8' => absurd h8' (by assumption), H.below⟩
     | exact ⟨_, rfl, fun _ h => (by subst h; exact ceqI _), fun _ h1 => absurd h1 (by assumption), H.below⟩
     | exact ⟨_, rfl, fun _ h => (by subst h; exact ceqI _), fun _ _ h2 => absurd h2 (by assumption), H.below⟩
  replace h8 := beqF h8
  refine sSk F rfl rfl ?_;clear F a;intro a F
  refine sSk F rfl rfl ?_;clear F a;intro a F
  refine sSk F rfl rfl ?_;clear F a;intro a F
  refine sPk F rfl rfl rfl rfl ?_;clear F a;intro a F
  refine sMv F rfl rfl rfl ?_;clear F a;intro a F
  refine sSk F rfl rfl ?_;clear F a;intro a F
  refine sSk F rfl rfl ?_;clear F a;intro a F
  refine sSk F rfl rfl ?_;clear F a;intro a F
  refine sSk F rfl rfl ?_;clear F a;intro a F
  refine sSk F rfl rfl ?_;clear F a;intro a F
  refine sPk F rfl rfl rfl rfl ?_;clear F a;intro a F
  refine sNil ?_
  refine hK3 _ _ ?_; clear hK3
  refine cIfF F rfl ?_
  refine wp_skip ?_
  refine hK2 _ _ ?_; clear hK2
  refine cSeq (fun K7 hK7 => ?_)
  refine cReg ?_
  refine sLr Tryd.underlying50 rfl ?si F rfl rfl rfl (H.whole 1 rfl) ?_
  case si => exact info_size Tryd.sizeOf50
  clear F a; intro a F
  refine sLr Tryd.underlying50 rfl ?si F rfl rfl rfl (H.whole 0 rfl) ?_
  case si => exact info_size Tryd.sizeOf50
  clear F a; intro a F
  refine sBin F rfl rfl rfl rfl (bEqT eTI (by kernel_rfl) (by decide) (by first | exact fitsI x | exact fitsI { x with skip := y.skip }) (by exact fitsI y)) ?_;clear F a;intro a F
  refine sAs F rfl rfl rfl ?_;clear F a;intro a F
  refine sNil ?_
  refine hK7 _ _ ?_; clear hK7
  refine wp_ret ?_
  refine bRet Tryd.results22 F rfl ?_
  first
    | (refine ⟨_, rfl, fun h => absurd h8 h, fun _ _ _ h => ?_, H.below⟩
       have e := ceqI { x with skip := y.skip }
       rw [← h] at e
       refine Eq.trans ?_ e
       conv => rhs; arg 1; rw [h]
       rfl)
    | exact ⟨_, rfl, fun _ h => (by subst h; exact ceqI _), fun h8' => absurd h8' (by assumption), H.below⟩
    | exact ⟨_, rfl, fun _ h => (by subst h; exact ceqI _), fun _ h1 => absurd h1 (by assumption), H.below⟩
    | exact ⟨_, rfl, fun _ h => (by subst h; exact ceqI _), fun _ _ h2 => absurd h2 (by assumption), H.below⟩
mutual
theorem slim_of : ∀ {w : World} {h : Nat} {cs : List Value} {c : Cnd} {n : Nat}, CondAt w h cs c → sizeC c ≤ n → n ≤ 1099511627776 → Slim h c
  | _, 0, _, _, _, hc, _, _ => hc.elim
  | w, h + 1, cs, .mk k t m v kids, n, hc, hn, hm => by
    obtain ⟨A, C, _, h2, h3⟩ := hc
    simp only [sizeC] at hn
    refine ⟨?_, fun kid hk => ?_⟩
    · have : kids.length ≤ sizeL kids := len_size kids
      omega
    · obtain ⟨j, hj⟩ := List.mem_iff_getElem?.1 hk
      obtain ⟨b, off, cs', _, _, h6⟩ := h3 j kid hj
      exact slim_of h6 (Nat.le_trans (mem_size hk) (by omega)) hm
theorem len_size : ∀ kids : List Cnd, kids.length ≤ sizeL kids
  | [] => Nat.le_refl _
  | c :: r => by
    have h1 := len_size r
    have h2 : 1 ≤ sizeC c := by cases c; simp only [sizeC]; omega
    simp only [sizeL, List.length_cons]
    omega
theorem mem_size : ∀ {kids : List Cnd} {c : Cnd}, c ∈ kids → sizeC c ≤ sizeL kids
  | [], _, h => by cases h
  | d :: r, c, h => by
    simp only [sizeL]
    rcases List.mem_cons.1 h with rfl | h
    · omega
    · have := mem_size h
      omega
end
/-- The zero program. -/
def zeroP : Prg := ⟨ByteArray.empty, [], [], [], 0, .mk 0 0 0 0 []⟩
theorem zeroIn (w : World) : ProgIn w zeroPr zeroP none 0 none 0 none 0 1 [.int .u8 0, .int .u8 0, .int .u8 0, .int .u8 0, .slice none 0 0] :=
  ⟨rfl, (show ByteArray.empty.size ≤ maxLen by decide), fun j cs h => by simp [zeroP] at h, (show 0 ≤ 9223372036854775807 by decide), Nat.le_refl _, fun s h => by simp [zeroP] at h, fun j cs h => by simp [zeroP] at h, (show 0 ≤ 9223372036854775807 by decide), fun j t h => by simp [zeroP] at h, (show 0 ≤ 9223372036854775807 by decide), none, 0, rfl, by decide, fun j kid h => by simp at h⟩
theorem prog_out {w0 w : World} {row : Option Nat} {p : Prg} {h LC IC TC : Nat} {LA IA TA : Option Addr} {S1 S2 S3 S4 : Nat → Prop} {rows : List (List Value)} {ccs : List Value}
    (H : Own w0 row w [.tree S4 h ccs p.cond, .rws 22 1 (.slice TA p.threads.length TC) rows, .grove S3 rows (p.threads.map foldP), .held S2 IA 1 (p.init.map fun x => [Go.Proofs.YtmfdpnjgljlkbaaDoor.b8 x]), .held S1 LA 1 (p.locs.map fun s => [.string s])])
    (hrl : rows.length = p.threads.length) (hr1 : ∀ r ∈ rows, r.length = 1) (hLC : p.locs.length ≤ LC) (hn : p.name.size ≤ maxLen) (hl : p.locs.length ≤ 9223372036854775807) (hls : ∀ s ∈ p.locs, s.size ≤ maxLen) (hi : p.init.length ≤ 9223372036854775807) (hf : FoldPre p) :
    ProgIn w ([.string p.name, .slice LA p.locs.length LC, .slice IA p.init.length IC, .slice TA p.threads.length TC, Go.Proofs.YtmfdpnjgljlkbaaDoor.b8 p.ask] ++ ccs) (foldPr p) LA LC IA IC TA TC h ccs := by
  refine ⟨by simp [foldPr], hn, H.held 4 rfl, hl, hLC, hls, H.held 3 rfl, hi, fun j t ht => ?_, by simp only [foldPr, List.length_map]; have := hf.1; omega, (H.pred 0 _ rfl : TreeIn S4 w h ccs p.cond).at⟩
  have hj := (List.getElem?_eq_some_iff.1 ht).1
  simp only [foldPr, List.length_map] at hj
  obtain ⟨r, hr⟩ : ∃ r, rows[j]? = some r := ⟨_, List.getElem?_eq_getElem (by omega)⟩
  obtain ⟨B, C, rfl, hB⟩ := (H.pred 2 _ rfl : groveP S3 w rows (p.threads.map foldP)) j r t hr ht
  obtain ⟨b, off, rfl, hx⟩ := H.rowsAt 1 rfl hr1 (by decide) j _ hr
  refine ⟨b, off, B, C, rfl, hx 0 _ rfl, fun i cs hi => ?_, ?_⟩
  · obtain ⟨b2, o2, h1, _, h2⟩ := hB i cs hi
    exact ⟨b2, o2, h1, h2⟩
  · have ht' : (p.threads.map foldP)[j]? = some t := ht
    rw [List.getElem?_map] at ht'
    obtain ⟨u, hu, rfl⟩ := Option.map_eq_some_iff.1 ht'
    have h1 := (hf.2.2 u (List.mem_of_getElem? hu)).1
    have h2 : (foldP u).length ≤ u.length := outP_length _ _ _
    omega
set_option maxHeartbeats 4000000 in
theorem checkFolds_err (cs : List Value) (p : Prg) (LA : Option Addr) (LC : Nat) (IA : Option Addr) (IC : Nat) (TA : Option Addr) (TC h : Nat) (ccs : List Value) (w0 : World) (hp : ProgCapIn w0 cs p LA LC IA IC TA TC h ccs) (hN : NeedsAt w0) (h0 : rightErr p ≠ 0) :
    Calls Tryd.prog 4 #[.agg cs.toArray] w0 fun e w' => e = .returned (.bool true) ∧ Below w0.heap.size w0 w' := by
  have hP : ProgAt w0 cs p := ⟨_, _, _, _, _, _, _, _, hp.prog⟩
  obtain ⟨a1, a2, a3, a4, a5, a6, a7, rfl⟩ := condShape hp.cond.at
  have hcs := hp.prog.cs
  simp only [List.cons_append, List.nil_append] at hcs
  subst hcs
  have H := Own.start w0 none
  refine enterF Tryd.func4 rfl Tryd.ntmps4 rfl (fun a F => ?_)
  refine cSeq (fun K1 hK1 => ?_)
  refine cReg ?_
  refine sBx H F rfl rfl rfl ?_
  clear F a H; intro b1 a w F H
  refine sAs F rfl rfl rfl ?_;clear F a;intro a F
  refine sNil ?_
  refine hK1 _ _ ?_; clear hK1
  refine cSeq (fun K2 hK2 => ?_)
  refine cSeq (fun K3 hK3 => ?_)
  refine cReg ?_
  refine sCall Tryd.call8 F rfl rfl rfl (awake7_any _ (hN.own H)) ?_
  rintro e w ⟨rfl, hb⟩
  replace H := H.grow hb; clear hb
  refine ⟨_, rfl, ?_⟩
  clear F a; intro a F
  refine sNot F rfl rfl rfl ?_;clear F a;intro a F
  refine sNil ?_
  refine hK3 _ _ ?_; clear hK3
  refine cIf F rfl (fun h12 => ?_) (fun h12 => ?_)
  ·
   replace h12 := notT h12
   exact absurd h12 (by decide)
  replace h12 := notF h12
  refine wp_skip ?_
  refine hK2 _ _ ?_; clear hK2
  refine cSeq (fun K4 hK4 => ?_)
  refine cSeq (fun K5 hK5 => ?_)
  refine cReg ?_
  refine sLr Tryd.underlying37 rfl ?si F rfl rfl rfl (H.whole 0 rfl) ?_
  case si => exact info_size Tryd.sizeOf37
  clear F a; intro a F
  refine sCall Tryd.call15 F rfl rfl rfl (great_any _ p LA LC IA IC TA TC h _ _ (hp.own H)) ?_
  rintro e w ⟨g14, rfl, hg14, hb⟩
  replace H := H.grow hb; clear hb
  refine ⟨_, rfl, ?_⟩
  clear F a; intro a F
  refine sNil ?_
  refine hK5 _ _ ?_; clear hK5
  refine cIf F rfl (fun h14 => ?_) (fun h14 => ?_)
  ·
   refine cSeq (fun K6 hK6 => ?_)
   refine cReg ?_
   refine sAs F rfl rfl rfl ?_;clear F a;intro a F
   refine sNil ?_
   refine hK6 _ _ ?_; clear hK6
   refine wp_ret ?_
   simp only [Exit.then]
   refine bRet Tryd.results4 F rfl ?_
   exact ⟨rfl, H.below⟩
  refine wp_skip ?_
  refine hK4 _ _ ?_; clear hK4
  refine cSeq (fun K7 hK7 => ?_)
  refine cReg ?_
  refine sLr Tryd.underlying37 rfl ?si F rfl rfl rfl (H.whole 0 rfl) ?_
  case si => exact info_size Tryd.sizeOf37
  clear F a; intro a F
  refine sCall Tryd.call16 F rfl rfl rfl (Fold_any _ p LA LC IA IC TA TC h _ _ (hp.prog.own H) (hN.own H) (fun h => absurd h h0) (fun h => absurd h h0) (fun h => absurd h h0)) ?_
  rintro e w h17
  rcases h17 with ⟨_, rfl, hb⟩ | ⟨h17, _⟩
  case inr => exact absurd h17 h0
  replace H := H.grow hb; clear hb
  refine ⟨_, rfl, ?_⟩
  clear F a; intro a F
  refine sMv F rfl rfl rfl ?_;clear F a;intro a F
  refine sExt F rfl rfl rfl rfl ?_;clear F a;intro a F
  refine sExt F rfl rfl rfl rfl ?_;clear F a;intro a F
  refine sAl H Tryd.zeroValue37 F rfl rfl ?_
  clear F a H; intro b3 a w F H
  refine sSr H 0 ?si F rfl rfl rfl ?s1 rfl rfl ?_
  case si => exact info_size Tryd.sizeOf37
  case s1 => first | rfl | (repeat (first | exact one_nil | (apply one_cons; · first | rfl | assumption | exact one_bif rfl rfl)))
  clear H; intro w H
  refine sAs F rfl rfl rfl ?_;clear F a;intro a F
  refine sNil ?_
  refine hK7 _ _ ?_; clear hK7
  refine cSeq (fun K8 hK8 => ?_)
  refine cSeq (fun K9 hK9 => ?_)
  refine cReg ?_
  refine sMv F rfl rfl rfl ?_;clear F a;intro a F
  refine sBin F rfl rfl rfl rfl bNeq ?_;clear F a;intro a F
  refine sNil ?_
  refine hK9 _ _ ?_; clear hK9
  refine cIf F rfl (fun h21 => ?_) (fun h21 => ?_)
  ·
   replace h21 := bneT h21
   refine cSeq (fun K10 hK10 => ?_)
   refine cReg ?_
   refine sMv F rfl rfl rfl ?_;clear F a;intro a F
   refine sLr Tryd.underlying37 rfl ?si F rfl rfl rfl (H.whole 1 rfl) ?_
   case si => exact info_size Tryd.sizeOf37
   clear F a; intro a F
   refine sCall Tryd.call17 F rfl rfl rfl (right_any' _ p _ (hP.own H) (hN.own H)) ?_
   rintro e w ⟨rfl, hb⟩
   replace H := H.grow hb; clear hb
   refine ⟨_, rfl, ?_⟩
   clear F a; intro a F
   refine sBin F rfl rfl rfl rfl bEql ?_;clear F a;intro a F
   refine sMv F rfl rfl rfl ?_;clear F a;intro a F
   refine F.split 26 rfl ?_ ?_ <;> (clear F; intro h26 F)
   ·
    replace h26 := beqT h26
    refine sLr Tryd.underlying37 rfl ?si F rfl rfl rfl (H.whole 0 rfl) ?_
    case si => exact info_size Tryd.sizeOf37
    clear F a; intro a F
    refine sBd (places := [(0, 1), (1, 1), (2, 1), (3, 1), (4, 1), (5, 5)]) Tryd.zeroValue37 Tryd.underlying37 (by kernel_rfl) F rfl rfl rfl rfl ?_;clear F a;intro a F
    refine sCall Tryd.call18 F rfl rfl rfl (sameProg_any zeroPr zeroPr zeroP none 0 none 0 none 0 1 _ none 0 none 0 none 0 1 _ _ (zeroIn _) (zeroIn _)) ?_
    rintro e w ⟨rfl, hb⟩
    replace H := H.grow hb; clear hb
    refine ⟨_, rfl, ?_⟩
    clear F a; intro a F
    refine sPk F rfl rfl rfl rfl ?_;clear F a;intro a F
    refine sAs F rfl rfl rfl ?_;clear F a;intro a F
    refine sNil ?_
    refine hK10 _ _ ?_; clear hK10
    refine wp_ret ?_
    simp only [Exit.then]
    refine bRet Tryd.results4 F rfl ?_
    exact ⟨rfl, H.below⟩
   replace h26 := beqF h26
   (first | exact absurd rfl h26 | exact absurd h26 (by decide) | (simp at h26; done))
  replace h21 := bneF h21
  exact absurd h21 h0
end Go.Proofs.YtmfdpnjgljlkbaaDoor
