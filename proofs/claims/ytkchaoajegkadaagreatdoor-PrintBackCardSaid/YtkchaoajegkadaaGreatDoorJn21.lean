/-
  WALK2. Chapter 06: PrintBack answers true. Conditions: the program lies in memory, its names no longer than memory bears; the laid table of powers of ten.
-/
import Derived.Test.YtkchaoajegkadaaGreatDoorJn20
import Derived.Test.YtkchaoajegkadaaGreatDoorRows
import Derived.WalkKit
import Derived.ProofKit
import Derived.OpenShut
import Derived.ShutString
import Derived.Below
import Derived.ChangeSame
import Derived.Test.YtkchaoajegkadaaGreatDoorJn2
import Derived.Deep.Slices
import Derived.Deep.Fields
import Derived.SizedLaws
import Derived.WideKeyArgs
import Derived.LaidMore
import Derived.Stop.Joined
import Derived.Test.YtkchaoajegkadaaGreatDoorJn19
import Derived.Test.YtkchaoajegkadaaGreatDoorJn4
import Derived.Lib.LaidTab
set_option linter.unusedSimpArgs false
set_option linter.unusedVariables false
namespace Go.Proofs.YtkchaoajegkadaaGreatDoor
-- LcC
open Go.RowKit
set_option maxRecDepth 100000
theorem sameP6 {w0 : World} {p q : Prg} {cs1 cs2 : List Value} {LA IA TA : Option Addr} {LC IC TC h : Nat} {ccs : List Value} {LA2 IA2 TA2 : Option Addr} {LC2 IC2 TC2 h2 : Nat} {ccs2 : List Value} (hp : ProgIn w0 cs1 p LA LC IA IC TA TC h ccs) (hq : ProgIn w0 cs2 q LA2 LC2 IA2 IC2 TA2 TC2 h2 ccs2) (e : p = q) :
    Calls Tryz.prog 12 #[.agg cs1.toArray, .agg cs2.toArray] w0 fun e w' => e = .returned (.bool true) ∧ Below w0.heap.size w0 w' := by
  subst e
  exact sameProg_any cs1 cs2 p LA LC IA IC TA TC h ccs LA2 LC2 IA2 IC2 TA2 TC2 h2 ccs2 w0 hp hq
theorem ans_no {p : Prg} {s : ByteArray} {n : Int} (h : PrintAns p s n) (hn : n ≠ 0) : s = ⟨#[]⟩ ∧ (n = 3 ∨ n = 2) := by
  rcases h with ⟨_, h1, h2⟩ | ⟨_, _, h1, h2⟩ | ⟨_, _, _, h2⟩
  · exact ⟨h1, .inl h2⟩
  · exact ⟨h1, .inr h2⟩
  · exact absurd h2 hn
theorem ans_yes {p : Prg} {s : ByteArray} (h : PrintAns p s 0) : (printT p).length ≤ 16384 ∧ parseT (mk (printT p)) = .inr p ∧ s = mk (printT p) := by
  rcases h with ⟨_, _, h2⟩ | ⟨_, _, _, h2⟩ | ⟨h1, h2, h3, _⟩
  · cases h2
  · cases h2
  · exact ⟨h1, h2, h3⟩
theorem ans_again {p : Prg} {s : ByteArray} {n : Int} (hl : (printT p).length ≤ 16384) (hp : parseT (mk (printT p)) = .inr p) (h : PrintAns p s n) : s = mk (printT p) ∧ n = 0 := by
  rcases h with ⟨h, _⟩ | ⟨_, h, _⟩ | ⟨_, _, h1, h2⟩
  · omega
  · exact absurd hp h
  · exact ⟨h1, h2⟩
set_option maxHeartbeats 4000000 in
theorem printBack_any {w0 : World} {cs : List Value} {p : Prg} {LA IA TA : Option Addr} {LC IC TC h : Nat} {ccs : List Value} (hp : ProgCapIn w0 cs p LA LC IA IC TA TC h ccs) (hs : ∀ s ∈ p.locs, s.size ≤ 140737488351232) (hn : p.name.size ≤ 140737488351232) (hT : TenAt w0) :
    Calls Tryz.prog 3 #[.agg cs.toArray] w0 fun e w' => e = .returned (.bool true) ∧ Below w0.heap.size w0 w' := by
  have hp0 := hp
  obtain ⟨a1, a2, a3, a4, a5, a6, a7, rfl⟩ := condShape hp.prog.cond
  have hcs := hp.prog.cs
  simp only [List.cons_append, List.nil_append] at hcs
  subst hcs
  have H := Own.start w0 none
  refine enterF Tryz.func3 rfl Tryz.ntmps3 rfl (fun a F => ?_);refine cSR fun K1 hK1=>?_;refine sBx H F rfl rfl rfl ?_;clear F a H; intro b1 a w F H;refine sAs F rfl rfl rfl (qNK hK1 ?_);clear hK1;clear F a;intro a F;refine cSeq (fun K2 hK2 => ?_);refine cSR fun K3 hK3=>?_;refine sCall Tryz.call7 F rfl rfl rfl (awake6_any _ (hT.below H.below)) ?_;rintro e w ⟨rfl, hb⟩;replace H := H.grow hb; clear hb;refine ⟨_, rfl, ?_⟩;clear F a; intro a F;refine sNot F rfl rfl rfl (qNK hK3 ?_);clear hK3;clear F a;intro a F
  refine cIf F rfl (fun h11 => ?_) (fun h11 => ?_)
  ·
   replace h11 := notT h11
   cases h11
  replace h11 := notF h11;refine wp_skip (hK2 _ _ ?_);clear hK2;refine cSeq (fun K4 hK4 => ?_);refine cSeq (fun K5 hK5 => ?_);refine cRegRO (by kernel_rfl) H ?_;replace H := H.drew
  refine eTake (k := 0) (i := 0) rfl (by kernel_rfl) F rfl rfl rfl rfl (fun w H => rLr Tryz.underlying29 rfl ?si F rfl (H.whole 0 rfl)) H (fun _ _ _ h => h) ?_
  case si => exact info_size Tryz.sizeOf29
  clear F a; intro a F;refine eOne (k := 1) (i := 1) rfl (by kernel_rfl) F rfl (oCall Tryz.call8 F rfl rfl (sizeProg_any _ p LA LC IA IC TA TC h _ 400 _ (hp0.own H) (by omega)) ?_);rintro e w ⟨r13, rfl, _, hb⟩;replace H := H.grow hb; clear hb;refine ⟨_, rfl, ?_⟩;clear F a; intro a F;refine ePartO (by kernel_rfl) H ?_;refine eTF 2 rfl (by kernel_rfl) F rfl rfl rfl (fun w=>rBin F rfl rfl bGtr) H qq0 (qTF 3 rfl (by kernel_rfl) rfl rfl rfl (fun a F w=>rMv F rfl) H qq0 ?_);clear F a;intro a F
  refine F.split 15 rfl ?_ ?_ <;> (clear F; intro h15 F)
  ·
   replace h15 := of_decide_eq_true h15;refine eSF 4 rfl (by kernel_rfl) F rfl rfl rfl H qq0 (qSF 5 rfl (by kernel_rfl) rfl rfl rfl H qq0 (qSF 6 rfl (by kernel_rfl) rfl rfl rfl H qq0 (qSF 7 rfl (by kernel_rfl) rfl rfl rfl H qq0 (qSF 8 rfl (by kernel_rfl) rfl rfl rfl H qq0 (qSF 9 rfl (by kernel_rfl) rfl rfl rfl H qq0 (qSF 10 rfl (by kernel_rfl) rfl rfl rfl H qq0 (qSF 11 rfl (by kernel_rfl) rfl rfl rfl H qq0 (qTF 12 rfl (by kernel_rfl) rfl rfl rfl (fun a F w=>rPk F rfl rfl) H qq0 ?_))))))));clear F a;intro a F;refine eNil (k := 13) (by kernel_rfl) ?_;refine hK5 _ _ ?_;clear hK5;refine cIfT F rfl ?_;refine cSR fun K6 hK6=>sAs F rfl rfl rfl (qNK hK6 ?_);clear hK6;clear F a;intro a F;refine wp_ret ?_;simp only [Exit.then];refine bRet Tryz.results3 F rfl ?_
   first | exact ⟨rfl, H.below⟩ | (rcases hn27 with rfl | rfl <;> first | exact ⟨rfl, H.below⟩ | (exfalso; simp at *; done)) | exact ⟨by congr 2; simp only [decide_eq_true_eq]; omega, H.below⟩
  replace h15 := of_decide_eq_false h15;refine eTF 4 rfl (by kernel_rfl) F rfl rfl rfl (fun w=>rFa (f := 0) (k := 0) Tryz.underlying29 rfl Tryz.sizeOf9 rfl rfl F rfl) H qq0 (qT 5 rfl (by kernel_rfl) rfl rfl rfl rfl (fun a F w H=>rLd Tryz.isAgg9 F rfl (H.cell 0 rfl rfl)) H qq0 (qT 6 rfl (by kernel_rfl) rfl rfl rfl rfl (fun a F w H=>rLenS Tryz.underlying9 F rfl) H qq0 (qTF 7 rfl (by kernel_rfl) rfl rfl rfl (fun a F w=>rFa (f := 1) (k := 1) Tryz.underlying29 rfl Tryz.sizeOf22 rfl rfl F rfl) H qq0 (qT 8 rfl (by kernel_rfl) rfl rfl rfl rfl (fun a F w H=>rLd Tryz.isAgg22 F rfl (H.cell 0 rfl rfl)) H qq0 ?_))));clear F a;intro a F;refine eOne (k := 9) (i := 9) rfl (by kernel_rfl) F rfl (oCall Tryz.call9 F rfl rfl (size6_any LA LC p.locs _ (RowsAt.own hp0.prog.locs H) hp0.prog.locsN) ?_);rintro e w ⟨r21, rfl, hb⟩;replace H := H.grow hb; clear hb;refine ⟨_, rfl, ?_⟩;clear F a; intro a F;refine eKeep H ?_;refine eTF 10 rfl (by kernel_rfl) F rfl rfl rfl (fun w=>rBin F rfl rfl bAddW) H qq0 (qTF 11 rfl (by kernel_rfl) rfl rfl rfl (fun a F w=>rBin F rfl rfl bGtr) H qq0 (qTF 12 rfl (by kernel_rfl) rfl rfl rfl (fun a F w=>rPk F rfl rfl) H qq0 ?_));clear F a;intro a F;refine eNil (k := 13) (by kernel_rfl) ?_;refine hK5 _ _ ?_;clear hK5
  refine cIf F rfl (fun h24 => ?_) (fun h24 => ?_)
  ·
   replace h24 := of_decide_eq_true h24;refine cSR fun K7 hK7=>sAs F rfl rfl rfl (qNK hK7 ?_);clear hK7;clear F a;intro a F;refine wp_ret ?_;simp only [Exit.then];refine bRet Tryz.results3 F rfl ?_
   first | exact ⟨rfl, H.below⟩ | (rcases hn27 with rfl | rfl <;> first | exact ⟨rfl, H.below⟩ | (exfalso; simp at *; done)) | exact ⟨by congr 2; simp only [decide_eq_true_eq]; omega, H.below⟩
  replace h24 := of_decide_eq_false h24;refine wp_skip (hK4 _ _ (cSR fun K8 hK8=>?_));clear hK4
  refine sLr Tryz.underlying29 rfl ?si F rfl rfl rfl (H.whole 0 rfl) ?_
  case si => exact info_size Tryz.sizeOf29
  clear F a; intro a F;refine sCall Tryz.call10 F rfl rfl rfl (print_any (hp0.prog.own H) hs hn (hT.below H.below)) ?_;rintro e w ⟨⟨s27, n27, rfl, hpr⟩, hb⟩;replace H := H.grow hb; clear hb;refine ⟨_, rfl, ?_⟩;clear F a; intro a F;refine sMv F rfl rfl rfl (qExt rfl rfl rfl rfl (qExt rfl rfl rfl rfl (qAs rfl rfl rfl (qAs rfl rfl rfl (qNK hK8 ?_)))));clear hK8;clear F a;intro a F;refine cSeq (fun K9 hK9 => ?_);refine cSR fun K10 hK10=>sMv F rfl rfl rfl (qBin rfl rfl rfl rfl bNeq (qNK hK10 ?_));clear hK10;clear F a;intro a F
  refine cIf F rfl (fun h31 => ?_) (fun h31 => ?_)
  ·
   replace h31 := bneT h31
   obtain ⟨rfl, hn27⟩ := ans_no hpr h31
   refine cSR fun K11 hK11=>sMv F rfl rfl rfl (qBin rfl rfl rfl rfl bStrEq (qMv rfl rfl rfl ?_));clear F a;intro a F
   refine F.split 34 rfl ?_ ?_ <;> (clear F; intro h34 F)
   ·
    replace h34 := beqT h34;refine sMv F rfl rfl rfl (qBin rfl rfl rfl rfl bEql (qMv rfl rfl rfl ?_));clear F a;intro a F
    refine F.split 37 rfl ?_ ?_ <;> (clear F; intro h37 F)
    ·
     replace h37 := beqT h37;refine sSk F rfl rfl (qSk rfl rfl (qPk rfl rfl rfl rfl (qPk rfl rfl rfl rfl (qAs rfl rfl rfl (qNK hK11 ?_)))));clear hK11;clear F a;intro a F;refine wp_ret ?_;simp only [Exit.then];refine bRet Tryz.results3 F rfl ?_
     first | exact ⟨rfl, H.below⟩ | (rcases hn27 with rfl | rfl <;> first | exact ⟨rfl, H.below⟩ | (exfalso; simp at *; done)) | exact ⟨by congr 2; simp only [decide_eq_true_eq]; omega, H.below⟩
    replace h37 := beqF h37;refine sMv F rfl rfl rfl (qBin rfl rfl rfl rfl bEql (qPk rfl rfl rfl rfl (qPk rfl rfl rfl rfl (qAs rfl rfl rfl (qNK hK11 ?_)))));clear hK11;clear F a;intro a F;refine wp_ret ?_;simp only [Exit.then];refine bRet Tryz.results3 F rfl ?_
    first | exact ⟨rfl, H.below⟩ | (rcases hn27 with rfl | rfl <;> first | exact ⟨rfl, H.below⟩ | (exfalso; simp at *; done)) | exact ⟨by congr 2; simp only [decide_eq_true_eq]; omega, H.below⟩
   replace h34 := beqF h34
   first | exact absurd rfl h34 | cases h34 | exact absurd h34 (by decide)
  replace h31 := bneF h31;subst h31
  obtain ⟨hlen, hpt, rfl⟩ := ans_yes hpr
  have hsz : (mk (printT p)).size = (printT p).length := mk_size _
  refine wp_skip (hK9 _ _ (cSR fun K12 hK12=>sMv F rfl rfl rfl ?_));clear hK9;clear F a;intro a F;refine sCall Tryz.call11 F rfl rfl rfl (pparse2_any (mk (printT p)) (by simp only [maxLen]; omega) H) ?_;rintro e w ⟨q, pl, er, mm, rfl, hh, H, hpp⟩
  obtain ⟨hq, rfl, rfl⟩ := pparse_in hpp hpt
  have hq := hq.symm
  subst hq;refine ⟨_, rfl, ?_⟩;clear F a; intro a F;refine sMv F rfl rfl rfl (qExt rfl rfl rfl rfl (qExt rfl rfl rfl rfl (qExt rfl rfl rfl rfl ?_)));clear F a;intro a F;refine sAl H Tryz.zeroValue29 F rfl rfl ?_;clear F a H; intro b5 a w F H
  refine sSr H 0 ?si F rfl rfl rfl ?s1 rfl rfl ?_
  case si => exact info_size Tryz.sizeOf29
  case s1 => first | rfl | (repeat (first | exact one_nil | (apply one_cons; · first | rfl | assumption | exact one_bif rfl rfl)))
  clear H; intro w H;refine sAs F rfl rfl rfl (qAs rfl rfl rfl (qNK hK12 (qSR fun K13 hK13=>?_)));clear hK12;clear F a;intro a F
  refine sLr Tryz.underlying29 rfl ?si F rfl rfl rfl (H.whole 0 rfl) ?_
  case si => exact info_size Tryz.sizeOf29
  clear F a; intro a F;refine sCall Tryz.call10 F rfl rfl rfl (print_any (progIn_of (H.prw 1 rfl) (psz_of hpt)) hs hn (hT.below H.below)) ?_;rintro e w ⟨⟨s50, n50, rfl, hpr2⟩, hb⟩
  obtain ⟨rfl, rfl⟩ := ans_again hlen hpt hpr2; replace H := H.grow hb; clear hb
  refine ⟨_, rfl, ?_⟩;clear F a; intro a F;refine sMv F rfl rfl rfl (qExt rfl rfl rfl rfl (qExt rfl rfl rfl rfl (qAs rfl rfl rfl (qAs rfl rfl rfl (qNK hK13 (qSR fun K14 hK14=>qMv rfl rfl rfl (qBin rfl rfl rfl rfl bEql (qMv rfl rfl rfl ?_))))))));clear hK13;clear F a;intro a F
  refine F.split 55 rfl ?_ ?_ <;> (clear F; intro h55 F)
  ·
   replace h55 := beqT h55;refine sMv F rfl rfl rfl (qBin rfl rfl rfl rfl bEql (qPk rfl rfl rfl rfl (qMv rfl rfl rfl ?_)));clear F a;intro a F
   refine F.split 59 rfl ?_ ?_ <;> (clear F; intro h59 F)
   ·
    replace h59 := beqT h59
    refine sLr Tryz.underlying29 rfl ?si F rfl rfl rfl (H.whole 2 rfl) ?_
    case si => exact info_size Tryz.sizeOf29
    clear F a; intro a F
    refine sLr Tryz.underlying29 rfl ?si F rfl rfl rfl (H.whole 0 rfl) ?_
    case si => exact info_size Tryz.sizeOf29
    clear F a; intro a F;refine sCall Tryz.call12 F rfl rfl rfl (sameP6 (hp0.prog.own H) (progIn_of (H.prw 1 rfl) (psz_of hpt)) rfl) ?_;rintro e w ⟨rfl, hb⟩;replace H := H.grow hb; clear hb;refine ⟨_, rfl, ?_⟩;clear F a; intro a F;refine sPk F rfl rfl rfl rfl (qMv rfl rfl rfl ?_);clear F a;intro a F
    refine F.split 64 rfl ?_ ?_ <;> (clear F; intro h64 F)
    ·
     refine sMv F rfl rfl rfl (qBin rfl rfl rfl rfl bEql (qPk rfl rfl rfl rfl (qMv rfl rfl rfl ?_)));clear F a;intro a F
     refine F.split 68 rfl ?_ ?_ <;> (clear F; intro h68 F)
     ·
      replace h68 := beqT h68;refine sMv F rfl rfl rfl (qMv rfl rfl rfl (qBin rfl rfl rfl rfl bStrEq (qPk rfl rfl rfl rfl (qMv rfl rfl rfl ?_))));clear F a;intro a F
      refine F.split 73 rfl ?_ ?_ <;> (clear F; intro h73 F)
      ·
       replace h73 := beqT h73;refine sMv F rfl rfl rfl (qLenS Tryz.underlying9 rfl rfl rfl (qBin rfl rfl rfl rfl bLeq (qPk rfl rfl rfl rfl (qAs rfl rfl rfl (qNK hK14 ?_)))));clear hK14;clear F a;intro a F;refine wp_ret ?_;refine bRet Tryz.results3 F rfl ?_
       first | exact ⟨rfl, H.below⟩ | (rcases hn27 with rfl | rfl <;> first | exact ⟨rfl, H.below⟩ | (exfalso; simp at *; done)) | exact ⟨by congr 2; simp only [decide_eq_true_eq]; omega, H.below⟩
      replace h73 := beqF h73
      first | exact absurd rfl h73 | cases h73 | exact absurd h73 (by decide)
     replace h68 := beqF h68
     first | exact absurd rfl h68 | cases h68 | exact absurd h68 (by decide)
    first | exact absurd rfl h64 | cases h64 | exact absurd h64 (by decide)
   replace h59 := beqF h59
   first | exact absurd rfl h59 | cases h59 | exact absurd h59 (by decide)
  replace h55 := beqF h55
  first | exact absurd rfl h55 | cases h55 | exact absurd h55 (by decide)
theorem printBack_any' {w0 : World} {cs : List Value} {p : Prg} (hP : ProgCap w0 cs p) (hs : ∀ s ∈ p.locs, s.size ≤ 140737488351232) (hn : p.name.size ≤ 140737488351232) (hT : TenAt w0) :
    Calls Tryz.prog 3 #[.agg cs.toArray] w0 fun e w' => e = .returned (.bool true) ∧ Below w0.heap.size w0 w' := by
  obtain ⟨LA, LC, IA, IC, TA, TC, h, ccs, hp⟩ := hP
  exact printBack_any hp hs hn hT
-- OpK
open Go.Proofs.Tryz
open Go.RowKit Go.WideShapes Go.ChangeShapes
section
variable {H : Type} {enc : TypeId × Value → H} {P : Program}
theorem post_of_below {f : Func} {s : ChangeSpec} {apart fresh handsOn again : Bool} {W W' : World} {args : Array Value} {v : Value} {ds gs : List (DataW H)} {before pa pv : List MemPlace}
    (hW : DataW.Whole enc P f.params.toList s.vars apart W args.toList ds gs before)
    (hres : ∀ (b : Nat) (sp : Nat → Bool) (hd : Bool), DataW.TrodAll enc P W' b sp hd f.resultTypes.toList (v.resultList f.resultTypes.size) (s.fn H (ds ++ gs)).results [])
    (hargs : ∀ sp : Nat → Bool, (∀ p ∈ before, sp p.block = true) → DataW.TrodAll enc P W' 0 sp true f.params.toList args.toList (s.fn H (ds ++ gs)).args pa)
    (hvars : ∀ sp : Nat → Bool, (∀ p ∈ before, sp p.block = true) → DataW.TrodVars enc P W' sp s.vars (s.fn H (ds ++ gs)).vars pv)
    (hps : before = pa ++ pv) (hb : Below W.heap.size W W')
    (hok : ∀ (j : Nat) (t : TypeId) (r : Value), f.resultTypes[j]? = some t → (v.resultList f.resultTypes.size)[j]? = some r → Value.okWide P W' .any 0 t r) :
    s.post enc P f apart fresh handsOn again W args v W' := by
  have hlt : ∀ p ∈ before, p.block < W.heap.size := fun p hp => hW.lt p hp
  have hold : ∀ p ∈ before, (fun b => decide (b < W.heap.size)) p.block = true := fun p hp => by simpa using hlt p hp
  refine ⟨ds, gs, before, [], pa, pv, hW, hres _ _ _, hargs _ hold, hvars _ hold, World.keptBut_mono (fun p hp => ⟨hp, ?_⟩) (hb.frame (· ∈ before)), fun _ => ?_⟩
  · rw [hps, List.mem_append] at hp
    exact Or.inr hp
  · obtain ⟨_, _, _, _, _, hz, hn⟩ := hW
    refine ⟨hok, _, _, ([] ++ pa) ++ pv, ⟨[] ++ pa, pv, trodAll_append (hargs _ (fun _ _ => rfl)) (hres _ _ _), hvars _ (fun _ _ => rfl), rfl, ?_, ?_⟩, ?_⟩
    · intro b off hp
      have hin : MemPlace.cell b off ∈ before := by rw [hps]; simpa using hp
      rw [hb.frozen (hlt _ hin)]
      exact hz b off hin
    · intro ha
      have := hn ha
      rw [hps] at this
      simpa using this
    · intro p hp _
      rw [hps]
      simpa using hp
end
theorem row_knob : ownKnob Tryz.prog.godebug = none := by kernel_rfl
end Go.Proofs.YtkchaoajegkadaaGreatDoor

namespace Go.Proofs.YtkchaoajegkadaaGreatDoor
open Go.Proofs.Tryz
open Go.ChangeShapes Go.WideShapes Go.ChangeAt Go.RowKit Go.Deep

section
variable {H : Type} {enc : TypeId × Value → H} {P : Program} {w : World} {spare : Nat → Bool} {held : Bool} {fuel : Nat} {t : TypeId} {cs : List Value} {x : DataW H × List MemPlace}
theorem o_struct {fs : Array Field} (ht : P.underlying t = some (.struct fs)) (h : DataW.trod enc P w 0 spare held fuel t cs = some x) :
    cs.length = P.cellsOf t ∧ ∃ n, fuel = n + 1 ∧ ∀ (i : Nat) (f : Field), fs[i]? = some f → ∃ y, DataW.trod enc P w 0 spare held n f.type ((cs.drop f.offset).take (P.cellsOf f.type)) = some y := by
  obtain ⟨xs, n, hn, _, hl, hxl, hf⟩ := DataW.trod_struct ht h
  refine ⟨hl, n, hn, fun i f hi => ?_⟩
  have hlt : i < xs.length := by rw [hxl]; exact (Array.getElem?_eq_some_iff.1 hi).1
  exact ⟨_, (hf i f hi).trans (List.getElem?_eq_getElem hlt)⟩
theorem o_slice {e : TypeId} (ht : P.underlying t = some (.slice e)) (hpos : 0 < P.cellsOf e) (h : DataW.trod enc P w 0 spare held fuel t cs = some x) :
    ∃ A len cap, cs = [.slice A len cap] ∧ len ≤ cap ∧ cap ≤ maxLen ∧ (A = none → len = 0 ∧ cap = 0) ∧
      ∃ m, fuel = m + 1 ∧ ∀ i, i < len → ∃ b off cs' y, A = some ⟨b, off, none⟩ ∧ b < w.heap.size ∧ cs'.length = P.cellsOf e ∧ w.rangeAt b (off + i * P.cellsOf e) cs' ∧ DataW.trod enc P w 0 spare held m e cs' = some y := by
  rcases DataW.trod_slice ht h with ⟨rfl, _⟩ | ⟨a, len, cap, elems, rest, n, hn, rfl, _, hb, hl, hm, hlen, hel, _, _⟩
  · cases fuel with
    | zero => simp [DataW.trod] at h
    | succ m => exact ⟨none, 0, 0, rfl, Nat.le_refl _, Nat.zero_le _, fun _ => ⟨rfl, rfl⟩, m, rfl, fun i hi => by omega⟩
  · refine ⟨some a, len, cap, rfl, hl, hm, (fun h => by cases h), n, hn, fun i hi => ?_⟩
    obtain ⟨b, o, sp⟩ := a
    have hsp : sp = none := by
      have he := hel 0 (by omega)
      rw [List.getElem?_eq_getElem (by omega)] at he
      obtain ⟨cs', hc, _⟩ := Option.bind_eq_some_iff.1 he
      obtain ⟨_, hcl, hat⟩ := World.cells?_some hc
      have h0 := hat 0 hpos
      rw [List.getElem?_eq_getElem (by omega)] at h0
      simpa [Addr.add] using World.cell?_spot h0
    subst hsp
    have he := hel i hi
    rw [List.getElem?_eq_getElem (by omega)] at he
    obtain ⟨cs', hc, ht'⟩ := Option.bind_eq_some_iff.1 he
    obtain ⟨_, hcl, hat⟩ := World.cells?_some hc
    have hc0 : w.cell? ⟨b, o + i * P.cellsOf e + 0, none⟩ = some (cs'[0]'(by omega)) := by
      have := hat 0 hpos
      rw [List.getElem?_eq_getElem (by omega), Addr.add_mid, Addr.add_mid] at this
      exact this
    refine ⟨b, o, cs', _, rfl, World.block_lt_of_cell? w _ hc0, hcl, fun j v hj => ?_, ht'⟩
    have hjl : j < cs'.length := (List.getElem?_eq_some_iff.1 hj).1
    have := hat j (by omega)
    rw [Addr.add_mid, Addr.add_mid, hj] at this
    exact this
theorem o_u8 (ht : P.underlying t = some (.int .u8)) (h : DataW.trod enc P w 0 spare held fuel t cs = some x) : ∃ u : UInt8, cs = [b8 u] := by
  obtain ⟨n, rfl, _, hwf⟩ := DataW.trod_int ht h
  simp only [Lit.wf, Bool.and_eq_true, decide_eq_true_eq] at hwf
  rw [show IntKind.u8.min = 0 from by decide, show IntKind.u8.max = 255 from by decide] at hwf
  refine ⟨UInt8.ofNat n.toNat, ?_⟩
  have : (UInt8.ofNat n.toNat).toNat = n.toNat := by rw [UInt8.toNat_ofNat']; omega
  simp only [b8, this]
  rw [Int.toNat_of_nonneg hwf.1]
theorem o_bool (ht : P.underlying t = some .bool) (h : DataW.trod enc P w 0 spare held fuel t cs = some x) : ∃ b : Bool, cs = [.bool b] := by
  obtain ⟨b, h1, _⟩ := DataW.trod_bool ht h
  exact ⟨b, h1⟩
theorem o_str (ht : P.underlying t = some .string) (h : DataW.trod enc P w 0 spare held fuel t cs = some x) : ∃ s : ByteArray, cs = [.string s] ∧ s.size ≤ maxLen := by
  obtain ⟨s, h1, _, h2⟩ := DataW.trod_string ht h
  exact ⟨s, h1, h2⟩
end

theorem len2 {α : Type} {l : List α} (h : l.length = 2) : ∃ a b, l = [a, b] := by
  match l, h with
  | [a, b], _ => exact ⟨a, b, rfl⟩
theorem len10' {α : Type} {l : List α} (h : l.length = 10) : ∃ a0 a1 a2 a3 a4 a5 a6 a7 a8 a9, l = [a0, a1, a2, a3, a4, a5, a6, a7, a8, a9] := by
  match l, h with
  | [a0, a1, a2, a3, a4, a5, a6, a7, a8, a9], _ => exact ⟨a0, a1, a2, a3, a4, a5, a6, a7, a8, a9, rfl⟩
theorem len5' {α : Type} {l : List α} (h : l.length = 5) : ∃ a0 a1 a2 a3 a4, l = [a0, a1, a2, a3, a4] := by
  match l, h with
  | [a0, a1, a2, a3, a4], _ => exact ⟨a0, a1, a2, a3, a4, rfl⟩
instance : Inhabited Ins := ⟨⟨0, 0, 0, false, 0, false, 0, 0, 0, 0⟩⟩
instance : Inhabited Cnd := ⟨.mk 0 0 0 0 []⟩
theorem cU8 : Tryz.prog.cellsOf 5 = 1 := by kernel_rfl
theorem cBool : Tryz.prog.cellsOf 4 = 1 := by kernel_rfl
theorem cStr : Tryz.prog.cellsOf 9 = 1 := by kernel_rfl
theorem cArg : Tryz.prog.cellsOf 42 = 2 := by kernel_rfl
theorem cIns : Tryz.prog.cellsOf 44 = 10 := by kernel_rfl
theorem cInses : Tryz.prog.cellsOf 52 = 1 := by kernel_rfl
theorem cInsess : Tryz.prog.cellsOf 24 = 1 := by kernel_rfl
theorem cStrs : Tryz.prog.cellsOf 22 = 1 := by kernel_rfl
theorem cU8s : Tryz.prog.cellsOf 23 = 1 := by kernel_rfl
theorem cCond : Tryz.prog.cellsOf 27 = 5 := by kernel_rfl
theorem cConds : Tryz.prog.cellsOf 25 = 1 := by kernel_rfl
theorem cProg : Tryz.prog.cellsOf 29 = 10 := by kernel_rfl
section
variable {H : Type} {enc : TypeId × Value → H} {w : World} {spare : Nat → Bool} {held : Bool} {fuel : Nat} {cs : List Value} {x : DataW H × List MemPlace}
theorem o_arg (h : DataW.trod enc Tryz.prog w 0 spare held fuel 42 cs = some x) : ∃ (r : Bool) (n : UInt8), cs = [.bool r, b8 n] := by
  obtain ⟨hl, m, _, hf⟩ := o_struct underlying42 h
  rw [cArg] at hl
  obtain ⟨a, b, rfl⟩ := len2 hl
  obtain ⟨y0, h0⟩ := hf 0 _ rfl
  obtain ⟨y1, h1⟩ := hf 1 _ rfl
  replace h0 : DataW.trod enc Tryz.prog w 0 spare held m 4 (([a, b].drop 0).take (Tryz.prog.cellsOf 4)) = _ := h0
  replace h1 : DataW.trod enc Tryz.prog w 0 spare held m 5 (([a, b].drop 1).take (Tryz.prog.cellsOf 5)) = _ := h1
  rw [cBool] at h0;rw [cU8] at h1
  obtain ⟨r, e0⟩ := o_bool underlying4 h0
  obtain ⟨n, e1⟩ := o_u8 underlying5 h1
  simp only [List.drop, List.take, List.cons.injEq, and_true] at e0 e1
  exact ⟨r, n, by rw [e0, e1]⟩
theorem o_ins (h : DataW.trod enc Tryz.prog w 0 spare held fuel 44 cs = some x) : ∃ i : Ins, cs = i.cells := by
  obtain ⟨hl, m, _, hf⟩ := o_struct underlying44 h
  rw [cIns] at hl
  obtain ⟨a0, a1, a2, a3, a4, a5, a6, a7, a8, a9, rfl⟩ := len10' hl
  have key : ∀ o, DataW.trod enc Tryz.prog w 0 spare held m 5 (([a0, a1, a2, a3, a4, a5, a6, a7, a8, a9].drop o).take (Tryz.prog.cellsOf 5)) ≠ none → ∃ u : UInt8, ([a0, a1, a2, a3, a4, a5, a6, a7, a8, a9].drop o).take 1 = [b8 u] := by
    intro o ho
    obtain ⟨y, hy⟩ := Option.ne_none_iff_exists'.1 ho
    rw [cU8] at hy
    exact o_u8 underlying5 hy
  have karg : ∀ o, DataW.trod enc Tryz.prog w 0 spare held m 42 (([a0, a1, a2, a3, a4, a5, a6, a7, a8, a9].drop o).take (Tryz.prog.cellsOf 42)) ≠ none → ∃ (r : Bool) (n : UInt8), ([a0, a1, a2, a3, a4, a5, a6, a7, a8, a9].drop o).take 2 = [.bool r, b8 n] := by
    intro o ho
    obtain ⟨y, hy⟩ := Option.ne_none_iff_exists'.1 ho
    rw [cArg] at hy
    exact o_arg hy
  have nn : ∀ {z : Option (DataW H × List MemPlace)}, (∃ y, z = some y) → z ≠ none := fun ⟨y, hy⟩ => by rw [hy]; exact fun h => by cases h
  obtain ⟨u0, e0⟩ := key 0 (nn (hf 0 _ rfl))
  obtain ⟨u1, e1⟩ := key 1 (nn (hf 1 _ rfl))
  obtain ⟨u2, e2⟩ := key 2 (nn (hf 2 _ rfl))
  obtain ⟨r3, n3, e3⟩ := karg 3 (nn (hf 3 _ rfl))
  obtain ⟨r4, n4, e4⟩ := karg 5 (nn (hf 4 _ rfl))
  obtain ⟨u5, e5⟩ := key 7 (nn (hf 5 _ rfl))
  obtain ⟨u6, e6⟩ := key 8 (nn (hf 6 _ rfl))
  obtain ⟨u7, e7⟩ := key 9 (nn (hf 7 _ rfl))
  simp only [List.drop, List.take, List.cons.injEq, and_true] at e0 e1 e2 e3 e4 e5 e6 e7
  obtain ⟨e3, e3'⟩ := e3
  obtain ⟨e4, e4'⟩ := e4
  subst e0 e1 e2 e3 e3' e4 e4' e5 e6 e7
  exact ⟨⟨u0, u1, u2, r3, n3, r4, n4, u5, u6, u7⟩, rfl⟩
theorem o_rows {α : Type} [Inhabited α] {t e : TypeId} {f : α → List Value} {n : Nat} (ht : Tryz.prog.underlying t = some (.slice e)) (hn : Tryz.prog.cellsOf e = n) (hpos : 0 < n)
    (he : ∀ {fuel : Nat} {cs : List Value} {x : DataW H × List MemPlace}, DataW.trod enc Tryz.prog w 0 spare held fuel e cs = some x → ∃ a, cs = f a)
    (h : DataW.trod enc Tryz.prog w 0 spare held fuel t cs = some x) : ∃ A C, ∃ l : List α, cs = [.slice A l.length C] ∧ RowsAt w A n (l.map f) ∧ l.length ≤ C ∧ C ≤ maxLen ∧ (A = none → C = 0) := by
  obtain ⟨A, len, cap, rfl, hl, hc, hA, m, _, hi⟩ := o_slice ht (by omega) h
  rw [hn] at hi
  obtain ⟨T, hT⟩ := choose_lt (p := fun i (a : α) => ∃ b off, A = some ⟨b, off, none⟩ ∧ w.rangeAt b (off + i * n) (f a)) (fun i him => by
    obtain ⟨b, off, cs', y, h1, _, _, h2, h3⟩ := hi i him
    obtain ⟨a, rfl⟩ := he h3
    exact ⟨a, b, off, h1, h2⟩)
  refine ⟨A, cap, (List.range len).map T, by simp, fun j c hj => ?_, by simpa using hl, hc, fun h => (hA h).2⟩
  rw [List.map_map, List.getElem?_map] at hj
  obtain ⟨q, hq, rfl⟩ := Option.map_eq_some_iff.1 hj
  obtain ⟨hjl, rfl⟩ := List.getElem?_eq_some_iff.1 hq
  rw [List.length_range] at hjl;rw [List.getElem_range]
  exact hT j hjl
theorem o_bytes (h : DataW.trod enc Tryz.prog w 0 spare held fuel 23 cs = some x) : ∃ A C, ∃ l : List UInt8, cs = [.slice A l.length C] ∧ RowsAt w A 1 (l.map fun x => [b8 x]) ∧ l.length ≤ C ∧ C ≤ maxLen ∧ (A = none → C = 0) :=
  o_rows underlying23 cU8 (by omega) (fun h => o_u8 underlying5 h) h
theorem o_inses (h : DataW.trod enc Tryz.prog w 0 spare held fuel 52 cs = some x) : ∃ A C, ∃ l : List Ins, cs = [.slice A l.length C] ∧ RowsAt w A 10 (l.map Ins.cells) ∧ l.length ≤ C ∧ C ≤ maxLen ∧ (A = none → C = 0) :=
  o_rows underlying52 cIns (by omega) (fun h => o_ins h) h
theorem CondAt.succ : ∀ (h : Nat) (cs : List Value) (c : Cnd), CondAt w h cs c → CondAt w (h + 1) cs c
  | 0, _, _, hc => hc.elim
  | h + 1, cs, .mk k t n v kids, hc => by
    obtain ⟨A, C, h1, h2, h3⟩ := hc
    refine ⟨A, C, h1, h2, fun j kid hj => ?_⟩
    obtain ⟨b, off, cs', h4, h5, h6⟩ := h3 j kid hj
    exact ⟨b, off, cs', h4, h5, CondAt.succ h cs' kid h6⟩
theorem CondAt.mono {a b : Nat} (h : a ≤ b) {cs : List Value} {c : Cnd} (hc : CondAt w a cs c) : CondAt w b cs c := by
  induction h with
  | refl => exact hc
  | step _ ih => exact CondAt.succ _ _ _ ih
end
theorem laidOutP : laidOutB Tryz.prog = true := by kernel_rfl
end Go.Proofs.YtkchaoajegkadaaGreatDoor

namespace Go.Proofs.YtkchaoajegkadaaGreatDoor
open Go.Proofs.Tryz
open Go.ChangeShapes Go.WideShapes Go.ChangeAt Go.RowKit Go.Deep
set_option maxRecDepth 100000

theorem laid_at {P : Program} {W : World} {n : String} {d : DataW Unit} : ∀ {l : List (String × DataW Unit)} {ps : List MemPlace}, DataW.LaidVars P W l ps → (n, d) ∈ l →
    ∃ g t cs fuel p, P.globalNamed n = some g ∧ (P.globals[g]?).map (·.type) = some t ∧ W.var? P n = some cs ∧ DataW.trod (fun _ => ()) P W 0 (fun _ => true) false fuel t cs.toList = some (d, p)
  | [], _, _, hm => by cases hm
  | (n0, d0) :: r, ps, ⟨g, t, cs, f, p, q, h1, h2, h3, h4, h5, _⟩, hm => by
    rcases List.mem_cons.1 hm with e | e
    · cases e; exact ⟨g, t, cs, f, p, h1, h2, h3, h4⟩
    · exact laid_at h5 e
section
variable {H : Type} {enc : TypeId × Value → H} {W : World} {v : Value} {d : DataW H} {p : List MemPlace}
end
-- OpG
open Go.ChangeShapes Go.WideShapes Go.ChangeAt Go.RowKit Go.Deep
set_option maxRecDepth 100000

section
variable {H : Type} {enc : TypeId × Value → H} {w : World} {spare : Nat → Bool} {held : Bool} {fuel : Nat} {cs : List Value} {x : DataW H × List MemPlace}
theorem CapAt.succ : ∀ (h : Nat) (cs : List Value) (c : Cnd), CapAt w h cs c → CapAt w (h + 1) cs c
  | 0, _, _, hc => hc.elim
  | h + 1, cs, .mk k t n v kids, hc => by
    obtain ⟨A, C, h1, h2, h2', h3⟩ := hc
    refine ⟨A, C, h1, h2, h2', fun j kid hj => ?_⟩
    obtain ⟨b, off, cs', h4, h5, h6⟩ := h3 j kid hj
    exact ⟨b, off, cs', h4, h5, CapAt.succ h cs' kid h6⟩
theorem CapAt.mono {a b : Nat} (h : a ≤ b) {cs : List Value} {c : Cnd} (hc : CapAt w a cs c) : CapAt w b cs c := by
  induction h with
  | refl => exact hc
  | step _ ih => exact CapAt.succ _ _ _ ih
theorem o_condK : ∀ (fuel : Nat) {cs : List Value} {x : DataW H × List MemPlace}, DataW.trod enc Tryz.prog w 0 spare held fuel 27 cs = some x → ∃ c : Cnd, CapAt w fuel cs c := by
  intro fuel
  induction fuel using Nat.strongRecOn with
  | ind fuel ih =>
    intro cs x h
    obtain ⟨hl, m, rfl, hf⟩ := o_struct Tryz.underlying27 h
    rw [cCond] at hl
    obtain ⟨a0, a1, a2, a3, a4, rfl⟩ := len5' hl
    have key : ∀ o, DataW.trod enc Tryz.prog w 0 spare held m 5 (([a0, a1, a2, a3, a4].drop o).take (Tryz.prog.cellsOf 5)) ≠ none → ∃ u : UInt8, ([a0, a1, a2, a3, a4].drop o).take 1 = [b8 u] := by
      intro o ho
      obtain ⟨y, hy⟩ := Option.ne_none_iff_exists'.1 ho
      rw [cU8] at hy
      exact o_u8 Tryz.underlying5 hy
    have nn : ∀ {z : Option (DataW H × List MemPlace)}, (∃ y, z = some y) → z ≠ none := fun ⟨y, hy⟩ => by rw [hy]; exact fun h => by cases h
    obtain ⟨u0, e0⟩ := key 0 (nn (hf 0 _ rfl))
    obtain ⟨u1, e1⟩ := key 1 (nn (hf 1 _ rfl))
    obtain ⟨u2, e2⟩ := key 2 (nn (hf 2 _ rfl))
    obtain ⟨u3, e3⟩ := key 3 (nn (hf 3 _ rfl))
    obtain ⟨y4, h4⟩ := hf 4 _ rfl
    replace h4 : DataW.trod enc Tryz.prog w 0 spare held m 25 (([a0, a1, a2, a3, a4].drop 4).take (Tryz.prog.cellsOf 25)) = _ := h4
    rw [cConds] at h4
    obtain ⟨A, len, cap, e4, hle, hc, hA, m2, rfl, hi⟩ := o_slice Tryz.underlying25 (by rw [cCond]; omega) h4
    rw [cCond] at hi
    simp only [List.drop, List.take, List.cons.injEq, and_true] at e0 e1 e2 e3 e4
    subst e0 e1 e2 e3 e4
    obtain ⟨T, hT⟩ := choose_lt (p := fun i (c : Cnd) => ∃ b off cs', A = some ⟨b, off, none⟩ ∧ w.rangeAt b (off + i * 5) cs' ∧ CapAt w (m2 + 1) cs' c) (fun i him => by
      obtain ⟨b, off, cs', y, h1, _, _, h2, h3⟩ := hi i him
      obtain ⟨c, hcc⟩ := ih m2 (by omega) h3
      exact ⟨c, b, off, cs', h1, h2, hcc.mono (by omega)⟩)
    refine ⟨.mk u0 u1 u2 u3 ((List.range len).map T), A, cap, by simp, by rw [List.length_map, List.length_range]; exact hle, by unfold maxLen at hc; omega, fun j kid hj => ?_⟩
    rw [List.getElem?_map] at hj
    obtain ⟨q, hq, rfl⟩ := Option.map_eq_some_iff.1 hj
    obtain ⟨hjl, rfl⟩ := List.getElem?_eq_some_iff.1 hq
    rw [List.length_range] at hjl;rw [List.getElem_range]
    exact hT j hjl
end
section
variable {H : Type} {enc : TypeId × Value → H} {W : World} {v : Value} {d : DataW H} {p : List MemPlace}
theorem a_cond (hv : Value.okWide Tryz.prog W .any 0 27 v) (h : DataW.Trod enc Tryz.prog W 0 (fun _ => true) true 27 v d p) : ∃ cs c k, v = .agg cs.toArray ∧ CapAt W k cs c := by
  obtain ⟨cs, rfl, _⟩ := okWide_struct Tryz.underlying27 hv
  obtain ⟨fuel, hf⟩ := h
  obtain ⟨c, hc⟩ := o_condK fuel hf
  exact ⟨cs.toList, c, fuel, by simp, hc⟩
theorem a_str (hv : Value.okWide Tryz.prog W .any 0 9 v) (h : DataW.Trod enc Tryz.prog W 0 (fun _ => true) true 9 v d p) : ∃ s : ByteArray, v = .string s ∧ s.size ≤ maxLen := by
  obtain ⟨fuel, hf⟩ := h
  obtain ⟨s, h1, h2⟩ := o_str Tryz.underlying9 hf
  obtain ⟨a, rfl⟩ := okWide_string Tryz.underlying9 hv
  simp only [Value.cells, List.cons.injEq, Value.string.injEq, and_true] at h1
  exact ⟨s, by rw [h1], h2⟩
end
-- OpC
open Go.ChangeShapes Go.WideShapes Go.ChangeAt Go.RowKit Go.Deep
set_option maxRecDepth 100000

section
variable {H : Type} {enc : TypeId × Value → H} {w : World} {spare : Nat → Bool} {held : Bool} {fuel : Nat} {cs : List Value} {x : DataW H × List MemPlace}
theorem o_threadsK (h : DataW.trod enc Tryz.prog w 0 spare held fuel 24 cs = some x) : ∃ A C, ∃ l : List (List Ins), cs = [.slice A l.length C] ∧ ThreadsCap w A l ∧ l.length ≤ C ∧ C ≤ maxLen ∧ (A = none → C = 0) := by
  obtain ⟨A, len, cap, rfl, hl, hc, hA, m, _, hi⟩ := o_slice Tryz.underlying24 (by rw [cInses]; omega) h
  rw [cInses] at hi
  obtain ⟨T, hT⟩ := choose_lt (p := fun i (t : List Ins) => ∃ b off B C, A = some ⟨b, off, none⟩ ∧ w.cell? ⟨b, off + i * 1, none⟩ = some (.slice B t.length C) ∧ RowsAt w B 10 (t.map Ins.cells) ∧ t.length ≤ C ∧ C ≤ 9223372036854775807) (fun i him => by
    obtain ⟨b, off, cs', y, h1, _, _, h2, h3⟩ := hi i him
    obtain ⟨B, C, l, rfl, h4, h5, h6, _⟩ := o_inses h3
    exact ⟨l, b, off, B, C, h1, by have := h2 0 _ rfl; rwa [Nat.add_zero] at this, h4, h5, by unfold maxLen at h6; omega⟩)
  refine ⟨A, cap, (List.range len).map T, by simp, fun j c hj => ?_, by simpa using hl, hc, fun h => (hA h).2⟩
  rw [List.getElem?_map] at hj
  obtain ⟨q, hq, rfl⟩ := Option.map_eq_some_iff.1 hj
  obtain ⟨hjl, rfl⟩ := List.getElem?_eq_some_iff.1 hq
  rw [List.length_range] at hjl;rw [List.getElem_range]
  exact hT j hjl
end
section
variable {H : Type} {enc : TypeId × Value → H} {W : World} {v : Value} {d : DataW H} {p : List MemPlace}
end
-- OpY
open Go.ChangeShapes Go.WideShapes Go.ChangeAt Go.RowKit Go.Deep
set_option maxRecDepth 100000
theorem wAll_mem {H : Type} {P : Program} {e : TypeId} {d : DataW H} {n : Nat} (hn : n ∈ d.weights P e) : ∀ {l : List (DataW H)}, d ∈ l → n ∈ DataW.weightsAll P e l
  | [], h => by cases h
  | x :: r, h => by
    rw [DataW.weightsAll]
    cases List.mem_cons.1 h with
    | inl e => subst e; exact List.mem_append_left _ hn
    | inr e => exact List.mem_append_right _ (wAll_mem hn e)
section
variable {H : Type} {enc : TypeId × Value → H} {P : Program} {w : World} {spare : Nat → Bool} {held : Bool} {fuel : Nat} {t : TypeId} {cs : List Value} {x : DataW H × List MemPlace}
theorem o_sliceW {e : TypeId} (ht : P.underlying t = some (.slice e)) (hpos : 0 < P.cellsOf e) (h : DataW.trod enc P w 0 spare held fuel t cs = some x) {B : Nat} (hW : ∀ n ∈ x.1.weights P t, n ≤ B) :
    ∃ A len cap, cs = [.slice A len cap] ∧ len ≤ cap ∧ cap ≤ maxLen ∧ (A = none → len = 0 ∧ cap = 0) ∧ len * P.bytesOf e ≤ B ∧
      ∃ m, fuel = m + 1 ∧ ∀ i, i < len → ∃ b off cs' y, A = some ⟨b, off, none⟩ ∧ b < w.heap.size ∧ cs'.length = P.cellsOf e ∧ w.rangeAt b (off + i * P.cellsOf e) cs' ∧ DataW.trod enc P w 0 spare held m e cs' = some y ∧ ∀ n ∈ y.1.weights P e, n ≤ B := by
  obtain ⟨A, len, cap, rfl, hl, hc, hA, m, hm, hi⟩ := o_slice ht hpos h
  refine ⟨A, len, cap, rfl, hl, hc, hA, ?_, m, hm, fun i hil => ?_⟩
  · rcases DataW.trod_slice ht h with ⟨h1, _⟩ | ⟨a, len', cap', elems, rest, n, hn, h1, hx, _, _, _, hlen, hel, _, _⟩
    · cases h1; omega
    · cases h1
      have hb := hW ((elems.length + rest.length) * P.bytesOf e) (by rw [hx]; simp [DataW.weights, ht])
      rw [← hlen]
      exact Nat.le_trans (Nat.mul_le_mul_right _ (Nat.le_add_right _ _)) hb
  rcases DataW.trod_slice ht h with ⟨h1, _⟩ | ⟨a, len', cap', elems, rest, n, hn, h1, hx, _, _, _, hlen, hel, _, _⟩
  · cases h1; omega
  · cases h1
    obtain ⟨b, off, cs', y, e1, e2, e3, e4, e5⟩ := hi i hil
    have he := hel i hil
    rw [List.getElem?_eq_getElem (by omega)] at he
    obtain ⟨cs2, hc2, ht2⟩ := Option.bind_eq_some_iff.1 he
    obtain rfl : m = n := by omega
    have hcs : cs2 = cs' := by
      obtain ⟨_, hcl, hat⟩ := World.cells?_some hc2
      refine List.ext_getElem? fun k => ?_
      rcases Nat.lt_or_ge k (P.cellsOf e) with hk | hk
      · have h2 := hat k hk
        cases e1
        rw [Addr.add_mid, Addr.add_mid] at h2;rw [← h2];rw [e4 k _ (List.getElem?_eq_getElem (by omega))]
        exact (List.getElem?_eq_getElem (by omega)).symm
      · rw [List.getElem?_eq_none (by omega), List.getElem?_eq_none (by omega)]
    subst hcs
    refine ⟨b, off, cs2, y, e1, e2, e3, e4, e5, ?_⟩
    rw [e5] at ht2
    have hy : y = elems[i]'(by omega) := Option.some.inj ht2
    intro q hq
    refine hW q ?_;rw [hx]
    simp only [DataW.weights, ht]
    refine List.mem_cons_of_mem _ (List.mem_append_left _ (wAll_mem hq ?_));rw [hy]
    exact List.mem_map.2 ⟨_, List.getElem_mem (by omega : i < elems.length), rfl⟩
end
section
variable {H : Type} {enc : TypeId × Value → H} {w : World} {spare : Nat → Bool} {held : Bool} {fuel : Nat} {cs : List Value} {x : DataW H × List MemPlace}
end
section
variable {H : Type} {enc : TypeId × Value → H} {W : World} {v : Value} {d : DataW H} {p : List MemPlace}
end
-- OpJ
open Go.Proofs.Tryz
open Go.ChangeShapes Go.WideShapes Go.ChangeAt Go.RowKit Go.Deep
set_option maxRecDepth 100000
def laidP3 : List (String × DataW Unit) := [("math/bits.deBruijn32tab", Rows.laid_math_bits_deBruijn32tab), ("math/bits.deBruijn64tab", Rows.laid_math_bits_deBruijn64tab), ("internal/strconv.uint64pow10", Rows.laid_internal_strconv_uint64pow10)]
theorem tTen : (Tryz.prog.globals[1]?).map (·.type) = some 199 := by kernel_rfl
theorem ten_of {W : World} {l : List (String × DataW Unit)} (h : laidMetH Tryz.prog l W) (hp : (l.all fun x => x.2.handleName?.isNone) = true) (hm : ("internal/strconv.uint64pow10", Rows.laid_internal_strconv_uint64pow10) ∈ l) : TenAt W := by
  rw [MakeChecks.laidMetH_plain _ _ _ hp] at h
  obtain ⟨ps, hps, _, _⟩ := h
  obtain ⟨g0, t0, cs0, f0, p0, hg0, ht0, hv0, hd0⟩ := laid_at (n := "internal/strconv.uint64pow10") (d := Rows.laid_internal_strconv_uint64pow10) hps hm
  obtain rfl := Option.some.inj (gTen.symm.trans hg0)
  obtain rfl := Option.some.inj (tTen.symm.trans ht0)
  have e := Lib.cells_of_tab (zs := Lib.pow10Tab) underlying199 underlying185 (by kernel_rfl) (by kernel_rfl) hd0
  show World.var? Tryz.prog W _ = _
  rw [hv0, ← e]
theorem ten_of_laid {W : World} (h : laidMetH Tryz.prog laidP3 W) : TenAt W := ten_of h (by kernel_rfl) (.tail _ (.tail _ (.head _)))
section
variable {H : Type} {enc : TypeId × Value → H} {P : Program} {w : World} {spare : Nat → Bool} {held : Bool} {fuel : Nat} {t : TypeId} {cs : List Value} {x : DataW H × List MemPlace}
theorem o_strR {B : Nat} (ht : P.underlying t = some .string) (h : DataW.trod enc P w 0 spare held fuel t cs = some x) (hW : ∀ n ∈ x.1.weights P t, n ≤ B) : ∃ s : ByteArray, cs = [.string s] ∧ s.size ≤ maxLen ∧ s.size ≤ B := by
  obtain ⟨s, h1, hx, h2⟩ := DataW.trod_string ht h
  refine ⟨s, h1, h2, ?_⟩
  have := hW s.data.toList.length (by rw [hx]; simp [DataW.weights])
  rwa [Array.length_toList] at this
end
section
variable {H : Type} {enc : TypeId × Value → H} {w : World} {spare : Nat → Bool} {held : Bool} {fuel : Nat} {cs : List Value} {x : DataW H × List MemPlace}
theorem o_strsR {B : Nat} (h : DataW.trod enc Tryz.prog w 0 spare held fuel 22 cs = some x) (hW : ∀ n ∈ x.1.weights Tryz.prog 22, n ≤ B) : ∃ A C, ∃ l : List ByteArray, cs = [.slice A l.length C] ∧ StrsAt w A l ∧ (∀ s ∈ l, s.size ≤ maxLen) ∧ l.length ≤ C ∧ C ≤ maxLen ∧ (∀ s ∈ l, s.size ≤ B) := by
  obtain ⟨A, len, cap, rfl, hl, hc, hA, _, m, _, hi⟩ := o_sliceW underlying22 (by rw [cStr]; omega) h hW
  rw [cStr] at hi
  obtain ⟨T, hT⟩ := choose_lt (p := fun i (s : ByteArray) => s.size ≤ B ∧ s.size ≤ maxLen ∧ ∃ b off, A = some ⟨b, off, none⟩ ∧ w.rangeAt b (off + i * 1) [.string s]) (fun i him => by
    obtain ⟨b, off, cs', y, h1, _, _, h2, h3, h4⟩ := hi i him
    obtain ⟨s, rfl, h5, h6⟩ := o_strR underlying9 h3 h4
    exact ⟨s, h6, h5, b, off, h1, h2⟩)
  refine ⟨A, cap, (List.range len).map T, by simp, fun j c hj => ?_, fun s hs => ?_, by simpa using hl, hc, fun s hs => ?_⟩
  · rw [List.map_map, List.getElem?_map] at hj
    obtain ⟨q, hq, rfl⟩ := Option.map_eq_some_iff.1 hj
    obtain ⟨hjl, rfl⟩ := List.getElem?_eq_some_iff.1 hq
    rw [List.length_range] at hjl;rw [List.getElem_range]
    exact (hT j hjl).2.2
  · obtain ⟨i, hi2, rfl⟩ := List.mem_map.1 hs
    exact (hT i (List.mem_range.1 hi2)).2.1
  · obtain ⟨i, hi2, rfl⟩ := List.mem_map.1 hs
    exact (hT i (List.mem_range.1 hi2)).1
theorem o_progR {B : Nat} (h : DataW.trod enc Tryz.prog w 0 spare held fuel 29 cs = some x) (hW : ∀ n ∈ x.1.weights Tryz.prog 29, n ≤ B) : ∃ p : Prg, ProgCap w cs p ∧ (∀ s ∈ p.locs, s.size ≤ B) ∧ p.name.size ≤ B := by
  obtain ⟨xs, m, _, hx, hl, hxl, hf0⟩ := DataW.trod_struct underlying29 h
  have hf : ∀ (i : Nat) (f : Field), (_ : Array Field)[i]? = some f → ∃ y, DataW.trod enc Tryz.prog w 0 spare held m f.type ((cs.drop f.offset).take (Tryz.prog.cellsOf f.type)) = some y := fun i f hi => ⟨_, (hf0 i f hi).trans (List.getElem?_eq_getElem (by rw [hxl]; exact (Array.getElem?_eq_some_iff.1 hi).1))⟩
  rw [cProg] at hl
  obtain ⟨a0, a1, a2, a3, a4, a5, a6, a7, a8, a9, rfl⟩ := len10' hl
  obtain ⟨y0, h0⟩ := hf 0 _ rfl
  obtain ⟨y1, h1⟩ := hf 1 _ rfl
  obtain ⟨y2, h2⟩ := hf 2 _ rfl
  obtain ⟨y3, h3⟩ := hf 3 _ rfl
  obtain ⟨y4, h4⟩ := hf 4 _ rfl
  obtain ⟨y5, h5⟩ := hf 5 _ rfl
  have hy0 : xs[0]? = some y0 := (hf0 0 _ rfl).symm.trans h0
  have hW0 : ∀ n ∈ y0.1.weights Tryz.prog 9, n ≤ B := fun n hn => hW n (by
    rw [hx]
    simp only [DataW.weights, underlying29]
    exact DataW.weights_mem_each (j := 0) (t := 9) (d := y0.1) rfl (by rw [List.getElem?_map, hy0]; rfl) n hn)
  have hy1 : xs[1]? = some y1 := (hf0 1 _ rfl).symm.trans h1
  have hW1 : ∀ n ∈ y1.1.weights Tryz.prog 22, n ≤ B := fun n hn => hW n (by
    rw [hx]
    simp only [DataW.weights, underlying29]
    exact DataW.weights_mem_each (j := 1) (t := 22) (d := y1.1) rfl (by rw [List.getElem?_map, hy1]; rfl) n hn)
  replace h0 : DataW.trod enc Tryz.prog w 0 spare held m 9 (([a0, a1, a2, a3, a4, a5, a6, a7, a8, a9].drop 0).take (Tryz.prog.cellsOf 9)) = _ := h0
  replace h1 : DataW.trod enc Tryz.prog w 0 spare held m 22 (([a0, a1, a2, a3, a4, a5, a6, a7, a8, a9].drop 1).take (Tryz.prog.cellsOf 22)) = _ := h1
  replace h2 : DataW.trod enc Tryz.prog w 0 spare held m 23 (([a0, a1, a2, a3, a4, a5, a6, a7, a8, a9].drop 2).take (Tryz.prog.cellsOf 23)) = _ := h2
  replace h3 : DataW.trod enc Tryz.prog w 0 spare held m 24 (([a0, a1, a2, a3, a4, a5, a6, a7, a8, a9].drop 3).take (Tryz.prog.cellsOf 24)) = _ := h3
  replace h4 : DataW.trod enc Tryz.prog w 0 spare held m 5 (([a0, a1, a2, a3, a4, a5, a6, a7, a8, a9].drop 4).take (Tryz.prog.cellsOf 5)) = _ := h4
  replace h5 : DataW.trod enc Tryz.prog w 0 spare held m 27 (([a0, a1, a2, a3, a4, a5, a6, a7, a8, a9].drop 5).take (Tryz.prog.cellsOf 27)) = _ := h5
  rw [cStr] at h0;rw [cStrs] at h1;rw [cU8s] at h2;rw [cInsess] at h3;rw [cU8] at h4;rw [cCond] at h5
  obtain ⟨s, e0, hs, hsB⟩ := o_strR underlying9 h0 hW0
  obtain ⟨LA, LC, locs, e1, l1, l2, l3, l4, lB⟩ := o_strsR h1 hW1
  obtain ⟨IA, IC, init, e2, i1, i2, i3, _⟩ := o_bytes h2
  obtain ⟨TA, TC, threads, e3, t1, t2, t3, _⟩ := o_threadsK h3
  obtain ⟨ask, e4⟩ := o_u8 underlying5 h4
  obtain ⟨c, hc⟩ := o_condK m h5
  simp only [List.drop, List.take, List.cons.injEq, and_true] at e0 e1 e2 e3 e4 hc
  subst e0 e1 e2 e3 e4
  unfold maxLen at l4 i3 t3
  exact ⟨⟨s, locs, init, threads, ask, c⟩, ⟨LA, LC, IA, IC, TA, TC, m, [a5, a6, a7, a8, a9], ⟨rfl, hs, l1, by show locs.length ≤ _; omega, l3, l2, i1, by show init.length ≤ _; omega, t1.at, by show threads.length ≤ _; omega, hc.at⟩, hc, t1, i2, t2⟩, lB, hsB⟩
end
section
variable {H : Type} {enc : TypeId × Value → H} {W : World} {v : Value} {d : DataW H} {p : List MemPlace}
theorem a_progR (hv : Value.okWide Tryz.prog W .any 0 29 v) (h : DataW.Trod enc Tryz.prog W 0 (fun _ => true) true 29 v d p) (hW : ∀ n ∈ d.weights Tryz.prog 29, n ≤ reachBytes) : ∃ cs q, v = .agg cs.toArray ∧ ProgCap W cs q ∧ (∀ s ∈ q.locs, s.size ≤ 140737488351232) ∧ q.name.size ≤ 140737488351232 := by
  obtain ⟨cs, rfl, _⟩ := okWide_struct underlying29 hv
  obtain ⟨fuel, hf⟩ := h
  obtain ⟨q, hq, hb, hn⟩ := o_progR hf hW
  exact ⟨cs.toList, q, by simp, hq, hb, hn⟩
theorem a_strsR (hv : Value.okWide Tryz.prog W .any 0 22 v) (h : DataW.Trod enc Tryz.prog W 0 (fun _ => true) true 22 v d p) (hW : ∀ n ∈ d.weights Tryz.prog 22, n ≤ reachBytes) : ∃ A C, ∃ l : List ByteArray, v = .slice A l.length C ∧ StrsAt W A l ∧ l.length ≤ 9223372036854775807 ∧ (∀ s ∈ l, s.size ≤ 140737488351232) := by
  obtain ⟨a, len, cap, rfl⟩ := okWide_slice underlying22 hv
  obtain ⟨fuel, hf⟩ := h
  obtain ⟨A, C, l, h1, h2, h3, h4, h5, h6⟩ := o_strsR hf hW
  unfold maxLen at h5
  exact ⟨A, C, l, by simpa [Value.cells] using h1, h2, by omega, h6⟩
theorem a_insR (hv : Value.okWide Tryz.prog W .any 0 44 v) (h : DataW.Trod enc Tryz.prog W 0 (fun _ => true) true 44 v d p) : ∃ x : Ins, v = .agg x.cells.toArray := by
  obtain ⟨cs, rfl, _⟩ := okWide_struct underlying44 hv
  obtain ⟨fuel, hf⟩ := h
  obtain ⟨x, hx⟩ := o_ins hf
  exact ⟨x, by rw [← hx]; simp [Value.cells]⟩
end
end Go.Proofs.YtkchaoajegkadaaGreatDoor
