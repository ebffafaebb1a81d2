/-
  WALK2. The law RunsFold. Conditions: the program lies in memory; block 0 holds the table of needs; no row of its condition is longer than memory bears.
-/
import Derived.Test.YtbgnapmaimkpkaaGreatDoorRnI
import Derived.Test.YtbgnapmaimkpkaaGreatDoorRl1
import Derived.Test.YtbgnapmaimkpkaaGreatDoorOpY
set_option linter.unusedSimpArgs false
set_option linter.unusedVariables false
namespace Go.Proofs.YtbgnapmaimkpkaaGreatDoor
open Go.RowKit
set_option maxRecDepth 100000
theorem prog_out {w0 w : World} {row : Option Nat} {p : Prg} {h LC IC TC : Nat} {LA IA TA : Option Addr} {S1 S2 S3 S4 : Nat → Prop} {rows : List (List Value)} {ccs : List Value}
    (H : Own w0 row w [.tree S4 h ccs p.cond, .rws 33 1 (.slice TA p.threads.length TC) rows, .grove S3 rows (p.threads.map foldP), .held S2 IA 1 (p.init.map fun x => [Go.Proofs.YtbgnapmaimkpkaaGreatDoor.b8 x]), .held S1 LA 1 (p.locs.map fun s => [.string s])])
    (hrl : rows.length = p.threads.length) (hr1 : ∀ r ∈ rows, r.length = 1) (hLC : p.locs.length ≤ LC) (hn : p.name.size ≤ maxLen) (hl : p.locs.length ≤ 9223372036854775807) (hls : ∀ s ∈ p.locs, s.size ≤ maxLen) (hi : p.init.length ≤ 9223372036854775807) (hf : FoldPre p) :
    ProgIn w ([.string p.name, .slice LA p.locs.length LC, .slice IA p.init.length IC, .slice TA p.threads.length TC, Go.Proofs.YtbgnapmaimkpkaaGreatDoor.b8 p.ask] ++ ccs) (foldPr p) LA LC IA IC TA TC h ccs := by
  refine ⟨by simp [foldPr], hn, H.held 4 rfl, hl, hLC, hls, H.held 3 rfl, hi, fun j t ht => ?_, by simp only [foldPr, List.length_map]; have := hf.1; omega, (H.pred 0 _ rfl : TreeIn S4 w h ccs p.cond).at⟩
  have hj := (List.getElem?_eq_some_iff.1 ht).1
  simp only [foldPr, List.length_map] at hj
  obtain ⟨r, hr⟩ : ∃ r, rows[j]? = some r := ⟨_, List.getElem?_eq_getElem (by omega)⟩
  obtain ⟨B, C, rfl, hB⟩ := (H.pred 2 _ rfl : groveP S3 w rows (p.threads.map foldP)) j r t hr ht
  obtain ⟨b, off, rfl, hx⟩ := H.rowsAt 1 rfl hr1 (by decide) j _ hr
  refine ⟨b, off, B, C, rfl, hx 0 _ rfl, fun i cs hi => ?_, ?_⟩
  · obtain ⟨b2, o2, h1, _, h2⟩ := hB i cs hi
    exact ⟨b2, o2, h1, h2⟩
  · have ht' : (p.threads.map foldP)[j]? = some t := ht
    rw [List.getElem?_map] at ht'
    obtain ⟨u, hu, rfl⟩ := Option.map_eq_some_iff.1 ht'
    have h1 := (hf.2.2 u (List.mem_of_getElem? hu)).1
    have h2 : (foldP u).length ≤ u.length := outP_length _ _ _
    omega
theorem slim_wide {n : Nat} (hn : n ≤ 4398046510976) : ∀ (h : Nat) (c : Cnd), wideC c ≤ n → Slim h c
  | 0, _, _ => trivial
  | h + 1, .mk _ _ _ _ kids, hw => by
    simp only [wideC, Nat.max_le] at hw
    exact ⟨by omega, fun kid hk => slim_wide hn h kid (wideL_le.1 hw.2 kid hk)⟩
theorem fold_same {p : Prg} {m : UInt8} {l l2 : List By} (hp : rightErr p = 0) (hm : knownM m = true) (hf : FinOut p m 600 l) (hf2 : FinOut (foldPr p) m 600 l2) (h : statesE p m 600 = 0) (h2 : statesE (foldPr p) m 600 = 0) : tl l = tl l2 :=
  rising_unique (hf.2 h).2.2.1 (hf2.2 h2).2.2.1 fun x => by rw [(hf.2 h).2.2.2 x, (hf2.2 h2).2.2.2 x, out_fold hp hm]
set_option maxHeartbeats 2000000 in
theorem runsFold_any (cs : List Value) (p : Prg) (w0 : World) (hP : ProgAt w0 cs p) (hw : wideC p.cond ≤ 4398046510976) (hN : NeedsAt w0) (u : UInt8) :
    Calls Tryz.prog 11 #[.agg cs.toArray, Go.Proofs.YtbgnapmaimkpkaaGreatDoor.b8 u] w0 fun e w' => e = .returned (.bool true) ∧ Below w0.heap.size w0 w' := by
  have H := Own.start w0 none
  have hP0 := hP
  obtain ⟨LA, LC, IA, IC, TA, TC, h, ccs, hp⟩ := hP
  obtain ⟨c1, c2, c3, c4, A5, m5, C5, rfl⟩ := condShape hp.cond
  have hcs := hp.cs
  simp only [List.cons_append, List.nil_append] at hcs
  subst hcs
  have hkm := known_machine u
  have hk3 : (1 : UInt8) ≤ (1 + u % 3) ∧ (1 + u % 3) ≤ 3 := by unfold knownM at hkm; simpa using hkm
  refine enterF Tryz.func11 rfl Tryz.ntmps11 rfl (fun a F => ?_);refine cSR fun K1 hK1=>?_;refine sBx H F rfl rfl rfl ?_;clear F a H; intro b2 a w F H;refine sAs F rfl rfl rfl (qNK hK1 (qSR fun K2 hK2=>qMv rfl rfl rfl ?_));clear hK1;clear F a;intro a F
  refine sBin F rfl rfl rfl rfl (bRemB (y := 3) ?_) ?_
  focus decide
  clear F a; intro a F;refine sBin F rfl rfl rfl rfl (bAddB (x := 1)) (qAs rfl rfl rfl (qNK hK2 (qSR fun K3 hK3=>?_)));clear hK2;clear F a;intro a F
  refine sLr Tryz.underlying29 rfl ?si F rfl rfl rfl (H.whole 0 rfl) ?_
  case si => exact info_size Tryz.sizeOf29
  clear F a; intro a F;refine sMv F rfl rfl rfl ?_;clear F a;intro a F;refine sCall Tryz.call12 F rfl rfl rfl (finals15_any _ p _ (hP0.own H) (hN.own H) (1 + u % 3) hk3) ?_;rintro e w ⟨A1, k1, l1, q1, rfl, hq1, hf1, H2⟩;replace H := H.join H2; clear H2;refine ⟨_, rfl, ?_⟩;clear F a; intro a F;refine sMv F rfl rfl rfl (qExt rfl rfl rfl rfl (qExt rfl rfl rfl rfl (qExt rfl rfl rfl rfl (qAs rfl rfl rfl (qAs rfl rfl rfl (qAs rfl rfl rfl (qNK hK3 ?_)))))));clear hK3;clear F a;intro a F;refine cSeq (fun K4 hK4 => ?_);refine cSR fun K5 hK5=>sMv F rfl rfl rfl (qNot rfl rfl rfl (qNK hK5 ?_));clear hK5;clear F a;intro a F
  refine cIf F rfl (fun h31 => ?_) (fun h31 => ?_)
  ·
   replace h31 := notT h31;refine cSR fun K6 hK6=>sMv F rfl rfl rfl (qMv rfl rfl rfl ?_);clear F a;intro a F
   refine F.split 33 rfl ?_ ?_ <;> (clear F; intro h33 F)
   ·
    refine sCall Tryz.call14 F rfl rfl rfl (awake15_any _ (hN.own H)) ?_;rintro e w ⟨rfl, hb⟩;replace H := H.grow hb; clear hb;refine ⟨_, rfl, ?_⟩;clear F a; intro a F;refine sPk F rfl rfl rfl rfl (qAs rfl rfl rfl (qNK hK6 ?_));clear hK6;clear F a;intro a F;refine wp_ret ?_;simp only [Exit.then];refine bRet Tryz.results11 F rfl ?_
    exact ⟨rfl, H.below⟩
   cases h33
  replace h31 := notF h31
  have hE : statesE p (1 + u % 3) 600 = 0 := hq1.1 h31
  have hv : rightErr p = 0 := (most_ok hE).1
  have V := valid hv
  have hf := foldPre_of hv
  have hvq := right_fold hv
  obtain ⟨fd, hfd, _⟩ := states_some hE
  obtain ⟨hE2, fd2, hfd2, hless⟩ := less_states hvq hfd hE (fun z hz => got_fold hv hkm z hz)
  have hfo : fo (statesR p (1 + u % 3) 600) = fd := by rw [hfd]; rfl
  have hfo2 : fo (statesR (foldPr p) (1 + u % 3) 600) = fd2 := by rw [hfd2]; rfl
  refine wp_skip (hK4 _ _ (cSR fun K7 hK7=>?_));clear hK4
  refine sLr Tryz.underlying29 rfl ?si F rfl rfl rfl (H.whole 1 rfl) ?_
  case si => exact info_size Tryz.sizeOf29
  clear F a; intro a F;refine sCall Tryz.call36 F rfl rfl rfl (Fold_any _ p LA LC IA IC TA TC h _ _ (hp.own H) (hN.own H) (fun _ => slim_wide (by decide) h p.cond hw) (fun _ => by have := V.locs6; omega) (fun _ => hf)) ?_;rintro e w h38
  rcases h38 with ⟨h38, _⟩ | ⟨_, v38, rfl, h38⟩
  case inl => exact absurd hv h38
  obtain ⟨LA2, LC2, S1', IA2, IC2, S2, TA2, TC2, rows, S3, ccs2, S4, rfl, hLC2, hrl, hr1, H2⟩ := h38
  obtain ⟨d1, d2, d3, d4, A6, m6, C6, rfl⟩ := condShape (H2.pred 0 _ rfl : TreeIn S4 _ h ccs2 p.cond).at
  replace H := H.join H2; clear H2;refine ⟨_, rfl, ?_⟩;clear F a; intro a F;refine sMv F rfl rfl rfl (qExt rfl rfl rfl rfl (qExt rfl rfl rfl rfl ?_));clear F a;intro a F;refine sAl H Tryz.zeroValue29 F rfl rfl ?_;clear F a H; intro b9 a w F H
  refine sSr H 0 ?si F rfl rfl rfl ?s1 rfl rfl ?_
  case si => exact info_size Tryz.sizeOf29
  case s1 => first | rfl | (repeat (first | exact one_nil | (apply one_cons; · first | rfl | assumption | exact one_bif rfl rfl)))
  clear H; intro w H;refine sAs F rfl rfl rfl (qNK hK7 (qSR fun K8 hK8=>?_));clear hK7;clear F a;intro a F
  refine sLr Tryz.underlying29 rfl ?si F rfl rfl rfl (H.whole 0 rfl) ?_
  case si => exact info_size Tryz.sizeOf29
  clear F a; intro a F;refine sMv F rfl rfl rfl ?_;clear F a;intro a F;refine sCall Tryz.call12 F rfl rfl rfl (finals15_any _ (foldPr p) _ ⟨_, _, _, _, _, _, _, _, prog_out (H.sel [1, 2, 3, 4, 5] rfl rfl) hrl hr1 hLC2 hp.name hp.locsN hp.locsS hp.initN hf⟩ (hN.own H) (1 + u % 3) hk3) ?_;rintro e w ⟨A4, k4, l4, q4, rfl, hq4, hf4, H2⟩;replace H := H.join H2; clear H2;refine ⟨_, rfl, ?_⟩;clear F a; intro a F;refine sMv F rfl rfl rfl (qExt rfl rfl rfl rfl (qExt rfl rfl rfl rfl (qExt rfl rfl rfl rfl (qAs rfl rfl rfl (qAs rfl rfl rfl (qAs rfl rfl rfl (qNK hK8 (qSR fun K9 hK9=>?_))))))));clear hK8;clear F a;intro a F
  refine sLr Tryz.underlying29 rfl ?si F rfl rfl rfl (H.whole 8 rfl) ?_
  case si => exact info_size Tryz.sizeOf29
  clear F a; intro a F;refine sMv F rfl rfl rfl ?_;clear F a;intro a F;refine sCall Tryz.call20 F rfl rfl rfl (count_any _ p _ (hP0.own H) (hN.own H) (1 + u % 3) 600 (by decide) (by decide)) ?_;rintro e w ⟨rfl, hb⟩;replace H := H.grow hb; clear hb;refine ⟨_, rfl, ?_⟩;clear F a; intro a F;refine sMv F rfl rfl rfl (qExt rfl rfl rfl rfl (qExt rfl rfl rfl rfl (qExt rfl rfl rfl rfl (qAs rfl rfl rfl (qAs rfl rfl rfl (qAs rfl rfl rfl (qNK hK9 (qSR fun K10 hK10=>?_))))))));clear hK9;clear F a;intro a F
  refine sLr Tryz.underlying29 rfl ?si F rfl rfl rfl (H.whole 1 rfl) ?_
  case si => exact info_size Tryz.sizeOf29
  clear F a; intro a F;refine sMv F rfl rfl rfl ?_;clear F a;intro a F;refine sCall Tryz.call20 F rfl rfl rfl (count_any _ (foldPr p) _ ⟨_, _, _, _, _, _, _, _, prog_out (H.sel [2, 3, 4, 5, 6] rfl rfl) hrl hr1 hLC2 hp.name hp.locsN hp.locsS hp.initN hf⟩ (hN.own H) (1 + u % 3) 600 (by decide) (by decide)) ?_;rintro e w ⟨rfl, hb⟩;replace H := H.grow hb; clear hb;refine ⟨_, rfl, ?_⟩;clear F a; intro a F;refine sMv F rfl rfl rfl (qExt rfl rfl rfl rfl (qExt rfl rfl rfl rfl (qExt rfl rfl rfl rfl (qAs rfl rfl rfl (qAs rfl rfl rfl (qAs rfl rfl rfl (qNK hK10 (qSR fun K11 hK11=>qMv rfl rfl rfl (qBin rfl rfl rfl rfl bEql (qMv rfl rfl rfl ?_))))))))));clear hK10;clear F a;intro a F
  refine F.split 64 rfl ?_ ?_ <;> (clear F; intro h64 F)
  ·
   replace h64 := beqT h64;refine sMv F rfl rfl rfl (qPk rfl rfl rfl rfl (qMv rfl rfl rfl ?_));clear F a;intro a F
   refine F.split 67 rfl ?_ ?_ <;> (clear F; intro h67 F)
   ·
    refine sMv F rfl rfl rfl (qBin rfl rfl rfl rfl bEql (qPk rfl rfl rfl rfl (qMv rfl rfl rfl ?_)));clear F a;intro a F
    refine F.split 71 rfl ?_ ?_ <;> (clear F; intro h71 F)
    ·
     replace h71 := beqT h71;refine sMv F rfl rfl rfl (qBin rfl rfl rfl rfl bEql (qPk rfl rfl rfl rfl (qMv rfl rfl rfl ?_)));clear F a;intro a F
     refine F.split 75 rfl ?_ ?_ <;> (clear F; intro h75 F)
     ·
      replace h75 := beqT h75;refine sMv F rfl rfl rfl (qMv rfl rfl rfl ?_);clear F a;intro a F;refine sCall Tryz.call16 F rfl rfl rfl (fins_true A1 A4 k1 k4 l1 l4 _ (H.rowsAt 7 rfl (bs38_len _) (by decide)) (H.rowsAt 0 rfl (bs38_len _) (by decide)) (fin_short hf1) (fin_short hf4) (fold_same hv hkm hf1 hf4 hE hE2)) ?_;rintro e w ⟨rfl, hb⟩;replace H := H.grow hb; clear hb;refine ⟨_, rfl, ?_⟩;clear F a; intro a F;refine sPk F rfl rfl rfl rfl (qMv rfl rfl rfl ?_);clear F a;intro a F
      refine F.split 80 rfl ?_ ?_ <;> (clear F; intro h80 F)
      ·
       refine sMv F rfl rfl rfl (qMv rfl rfl rfl (qBin rfl rfl rfl rfl bLeq (qPk rfl rfl rfl rfl (qMv rfl rfl rfl ?_))));clear F a;intro a F
       refine F.split 85 rfl ?_ ?_ <;> (clear F; intro h85 F)
       ·
        replace h85 := of_decide_eq_true h85;refine sCall Tryz.call14 F rfl rfl rfl (awake15_any _ (hN.own H)) ?_;rintro e w ⟨rfl, hb⟩;replace H := H.grow hb; clear hb;refine ⟨_, rfl, ?_⟩;clear F a; intro a F;refine sPk F rfl rfl rfl rfl (qAs rfl rfl rfl (qNK hK11 ?_));clear hK11;clear F a;intro a F;refine wp_ret ?_;refine bRet Tryz.results11 F rfl ?_
        exact ⟨rfl, H.below⟩
       replace h85 := of_decide_eq_false h85
       (rw [hfo, hfo2] at h85; omega)
      cases h80
     replace h75 := beqF h75
     exact absurd hE2 h75
    replace h71 := beqF h71
    exact absurd hE h71
   cases h67
  replace h64 := beqF h64
  exact absurd rfl h64
end Go.Proofs.YtbgnapmaimkpkaaGreatDoor
