/-
  WALK2. The law RunsAlone. Conditions: the program lies in memory; block 0 holds the table of needs.
-/
import Derived.Test.YtbgnapmaimkpkaaGreatDoorRnI
import Derived.Test.YtbgnapmaimkpkaaGreatDoorRlA
set_option linter.unusedSimpArgs false
set_option linter.unusedVariables false
namespace Go.Proofs.YtbgnapmaimkpkaaGreatDoor
open Go.RowKit
set_option maxRecDepth 100000
def oneT (p : Prg) (l : List Ins) : Prg := { p with threads := [l], cond := .mk 0 0 0 0 [] }
theorem one_right {p : Prg} {k : Nat} {l : List Ins} (h : rightErr p = 0) (hk : p.threads[k]? = some l) : rightErr (oneT p l) = 0 := by
  have hm := List.mem_of_getElem? hk
  unfold rightErr
  have : ∀ i, i < 6 → demandK (oneT p l) i = true := fun i hi => by
    have h0 := right_demand h i hi
    match i, hi, h0 with
    | 0, _, h0 => exact h0
    | 1, _, h0 => exact h0
    | 2, _, h0 =>
      show threadsShort (oneT p l) = true
      have h0 : threadsShort p = true := h0
      simp only [threadsShort, Bool.and_eq_true, decide_eq_true_eq, List.all_eq_true] at h0 ⊢
      refine ⟨⟨Nat.le_refl 1, (show 1 ≤ 4 by decide)⟩, fun t ht => ?_⟩
      obtain rfl : t = l := List.mem_singleton.1 ht
      exact h0.2 t hm
    | 3, _, h0 =>
      show threadsOk (oneT p l) = true
      have h0 : threadsOk p = true := h0
      simp only [threadsOk, List.all_eq_true] at h0 ⊢
      intro t ht
      obtain rfl : t = l := List.mem_singleton.1 ht
      exact h0 t hm
    | 4, _, h0 => exact h0
    | 5, _, _ => rfl
  simp [rightFrom, this]
theorem alone_same {q : Prg} {m : UInt8} {l2 : List By} (hp : rightErr q = 0) (h1 : q.threads.length = 1) (hm : knownM m = true) (hf : FinOut q m 600 l2) (h : statesE q m 600 = 0) : tl l2 = tl [playF q []] :=
  rising_unique (hf.2 h).2.2.1 (by simp [tl, Rising]) fun x => by
    rw [(hf.2 h).2.2.2 x, alone_out hp hm h1 []]
    simp [tl]
theorem one_at {w0 w : World} {rs : List Res} (H : Own w0 none w rs) (i : Nat) {b : Nat} {T : TypeId} {cs : List Value} {p : Prg} {LA IA TA BT : Option Addr} {LC IC TC h CT : Nat} {ccs : List Value} {l : List Ins} (hi : rs[i]? = some (.blk b [.slice BT l.length CT] T)) (hp : ProgIn w0 cs p LA LC IA IC TA TC h ccs) (h2 : RowsAt w0 BT 10 (l.map Ins.cells)) (h3 : l.length ≤ 9223372036854775807) :
    ProgAt w [.string p.name, .slice LA p.locs.length LC, .slice IA p.init.length IC, .slice (some ⟨b, 0, none⟩) 1 1, Go.Proofs.YtbgnapmaimkpkaaGreatDoor.b8 p.ask, Go.Proofs.YtbgnapmaimkpkaaGreatDoor.b8 0, Go.Proofs.YtbgnapmaimkpkaaGreatDoor.b8 0, Go.Proofs.YtbgnapmaimkpkaaGreatDoor.b8 0, Go.Proofs.YtbgnapmaimkpkaaGreatDoor.b8 0, .slice none 0 0] (oneT p l) :=
  ⟨LA, LC, IA, IC, some ⟨b, 0, none⟩, 1, 1, _, rfl, hp.name, RowsAt.own hp.locs H, hp.locsN, hp.locsC, hp.locsS, RowsAt.own hp.init H, hp.initN, fun j t ht => by
    obtain rfl : j = 0 := by
      have : j < 1 := (List.getElem?_eq_some_iff.1 ht).1
      omega
    obtain rfl : l = t := Option.some.inj ht
    exact ⟨b, 0, BT, CT, rfl, H.cell i hi rfl, RowsAt.own h2 H, h3⟩, (show 1 ≤ 9223372036854775807 by decide), none, 0, rfl, (show 0 ≤ 9223372036854775807 by decide), fun j kid hk => by simp at hk⟩
set_option maxHeartbeats 1000000 in
theorem runsAlone_any (cs : List Value) (p : Prg) (w0 : World) (hP : ProgAt w0 cs p) (hN : NeedsAt w0) (u : UInt8) :
    Calls Tryz.prog 8 #[.agg cs.toArray, Go.Proofs.YtbgnapmaimkpkaaGreatDoor.b8 u] w0 fun e w' => e = .returned (.bool true) ∧ Below w0.heap.size w0 w' := by
  have H := Own.start w0 none
  have hP0 := hP
  obtain ⟨LA, LC, IA, IC, TA, TC, h, ccs, hp⟩ := hP
  obtain ⟨c1, c2, c3, c4, c5, rfl⟩ := len5 (condAt_len hp.cond)
  have hcs := hp.cs
  subst hcs
  refine enterF Tryz.func8 rfl Tryz.ntmps8 rfl (fun a F => ?_)
  refine cSR fun K1 hK1=>?_
  refine sBx H F rfl rfl rfl ?_
  clear F a H; intro b2 a w F H
  refine sAs F rfl rfl rfl (qNK hK1 ?_);clear hK1;clear F a;intro a F
  refine cSeq (fun K2 hK2 => ?_)
  refine cSR fun K3 hK3=>?_
  refine sLr Tryz.underlying29 rfl ?si F rfl rfl rfl (H.whole 0 rfl) ?_
  case si => exact info_size Tryz.sizeOf29
  clear F a; intro a F
  refine sCall Tryz.call15 F rfl rfl rfl (right_any' _ p _ (hP0.own H) (hN.own H)) ?_
  rintro e w ⟨rfl, hb⟩
  replace H := H.grow hb; clear hb
  refine ⟨_, rfl, ?_⟩
  clear F a; intro a F
  refine sBin F rfl rfl rfl rfl bNeq (qNK hK3 ?_);clear hK3;clear F a;intro a F
  refine cIf F rfl (fun h14 => ?_) (fun h14 => ?_)
  ·
   replace h14 := bneT h14
   refine cSR fun K4 hK4=>?_
   refine sCall Tryz.call14 F rfl rfl rfl (awake15_any _ (hN.own H)) ?_
   rintro e w ⟨rfl, hb⟩
   replace H := H.grow hb; clear hb
   refine ⟨_, rfl, ?_⟩
   clear F a; intro a F
   refine sAs F rfl rfl rfl (qNK hK4 ?_);clear hK4;clear F a;intro a F
   refine wp_ret ?_
   simp only [Exit.then]
   refine bRet Tryz.results8 F rfl ?_
   exact ⟨rfl, H.below⟩
  replace h14 := bneF h14
  have hv : rightErr p = 0 := by omega
  have hV := valid hv
  have hV4 := hV.thr4
  have hV1 := hV.thr1
  obtain ⟨k, hk⟩ : ∃ k, k = u.toNat % p.threads.length := ⟨_, rfl⟩
  have hkl : k < p.threads.length := by rw [hk]; exact Nat.mod_lt _ (by omega)
  obtain ⟨l, hl⟩ : ∃ l, p.threads[k]? = some l := ⟨_, List.getElem?_eq_getElem hkl⟩
  obtain ⟨bT, oT, BT, CT, rfl, hT1, hT2, hT3⟩ := hp.threads k l hl
  have hvq := one_right hv hl
  have h1q : (oneT p l).threads.length = 1 := rfl
  refine wp_skip (hK2 _ _ ?_);clear hK2
  refine cSeq (fun K5 hK5 => ?_)
  refine cRegRO (by kernel_rfl) H ?_
  replace H := H.drew
  refine eTF 0 rfl (by kernel_rfl) F rfl rfl rfl (fun w=>rFa (f := 3) (k := 3) Tryz.underlying29 rfl Tryz.sizeOf24 rfl rfl F rfl) H qq0 (qT 1 rfl (by kernel_rfl) rfl rfl rfl rfl (fun a F w H=>rLd Tryz.isAgg24 F rfl (H.cell 0 rfl rfl)) H qq0 (qTF 2 rfl (by kernel_rfl) rfl rfl rfl (fun a F w=>rMv F rfl) H qq0 (qTF 3 rfl (by kernel_rfl) rfl rfl rfl (fun a F w=>rCv Tryz.underlying5 Tryz.underlying3 F rfl (wrapB _)) H qq0 (qTF 4 rfl (by kernel_rfl) rfl rfl rfl (fun a F w=>rFa (f := 3) (k := 3) Tryz.underlying29 rfl Tryz.sizeOf24 rfl rfl F rfl) H qq0 (qT 5 rfl (by kernel_rfl) rfl rfl rfl rfl (fun a F w H=>rLd Tryz.isAgg24 F rfl (H.cell 0 rfl rfl)) H qq0 (qT 6 rfl (by kernel_rfl) rfl rfl rfl rfl (fun a F w H=>rLen Tryz.underlying24 F rfl) H qq0 ?_))))));clear F a;intro a F
  refine eTakeF (k := 7) (i := 7) rfl (by kernel_rfl) F rfl rfl rfl (fun w => rBin F rfl rfl (bRemN ?_)) (H.sel [0] rfl rfl) (fun _ _ _ h => h) ?_
  focus omega
  clear F a; intro a F
  refine eTakeF (k := 8) (i := 8) rfl (by kernel_rfl) F rfl rfl rfl (fun w => rIx Tryz.underlying24 Tryz.sizeOf33 F rfl rfl ?_) (H.sel [0] rfl rfl) (fun _ _ _ h => h) ?_
  focus (rw [← hk]; exact hkl)
  clear F a; intro a F
  refine eT 9 rfl (by kernel_rfl) F rfl rfl rfl rfl (fun w H=>rLd Tryz.isAgg33 F rfl (by rw [← hk]; exact H.arg hT1)) H qq0 ?_;clear F a;intro a F
  refine eOne (k := 10) (i := 10) rfl (by kernel_rfl) F rfl (oBs1 H Tryz.underlying24 Tryz.sizeOf33 Tryz.zeroValue33 rfl F rfl rfl rfl ?_)
  clear F a H; intro b26 a w F H
  refine ePartO (by kernel_rfl) H ?_
  refine eTF 11 rfl (by kernel_rfl) F rfl rfl rfl (fun w=>rFa (f := 3) (k := 3) Tryz.underlying29 rfl Tryz.sizeOf24 rfl rfl F rfl) H qq0 ?_;clear F a;intro a F
  refine eOne (k := 12) (i := 12) rfl (by kernel_rfl) F rfl (oSt H 1 Tryz.sizeOf24 F rfl rfl rfl rfl rfl ?_)
  clear H; intro w H
  refine ePartO (by kernel_rfl) H ?_
  refine eNil (k := 13) (by kernel_rfl) ?_
  refine hK5 _ _ (cSR fun K6 hK6=>sBd (cs := [Go.Proofs.YtbgnapmaimkpkaaGreatDoor.b8 0, Go.Proofs.YtbgnapmaimkpkaaGreatDoor.b8 0, Go.Proofs.YtbgnapmaimkpkaaGreatDoor.b8 0, Go.Proofs.YtbgnapmaimkpkaaGreatDoor.b8 0, .slice none 0 0]) (places := [(0, 1), (1, 1), (2, 1), (3, 1), (4, 1)]) Tryz.zeroValue27 Tryz.underlying27 (by kernel_rfl) F rfl rfl rfl rfl (qFa (f := 5) (k := 5) Tryz.underlying29 rfl Tryz.sizeOf27 rfl rfl rfl rfl rfl ?_));clear hK5;clear F a;intro a F
  refine sSr H 1 ?si F rfl rfl rfl ?s1 rfl rfl ?_
  case si => exact info_size Tryz.sizeOf27
  case s1 => first | rfl | (repeat (first | exact one_nil | (apply one_cons; · first | rfl | assumption | exact one_bif rfl rfl)))
  clear H; intro w H
  refine nK hK6 (cSR fun K7 hK7=>?_);clear hK6
  refine sLr Tryz.underlying29 rfl ?si F rfl rfl rfl (H.whole 1 rfl) ?_
  case si => exact info_size Tryz.sizeOf29
  clear F a; intro a F
  refine sCall Tryz.call30 F rfl rfl rfl (play_any _ (oneT p l) _ (one_at H 0 rfl hp hT2 hT3) (hN.own H) none 0 [] (fun j c h => by simp at h) (by decide)) ?_
  rintro e w ⟨AO, cO, rfl, H2⟩
  replace H := H.join H2; clear H2
  refine ⟨_, rfl, ?_⟩
  clear F a; intro a F
  refine sMv F rfl rfl rfl (qExt rfl rfl rfl rfl (qExt rfl rfl rfl rfl (qExt rfl rfl rfl rfl ?_)));clear F a;intro a F
  refine sAlB H zB47 F rfl rfl ?_
  clear F a H; intro b5 a w F H
  refine sSrB H 0 Tryz.sizeOf47 F rfl rfl rfl rfl (by omega) ?_
  clear H; intro w H
  rw [lay_all] at H
  refine sAs F rfl rfl rfl (qAs rfl rfl rfl (qNK hK7 ?_));clear hK7;clear F a;intro a F
  refine cSeq (fun K8 hK8 => ?_)
  refine cSR fun K9 hK9=>sMv F rfl rfl rfl (qBin rfl rfl rfl rfl bNeq (qNK hK9 ?_));clear hK9;clear F a;intro a F
  refine cIf F rfl (fun h37 => ?_) (fun h37 => ?_)
  ·
   replace h37 := bneT h37
   exact absurd (show startE (oneT p l) = 0 from if_pos hvq) h37
  replace h37 := bneF h37
  refine wp_skip (hK8 _ _ ?_);clear hK8
  refine cSeq (fun K10 hK10 => ?_)
  refine cSR fun K11 hK11=>sAs F rfl rfl rfl (qNK hK11 ?_);clear hK11;clear F a;intro a F
  refine wp_block ?_
  refine cLoopR [2, 5] (fun m ups w => ∃ mc : UInt8, m = 4 - mc.toNat ∧ ups = [(8, Go.Proofs.YtbgnapmaimkpkaaGreatDoor.b8 mc)] ∧ 1 ≤ mc.toNat ∧ mc.toNat ≤ 4 ∧ Own w0 none w [.blk b5 (bs 38 (playF (oneT p l) [])) 47, .blk b26 [.slice BT l.length CT] 33, .blk b2 [.string p.name, .slice LA p.locs.length LC, .slice IA p.init.length IC, .slice (some ⟨b26, 0, none⟩) 1 1, Go.Proofs.YtbgnapmaimkpkaaGreatDoor.b8 p.ask, Go.Proofs.YtbgnapmaimkpkaaGreatDoor.b8 0, Go.Proofs.YtbgnapmaimkpkaaGreatDoor.b8 0, Go.Proofs.YtbgnapmaimkpkaaGreatDoor.b8 0, Go.Proofs.YtbgnapmaimkpkaaGreatDoor.b8 0, .slice none 0 0] 29]) F (3) [(8, Go.Proofs.YtbgnapmaimkpkaaGreatDoor.b8 1)] (by repeat (first | exact SubR.nil | (apply SubR.cons; · rfl))) ?_ ?_ ?_
  · exact ⟨1, rfl, rfl, by decide, by decide, H.sel [0, 2, 3] rfl rfl⟩
  · repeat (first | exact trivial | refine Le.cons rfl ?_)
  clear F
  clear H
  intro m ups a w hI F
  obtain ⟨mc, rfl, rfl, hm1, hm4, H⟩ := hI
  refine cSeq (fun K12 hK12 => ?_)
  refine cSR fun K13 hK13=>sMv F rfl rfl rfl (qBin rfl rfl rfl rfl (bLeqB (y := 3)) (qNK hK13 ?_));clear hK13;clear F a;intro a F
  refine cIf F rfl (fun h39 => ?_) (fun h39 => ?_)
  ·
   replace h39 := of_decide_eq_true h39
   have hm3 : mc.toNat ≤ 3 := UInt8.le_iff_toNat_le.1 h39
   have hkm : (1 : UInt8) ≤ mc ∧ mc ≤ 3 := ⟨UInt8.le_iff_toNat_le.2 hm1, h39⟩
   refine wp_skip (hK12 _ _ ?_);clear hK12
   refine cSeq (fun K14 hK14 => ?_)
   refine wp_block ?_
   refine cSR fun K15 hK15=>?_
   refine sLr Tryz.underlying29 rfl ?si F rfl rfl rfl (H.whole 2 rfl) ?_
   case si => exact info_size Tryz.sizeOf29
   clear F a; intro a F
   refine sMv F rfl rfl rfl ?_;clear F a;intro a F
   refine sCall Tryz.call12 F rfl rfl rfl (finals15_any _ (oneT p l) _ (one_at H 1 rfl hp hT2 hT3) (hN.own H) mc hkm) ?_
   rintro e w ⟨A2, k2, l2, q2, rfl, hq2, hf2, H2⟩
   replace H := H.join H2; clear H2
   refine ⟨_, rfl, ?_⟩
   clear F a; intro a F
   refine sMv F rfl rfl rfl (qExt rfl rfl rfl rfl (qExt rfl rfl rfl rfl (qExt rfl rfl rfl rfl (qAs rfl rfl rfl (qAs rfl rfl rfl (qAs rfl rfl rfl (qNK hK15 (qSR fun K16 hK16=>qMv rfl rfl rfl (qNot rfl rfl rfl (qMv rfl rfl rfl ?_))))))))));clear hK15;clear F a;intro a F
   refine F.split 51 rfl ?_ ?_ <;> (clear F; intro h51 F)
   ·
    replace h51 := notT h51
    cases h51
   replace h51 := notF h51
   refine sMv F rfl rfl rfl (qMv rfl rfl rfl ?_);clear F a;intro a F
   refine F.split 53 rfl ?_ ?_ <;> (clear F; intro h53 F)
   ·
    refine sMv F rfl rfl rfl (qLrB Tryz.underlying47 rfl Tryz.sizeOf47 rfl rfl rfl (H.whole 1 rfl) ?_);clear F a;intro a F
    refine sBsA H Tryz.underlying30 Tryz.sizeOf47 Tryz.zeroValue47 rfl F rfl rfl rfl rfl rfl ?_
    clear F a H; intro b56 a w F H
    refine sCall Tryz.call16 F rfl rfl rfl (fins_true A2 (some ⟨b56, 0, none⟩) k2 1 l2 [playF (oneT p l) []] _ (H.rowsAt 1 rfl (bs38_len _) (by decide)) (RowsAt.ofRange (sz := 38) (rows := [playF (oneT p l) []].map (bs 38)) (H.whole 0 rfl) (bs38_len _)) (fin_short hf2) (show 1 ≤ 9223372036854775807 by decide) (alone_same hvq rfl (by unfold knownM; simpa using hkm) hf2 (hq2.1 h53))) ?_
    rintro e w ⟨rfl, hb⟩
    replace H := H.grow hb; clear hb
    refine ⟨_, rfl, ?_⟩
    clear F a; intro a F
    refine sNot F rfl rfl rfl (qPk rfl rfl rfl rfl (qPk rfl rfl rfl rfl (qNK hK16 ?_)));clear hK16;clear F a;intro a F
    refine cIf F rfl (fun h60 => ?_) (fun h60 => ?_)
    ·
     replace h60 := notT h60
     cases h60
    replace h60 := notF h60
    refine wp_skip (hK14 _ _ (cReg (sMv F rfl rfl rfl (qBin rfl rfl rfl rfl (bAddB (y := 1)) (qAs rfl rfl rfl ?_)))));clear hK14;clear F a;intro a F
    refine sNil ?_
    have he : (mc + 1).toNat = mc.toNat + 1 := by
     rw [UInt8.toNat_add]
     show (mc.toNat + 1) % 256 = _
     omega
    exact ⟨_, by omega, _, ⟨mc + 1, rfl, rfl, by omega, by omega, H.sel [2, 3, 4] rfl rfl⟩, F.to (by repeat (first | exact trivial | refine Le.cons rfl ?_))⟩
   refine sSk F rfl rfl (qSk rfl rfl (qSk rfl rfl (qSk rfl rfl (qSk rfl rfl (qPk rfl rfl rfl rfl (qPk rfl rfl rfl rfl (qNK hK16 ?_)))))));clear hK16;clear F a;intro a F
   refine cIfF F rfl ?_
   refine wp_skip (hK14 _ _ (cReg (sMv F rfl rfl rfl (qBin rfl rfl rfl rfl (bAddB (y := 1)) (qAs rfl rfl rfl ?_)))));clear hK14;clear F a;intro a F
   refine sNil ?_
   have he : (mc + 1).toNat = mc.toNat + 1 := by
    rw [UInt8.toNat_add]
    show (mc.toNat + 1) % 256 = _
    omega
   exact ⟨_, by omega, _, ⟨mc + 1, rfl, rfl, by omega, by omega, H.sel [1, 2, 3] rfl rfl⟩, F.to (by repeat (first | exact trivial | refine Le.cons rfl ?_))⟩
  replace h39 := of_decide_eq_false h39
  refine wp_exit ?_
  refine hK10 _ _ (cSR fun K17 hK17=>?_);clear hK10
  refine sCall Tryz.call14 F rfl rfl rfl (awake15_any _ (hN.own H)) ?_
  rintro e w ⟨rfl, hb⟩
  replace H := H.grow hb; clear hb
  refine ⟨_, rfl, ?_⟩
  clear F a; intro a F
  refine sAs F rfl rfl rfl (qNK hK17 ?_);clear hK17;clear F a;intro a F
  refine wp_ret ?_
  refine bRet Tryz.results8 F rfl ?_
  exact ⟨rfl, H.below⟩
end Go.Proofs.YtbgnapmaimkpkaaGreatDoor
