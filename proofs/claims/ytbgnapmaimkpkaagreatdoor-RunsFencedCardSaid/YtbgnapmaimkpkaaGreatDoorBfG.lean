/-
  WALK2. Package buffer: Move, Play. Conditions: the program and the picks lie in memory; block 0 holds the table of needs.
-/
import Derived.Test.YtbgnapmaimkpkaaGreatDoorBfT1
set_option linter.unusedSimpArgs false
set_option linter.unusedVariables false
namespace Go.Proofs.YtbgnapmaimkpkaaGreatDoor
open Go.RowKit
set_option maxRecDepth 100000

def moveSM (p : Prg) (m : UInt8) (s : By) (x : Pss) : By := if x ∈ movesR p m s then stepM p m s x else zb
def moveEM (p : Prg) (m : UInt8) (s : By) (x : Pss) : Int := if x ∈ movesR p m s then 0 else 2
theorem mem_movesR {p : Prg} {m : UInt8} {s : By} {x : Pss} (h : x ∈ movesR p m s) : RightM p m s ∧ x ∈ movesM p m s := by
  unfold movesR at h
  split at h
  · rename_i hr; exact ⟨rightM_iff.1 hr, h⟩
  · simp at h
theorem movesR_eq {p : Prg} {m : UInt8} {s : By} (h : RightM p m s) : movesR p m s = movesM p m s := by rw [movesR, rightM_iff.2 h]; rfl
theorem moveM_any (cs : List Value) (p : Prg) (w0 : World) (hP : ProgAt w0 cs p) (hN : NeedsAt w0) (mc : UInt8) (s : By) (x : Pss) :
    Calls Tryz.prog 28 #[.agg cs.toArray, Go.Proofs.YtbgnapmaimkpkaaGreatDoor.b8 mc, .agg (bs 142 s).toArray, .agg x.cells.toArray] w0 fun e w' => e = .returned (.tuple #[.agg (bs 142 (moveSM p mc s x)).toArray, .int .i64 (moveEM p mc s x)]) ∧ Below w0.heap.size w0 w' := by
  have H := Own.start w0 none
  obtain ⟨d1, d2, d3, d4, d5, d6, d7, d8, d9, d10, rfl⟩ := hP.len10
  refine enterF Tryz.func28 rfl Tryz.ntmps28 rfl (fun a F => ?_)
  refine cSR fun K1 hK1=>?_
  refine sBx H F rfl rfl rfl ?_
  clear F a H; intro b4 a w F H
  refine sBxB H F rfl rfl rfl ?_
  clear F a H; intro b6 a w F H
  refine sBx H F rfl rfl rfl ?_
  clear F a H; intro b7 a w F H
  refine sAlB H zB70 F rfl rfl ?_
  clear F a H; intro b8 a w F H
  refine sAs F rfl rfl rfl (qNK hK1 ?_);clear hK1;clear F a;intro a F
  refine cSeq (fun K2 hK2 => ?_)
  refine cSeq (fun K3 hK3 => ?_)
  refine cRegRO (by kernel_rfl) H ?_
  replace H := H.drew
  refine eTake (k := 0) (i := 0) rfl (by kernel_rfl) F rfl rfl rfl rfl (fun w H => rLr Tryz.underlying29 rfl ?si F rfl (H.whole 3 rfl)) (H.sel [0, 1, 2, 3] rfl rfl) (fun _ _ _ h => h) ?_
  case si => exact info_size Tryz.sizeOf29
  clear F a; intro a F
  refine eTF 1 rfl (by kernel_rfl) F rfl rfl rfl (fun w=>rMv F rfl) H qq0 (qT 2 rfl (by kernel_rfl) rfl rfl rfl rfl (fun a F w H=>rLrB Tryz.underlying70 rfl Tryz.sizeOf70 F rfl (H.whole 2 rfl)) H qq0 ?_);clear F a;intro a F
  refine eTake (k := 3) (i := 4) rfl (by kernel_rfl) F rfl rfl rfl rfl (fun w H => rLr Tryz.underlying86 rfl ?si F rfl (H.whole 1 rfl)) (H.sel [0, 1, 2, 3] rfl rfl) (fun _ _ _ h => h) ?_
  case si => exact info_size Tryz.sizeOf86
  clear F a; intro a F
  refine eOne (k := 4) (i := 3) rfl (by kernel_rfl) F rfl (oCall Tryz.call27 F rfl rfl (movesR_any _ p _ (hP.own H) (hN.own H) mc s) ?_)
  rintro e w ⟨A, c, rfl, H2⟩
  replace H := H.join H2; clear H2
  refine ⟨_, rfl, ?_⟩
  clear F a; intro a F
  refine eKeep (H.sel [1, 2, 3, 4] rfl rfl) ?_
  refine eOne (k := 5) (i := 5) rfl (by kernel_rfl) F rfl (oCall Tryz.call53 F rfl rfl (containsX_any A c (movesR p mc s) x _ (H.rowsAt 0 rfl (rowX _) (by decide)) (by have := (H.rwsLen 0 rfl).2; simp only [maxLen] at this; omega)) ?_)
  rintro e w ⟨rfl, hb⟩
  replace H := H.grow hb; clear hb
  refine ⟨_, rfl, ?_⟩
  clear F a; intro a F
  refine ePartO (by kernel_rfl) H ?_
  refine eTF 6 rfl (by kernel_rfl) F rfl rfl rfl (fun w=>rNot F rfl) H qq0 ?_;clear F a;intro a F
  refine eNil (k := 7) (by kernel_rfl) ?_
  refine hK3 _ _ ?_;clear hK3
  refine cIf F rfl (fun h16 => ?_) (fun h16 => ?_)
  ·
   replace h16 := notT h16
   have hin : ¬ x ∈ movesR p mc s := of_decide_eq_false h16
   refine cSR fun K4 hK4=>sBdB (places := [(0, 36), (36, 6), (42, 96), (138, 4)]) zB70 Tryz.underlying70 (by kernel_rfl) F rfl rfl rfl FillB.nil ?_;clear F a;intro a F
   refine sSrB H 1 Tryz.sizeOf70 F rfl rfl rfl rfl (by omega) ?_
   clear H; intro w H
   rw [lay_all] at H
   refine sAs F rfl rfl rfl (qNK hK4 ?_);clear hK4;clear F a;intro a F
   refine wp_ret ?_
   simp only [Exit.then]
   refine bRetB1 Tryz.results28 F rfl rfl Tryz.underlying70 rfl Tryz.sizeOf70 H 1 rfl ?_
   first
     | exact ⟨by rw [moveSM, if_pos hin, moveEM, if_pos hin], H.below⟩
     | exact ⟨by rw [moveSM, if_neg hin, moveEM, if_neg hin], H.below⟩
  replace h16 := notF h16
  have hin : x ∈ movesR p mc s := of_decide_eq_true h16
  obtain ⟨hr, hxm⟩ := mem_movesR hin
  refine wp_skip (hK2 _ _ (cSR fun K5 hK5=>?_));clear hK2
  refine sLr Tryz.underlying29 rfl ?si F rfl rfl rfl (H.whole 4 rfl) ?_
  case si => exact info_size Tryz.sizeOf29
  clear F a; intro a F
  refine sMv F rfl rfl rfl (qLrB Tryz.underlying70 rfl Tryz.sizeOf70 rfl rfl rfl (H.whole 3 rfl) ?_);clear F a;intro a F
  refine sLr Tryz.underlying86 rfl ?si F rfl rfl rfl (H.whole 2 rfl) ?_
  case si => exact info_size Tryz.sizeOf86
  clear F a; intro a F
  refine sCall Tryz.call54 F rfl rfl rfl (stepM_any _ p _ (hP.own H) (hN.own H) mc s x hr hxm) ?_
  rintro e w ⟨rfl, hb⟩
  replace H := H.grow hb; clear hb
  refine ⟨_, rfl, ?_⟩
  clear F a; intro a F
  refine sSrB H 1 Tryz.sizeOf70 F rfl rfl rfl rfl (by omega) ?_
  clear H; intro w H
  rw [lay_all] at H
  refine sAs F rfl rfl rfl (qNK hK5 ?_);clear hK5;clear F a;intro a F
  refine wp_ret ?_
  refine bRetB1 Tryz.results28 F rfl rfl Tryz.underlying70 rfl Tryz.sizeOf70 H 1 rfl ?_
  first
    | exact ⟨by rw [moveSM, if_pos hin, moveEM, if_pos hin], H.below⟩
    | exact ⟨by rw [moveSM, if_neg hin, moveEM, if_neg hin], H.below⟩
theorem start_rightM {p : Prg} {m : UInt8} (h : rightErr p = 0) (hm : knownM m = true) : RightM p m (startP p) ∧ ∀ t, t < 4 → manyB (startP p) t = 0 := by
  have hz : ∀ i, 42 ≤ i → startP p i = 0 := fun i hi => by rw [start_at h, if_neg (by have := (valid h).locs6; omega)]
  have hm0 : ∀ t, t < 4 → manyB (startP p) t = 0 := fun t ht => by unfold manyB; rw [hz _ (by omega)]; rfl
  have hr := start_right h
  unfold rightS stateOk at hr
  simp only [Bool.and_eq_true] at hr
  refine ⟨⟨hm, bare_ok h (allB_iff.1 hr.2.1.1) (allB_iff.1 hr.2.1.2), fun t ht => ?_⟩, hm0⟩
  rw [fits_iff, hm0 t ht]
  refine ⟨Nat.zero_le _, fun i hi => ?_⟩
  rw [slot_iff, hm0 t ht]
  exact ⟨fun _ => ⟨hz _ (by omega), hz _ (by omega)⟩, fun hh => absurd hh (by omega)⟩
def okM (p : Prg) (m : UInt8) : Prop := rightErr p = 0 ∧ knownM m = true
instance (p : Prg) (m : UInt8) : Decidable (okM p m) := by unfold okM; infer_instance
def playRM (p : Prg) (m : UInt8) (picks : List UInt8) : By × List Pss := playM p m picks 96 (startP p) []
def playFM (p : Prg) (m : UInt8) (picks : List UInt8) : By := if okM p m then finalP (playRM p m picks).1 else zb
def playOM (p : Prg) (m : UInt8) (picks : List UInt8) : List Pss := if okM p m then (playRM p m picks).2 else []
def playEM (p : Prg) (m : UInt8) : Int := if okM p m then 0 else 2
theorem playM_end {p : Prg} {m : UInt8} {picks : List UInt8} {s : By} {run : List Pss} (h : movesM p m s = []) : ∀ f, playM p m picks f s run = (s, run)
  | 0 => rfl
  | f + 1 => by unfold playM; simp [h]
theorem playM_step {p : Prg} {m : UInt8} {picks : List UInt8} {s : By} {run : List Pss} {f : Nat} {k : Pss} (h : movesM p m s ≠ []) (hk : pickM picks run.length (movesM p m s) = k) : playM p m picks (f + 1) s run = playM p m picks f (stepM p m s k) (run ++ [k]) := by
  rw [playM]; simp only [if_neg h, hk]
theorem pickM_some {picks : List UInt8} {n : Nat} {k : Pss} {l : List Pss} {x : UInt8} (hx : picks[n]? = some x) (hk : l[x.toNat % l.length]? = some k) : pickM picks n l = k := by
  unfold pickM; simp [hx, hk]
theorem pickM_none {picks : List UInt8} {n : Nat} {k : Pss} {l : List Pss} (hx : picks[n]? = none) (hk : l[0]? = some k) : pickM picks n l = k := by
  unfold pickM; rw [hx]; simp only [List.getD_eq_getElem?_getD, hk, Option.getD_some]
theorem nu_start {p : Prg} {m : UInt8} (h : rightErr p = 0) (hm : knownM m = true) : nu p (startP p) ≤ 96 := by
  obtain ⟨_, h0⟩ := start_rightM h hm
  have := mu_start h (startP p)
  unfold nu
  rw [h0 0 (by omega), h0 1 (by omega), h0 2 (by omega), h0 3 (by omega)]
  omega
set_option maxHeartbeats 4000000 in
theorem playM_any (cs : List Value) (p : Prg) (w0 : World) (hP : ProgAt w0 cs p) (hN : NeedsAt w0) (mc : UInt8) (PA : Option Addr) (PC : Nat) (picks : List UInt8) (hB : BytesAt w0 PA picks) (hBn : picks.length ≤ 9223372036854775807) :
    Calls Tryz.prog 31 #[.agg cs.toArray, Go.Proofs.YtbgnapmaimkpkaaGreatDoor.b8 mc, .slice PA picks.length PC] w0 fun e w' => ∃ A c, e = .returned (.tuple #[.agg (bs 38 (playFM p mc picks)).toArray, .slice A (playOM p mc picks).length c, .int .i64 (playEM p mc)]) ∧ Own w0 none w' [.rws 86 3 (.slice A (playOM p mc picks).length c) ((playOM p mc picks).map Pss.cells)] := by
  have H := Own.start w0 none
  obtain ⟨d1, d2, d3, d4, d5, d6, d7, d8, d9, d10, rfl⟩ := hP.len10
  refine enterF Tryz.func31 rfl Tryz.ntmps31 rfl (fun a F => ?_)
  refine cSR fun K1 hK1=>?_
  refine sBx H F rfl rfl rfl ?_
  clear F a H; intro b3 a w F H
  refine sAlB H zB47 F rfl rfl ?_
  clear F a H; intro b6 a w F H
  refine sAs F rfl rfl rfl (qAs rfl rfl rfl (qNK hK1 (qSR fun K2 hK2=>?_)));clear hK1;clear F a;intro a F
  refine sLr Tryz.underlying29 rfl ?si F rfl rfl rfl (H.whole 1 rfl) ?_
  case si => exact info_size Tryz.sizeOf29
  clear F a; intro a F
  refine sCall Tryz.call26 F rfl rfl rfl (start_any _ p _ (hP.own H) (hN.own H)) ?_
  rintro e w ⟨rfl, hb⟩
  replace H := H.grow hb; clear hb
  refine ⟨_, rfl, ?_⟩
  clear F a; intro a F
  refine sMv F rfl rfl rfl (qExt rfl rfl rfl rfl (qExt rfl rfl rfl rfl ?_));clear F a;intro a F
  refine sAlB H zB70 F rfl rfl ?_
  clear F a H; intro b9 a w F H
  refine sSrB H 0 Tryz.sizeOf70 F rfl rfl rfl rfl (by omega) ?_
  clear H; intro w H
  rw [lay_all] at H
  refine sAs F rfl rfl rfl (qNK hK2 ?_);clear hK2;clear F a;intro a F
  refine cSeq (fun K3 hK3 => ?_)
  refine cSR fun K4 hK4=>sMv F rfl rfl rfl (qBin rfl rfl rfl rfl bNeq (qMv rfl rfl rfl ?_));clear F a;intro a F
  refine F.split 21 rfl ?_ ?_ <;> (clear F; intro h21 F)
  ·
   replace h21 := bneT h21
   have hno : ¬ okM p mc := fun h => h21 (by rw [startE, if_pos h.1])
   refine sSk F rfl rfl (qSk rfl rfl (qSk rfl rfl (qPk rfl rfl rfl rfl (qNK hK4 ?_))));clear hK4;clear F a;intro a F
   refine cIfT F rfl ?_
   refine cSR fun K5 hK5=>sBdB (places := [(0, 32), (32, 6)]) zB47 Tryz.underlying47 (by kernel_rfl) F rfl rfl rfl FillB.nil ?_;clear F a;intro a F
   refine sSrB H 1 Tryz.sizeOf47 F rfl rfl rfl rfl (by omega) ?_
   clear H; intro w H
   rw [lay_all] at H
   refine sAs F rfl rfl rfl (qAs rfl rfl rfl (qNK hK5 ?_));clear hK5;clear F a;intro a F
   refine wp_ret ?_
   simp only [Exit.then]
   refine bRetB2 Tryz.results31 F rfl rfl rfl Tryz.underlying47 rfl Tryz.sizeOf47 H 1 rfl ?_
   first
     | exact ⟨none, 0, by rw [playFM, if_neg hno, playOM, if_neg hno, playEM, if_neg hno]; rfl, by rw [playOM, if_neg hno]; exact (H.nilRws _ _).pick 0 rfl⟩
     | (have he : movesM p mc s = [] := List.eq_nil_of_length_eq_zero (by omega)
        have e1 : playRM p mc picks = (s, run) := by rw [hplay, playM_end he]
        exact ⟨A, c, by rw [playFM, if_pos hok, playOM, if_pos hok, e1, playEM, if_pos hok], by rw [playOM, if_pos hok, e1]; exact H.pick 0 rfl⟩)
  replace h21 := bneF h21
  have hp : rightErr p = 0 := by
    apply Decidable.byContradiction
    intro h
    rw [startE, if_neg h] at h21
    cases h21
  have hv := valid hp
  have eS : startS p = startP p := if_pos hp
  rw [eS] at H
  refine sMv F rfl rfl rfl ?_;clear F a;intro a F
  refine sCall Tryz.call57 F rfl rfl rfl (known_any mc _) ?_
  rintro e w ⟨rfl, hb⟩
  replace H := H.grow hb; clear hb
  refine ⟨_, rfl, ?_⟩
  clear F a; intro a F
  refine sNot F rfl rfl rfl (qPk rfl rfl rfl rfl (qNK hK4 ?_));clear hK4;clear F a;intro a F
  refine cIf F rfl (fun h25 => ?_) (fun h25 => ?_)
  ·
   replace h25 := notT h25
   have hno : ¬ okM p mc := fun h => by rw [h.2] at h25; cases h25
   refine cSR fun K6 hK6=>sBdB (places := [(0, 32), (32, 6)]) zB47 Tryz.underlying47 (by kernel_rfl) F rfl rfl rfl FillB.nil ?_;clear F a;intro a F
   refine sSrB H 1 Tryz.sizeOf47 F rfl rfl rfl rfl (by omega) ?_
   clear H; intro w H
   rw [lay_all] at H
   refine sAs F rfl rfl rfl (qAs rfl rfl rfl (qNK hK6 ?_));clear hK6;clear F a;intro a F
   refine wp_ret ?_
   simp only [Exit.then]
   refine bRetB2 Tryz.results31 F rfl rfl rfl Tryz.underlying47 rfl Tryz.sizeOf47 H 1 rfl ?_
   first
     | exact ⟨none, 0, by rw [playFM, if_neg hno, playOM, if_neg hno, playEM, if_neg hno]; rfl, by rw [playOM, if_neg hno]; exact (H.nilRws _ _).pick 0 rfl⟩
     | (have he : movesM p mc s = [] := List.eq_nil_of_length_eq_zero (by omega)
        have e1 : playRM p mc picks = (s, run) := by rw [hplay, playM_end he]
        exact ⟨A, c, by rw [playFM, if_pos hok, playOM, if_pos hok, e1, playEM, if_pos hok], by rw [playOM, if_pos hok, e1]; exact H.pick 0 rfl⟩)
  replace h25 := notF h25
  have hk : knownM mc = true := h25
  have hok : okM p mc := ⟨hp, hk⟩
  obtain ⟨hr0, hm0⟩ := start_rightM hp hk
  refine wp_skip (hK3 _ _ (cSR fun K7 hK7=>sAs F rfl rfl rfl ?_));clear hK3;clear F a;intro a F
  replace H := H.nilRws 86 3
  refine nK hK7 ?_;clear hK7
  refine cSeq (fun K8 hK8 => ?_)
  refine cSR fun K9 hK9=>?_
  refine sLr Tryz.underlying29 rfl ?si F rfl rfl rfl (H.whole 3 rfl) ?_
  case si => exact info_size Tryz.sizeOf29
  clear F a; intro a F
  refine sMv F rfl rfl rfl (qLrB Tryz.underlying70 rfl Tryz.sizeOf70 rfl rfl rfl (H.whole 1 rfl) ?_);clear F a;intro a F
  refine sCall Tryz.call52 F rfl rfl rfl (movesM_any _ p _ (hP.own H) hv.thr4 mc (startP p) (fun t ht => (hr0.many ht).1)) ?_
  rintro e w ⟨A2, c2, rfl, H2⟩
  replace H := H.join H2; clear H2
  refine ⟨_, rfl, ?_⟩
  clear F a; intro a F
  refine sAs F rfl rfl rfl (qNK hK9 ?_);clear hK9;clear F a;intro a F
  refine wp_block ?_
  refine cLoopR [1, 2, 3, 6, 9] (fun m ups w => ∃ (s : By) (run : List Pss) (A A2 : Option Addr) (c c2 f : Nat), m = nu p s ∧ ups = [(11, .slice A run.length c), (12, .slice A2 (movesM p mc s).length c2)] ∧ RightM p mc s ∧ playRM p mc picks = playM p mc picks f s run ∧ nu p s ≤ f ∧ run.length + f ≤ 96 ∧ Own w0 none w [.rws 86 3 (.slice A2 (movesM p mc s).length c2) ((movesM p mc s).map Pss.cells), .rws 86 3 (.slice A run.length c) (run.map Pss.cells), .blk b9 (bs 142 s) 70, .blk b6 (bs 38 zb) 47, .blk b3 [d1, d2, d3, d4, d5, d6, d7, d8, d9, d10] 29]) F (nu p (startP p)) [(11, .slice none 0 0), (12, .slice A2 (movesM p mc (startP p)).length c2)] (by repeat (first | exact SubR.nil | (apply SubR.cons; · rfl))) ?_ ?_ ?_
  · exact ⟨startP p, [], none, A2, 0, c2, 96, rfl, rfl, hr0, rfl, nu_start hp hk, by simp, H.sel [0, 1, 2, 3, 4] rfl rfl⟩
  · repeat (first | exact trivial | refine Le.cons rfl ?_)
  clear F
  clear H
  intro m ups a w hI F
  obtain ⟨s, run, A, A2, c, c2, f, rfl, rfl, hr, hplay, hmu, hlen, H⟩ := hI
  refine cSeq (fun K10 hK10 => ?_)
  refine cSR fun K11 hK11=>sMv F rfl rfl rfl (qLen Tryz.underlying58 rfl rfl rfl (qBin rfl rfl rfl rfl bGtr (qNK hK11 ?_)));clear hK11;clear F a;intro a F
  refine cIf F rfl (fun h33 => ?_) (fun h33 => ?_)
  ·
   replace h33 := of_decide_eq_true h33
   refine wp_skip (hK10 _ _ ?_);clear hK10
   refine cSeq (fun K12 hK12 => ?_)
   refine wp_block ?_
   refine cSR fun K13 hK13=>sAs F rfl rfl rfl (qNK hK13 ?_);clear hK13;clear F a;intro a F
   refine cSeq (fun K14 hK14 => ?_)
   refine cSR fun K15 hK15=>sMv F rfl rfl rfl (qLen Tryz.underlying58 rfl rfl rfl (qMv rfl rfl rfl (qLen Tryz.underlying23 rfl rfl rfl (qBin rfl rfl rfl rfl bLss (qNK hK15 ?_)))));clear hK15;clear F a;intro a F
   refine cIf F rfl (fun h42 => ?_) (fun h42 => ?_)
   ·
    replace h42 := of_decide_eq_true h42
    have hne : movesM p mc s ≠ [] := fun e => by rw [e] at h33; simp at h33
    have hpos : 0 < (movesM p mc s).length := List.length_pos_iff.2 hne
    obtain ⟨x, hx⟩ : ∃ x, picks[run.length]? = some x := ⟨_, List.getElem?_eq_getElem (by omega)⟩
    obtain ⟨bP, oP, rfl, hPx⟩ := hB.get hx
    have hq : x.toNat % (movesM p mc s).length < (movesM p mc s).length := Nat.mod_lt _ hpos
    obtain ⟨k, hk⟩ : ∃ k, (movesM p mc s)[x.toNat % (movesM p mc s).length]? = some k := ⟨_, List.getElem?_eq_getElem hq⟩
    have hpk := pickM_some hx hk
    obtain ⟨bL, oL, rfl, _⟩ := H.rowsAt 0 rfl (rowX _) (by decide) _ _ (by rw [List.getElem?_map, hk]; rfl)
    have hmem : k ∈ movesM p mc s := List.mem_of_getElem? hk
    refine cReg (sMv F rfl rfl rfl (qMv rfl rfl rfl (qLen Tryz.underlying58 rfl rfl rfl ?_)));clear F a;intro a F
    refine sIx Tryz.underlying23 Tryz.sizeOf5 F rfl rfl rfl rfl ?_ ?_
    focus (first | omega | decide | (simp; omega))
    clear F a; intro a F
    refine sLd Tryz.isAgg5 F rfl rfl rfl (H.arg hPx) (qCv Tryz.underlying5 Tryz.underlying3 rfl rfl rfl (wrapB _) (qMv rfl rfl rfl (qLen Tryz.underlying58 rfl rfl rfl ?_)));clear F a;intro a F
    refine sBin F rfl rfl rfl rfl (bRemN ?_) ?_
    focus omega
    clear F a; intro a F
    refine sAs F rfl rfl rfl (qNK hK14 (qSR fun K16 hK16=>qMv rfl rfl rfl (qMv rfl rfl rfl (qMv rfl rfl rfl ?_))));clear hK14;clear F a;intro a F
    refine sIx Tryz.underlying58 Tryz.sizeOf86 F rfl rfl rfl rfl ?_ ?_
    focus exact hq
    clear F a; intro a F
    refine sLr Tryz.underlying86 rfl ?si F rfl rfl rfl (by obtain ⟨b', o', h1, h2⟩ := H.rowsAt 0 rfl (rowX _) (by decide) _ _ (by rw [List.getElem?_map, hk]; rfl); cases h1; exact h2) ?_
    case si => exact info_size Tryz.sizeOf86
    clear F a; intro a F
    refine sBsA H Tryz.underlying58 Tryz.sizeOf86 Tryz.zeroValue86 rfl F rfl rfl rfl rfl rfl ?_
    clear F a H; intro b57 a w F H
    refine sApp1 (bytes := 3) H 2 Tryz.underlying58 Tryz.typeInfo86 rfl rfl rfl rfl rfl rfl F rfl rfl rfl rfl rfl (H.whole 0 rfl) rfl ?s1 ?s2 ?_
    case s1 => first | rfl | (repeat (first | exact one_nil | (apply one_cons; · first | rfl | assumption | exact one_bif rfl rfl)))
    case s2 => (rw [List.length_map]; omega)
    clear F a H; intro A58 c58 a w F H
    refine sAs F rfl rfl rfl (qNK hK16 ?_);clear hK16;clear F a;intro a F
    refine cRegRO (by kernel_rfl) H ?_
    replace H := H.drew
    refine eTake (k := 0) (i := 0) rfl (by kernel_rfl) F rfl rfl rfl rfl (fun w H => rLr Tryz.underlying29 rfl ?si F rfl (H.whole 5 rfl)) (H.sel [0, 1, 2, 3, 4, 5] rfl rfl) (fun _ _ _ h => h) ?_
    case si => exact info_size Tryz.sizeOf29
    clear F a; intro a F
    refine eTF 1 rfl (by kernel_rfl) F rfl rfl rfl (fun w=>rMv F rfl) H qq0 (qT 2 rfl (by kernel_rfl) rfl rfl rfl rfl (fun a F w H=>rLrB Tryz.underlying70 rfl Tryz.sizeOf70 F rfl (H.whole 3 rfl)) H qq0 (qTF 3 rfl (by kernel_rfl) rfl rfl rfl (fun a F w=>rMv F rfl) H qq0 (qTF 4 rfl (by kernel_rfl) rfl rfl rfl (fun a F w=>rMv F rfl) H qq0 ?_)));clear F a;intro a F
    refine eTakeF (k := 5) (i := 5) rfl (by kernel_rfl) F rfl rfl rfl (fun w => rIx Tryz.underlying58 Tryz.sizeOf86 F rfl rfl ?_) (H.sel [0, 1, 2, 3, 4, 5] rfl rfl) (fun _ _ _ h => h) ?_
    focus exact hq
    clear F a; intro a F
    refine eTake (k := 6) (i := 6) rfl (by kernel_rfl) F rfl rfl rfl rfl (fun w H => rLr Tryz.underlying86 rfl ?si F rfl (by obtain ⟨b', o', h1, h2⟩ := H.rowsAt 1 rfl (rowX _) (by decide) _ _ (by rw [List.getElem?_map, hk]; rfl); cases h1; exact h2)) (H.sel [0, 1, 2, 3, 4, 5] rfl rfl) (fun _ _ _ h => h) ?_
    case si => exact info_size Tryz.sizeOf86
    clear F a; intro a F
    refine eOne (k := 7) (i := 7) rfl (by kernel_rfl) F rfl (oCall Tryz.call54 F rfl rfl (stepM_any _ p _ (hP.own H) (hN.own H) mc s k hr hmem) ?_)
    rintro e w ⟨rfl, hb⟩
    replace H := H.grow hb; clear hb
    refine ⟨_, rfl, ?_⟩
    clear F a; intro a F
    refine ePartO (by kernel_rfl) H ?_
    refine eOne (k := 8) (i := 8) rfl (by kernel_rfl) F rfl (oSrB H 3 Tryz.sizeOf70 F rfl rfl rfl (by omega) ?_)
    clear H; intro w H
    rw [lay_all] at H
    refine ePartO (by kernel_rfl) H ?_
    refine eNil (k := 9) (by kernel_rfl) ?_
    refine hK12 _ _ (cReg ?_);clear hK12
    refine sLr Tryz.underlying29 rfl ?si F rfl rfl rfl (H.whole 5 rfl) ?_
    case si => exact info_size Tryz.sizeOf29
    clear F a; intro a F
    refine sMv F rfl rfl rfl (qLrB Tryz.underlying70 rfl Tryz.sizeOf70 rfl rfl rfl (H.whole 3 rfl) ?_);clear F a;intro a F
    refine sCall Tryz.call52 F rfl rfl rfl (movesM_any _ p _ (hP.own H) hv.thr4 mc (stepM p mc s k) (fun t ht => ((went hr hmem).right.many ht).1)) ?_
    rintro e w ⟨A3, c3, rfl, H2⟩
    replace H := H.join H2; clear H2
    refine ⟨_, rfl, ?_⟩
    clear F a; intro a F
    refine sAs F rfl rfl rfl ?_;clear F a;intro a F
    refine sNil ?_
    have hr2 := (went hr hmem).right
    have hmu2 := (went hr hmem).nu
    have eR : run.map Pss.cells ++ [k.cells] = (run ++ [k]).map Pss.cells := by simp
    have eL : (run.map Pss.cells ++ [k.cells]).length = (run ++ [k]).length := by rw [eR, List.length_map]
    obtain ⟨f2, rfl⟩ : ∃ f2, f = f2 + 1 := ⟨f - 1, by omega⟩
    refine ⟨_, hmu2, _, ⟨stepM p mc s k, run ++ [k], A58, A3, c58, c3, f2, rfl, rfl, hr2, by rw [hplay, playM_step hne hpk], by omega, by simp; omega, ?_⟩, ?_⟩
    · rw [← eR, ← eL]; exact H.sel [0, 3, 4, 5, 6] rfl rfl
    · rw [← eL]; exact F.to (by repeat (first | exact trivial | refine Le.cons rfl ?_))
   replace h42 := of_decide_eq_false h42
   have hne : movesM p mc s ≠ [] := fun e => by rw [e] at h33; simp at h33
   have hq : 0 < (movesM p mc s).length := List.length_pos_iff.2 hne
   have hx : picks[run.length]? = none := List.getElem?_eq_none (by omega)
   obtain ⟨k, hk⟩ : ∃ k, (movesM p mc s)[0]? = some k := ⟨_, List.getElem?_eq_getElem hq⟩
   have hpk := pickM_none (n := run.length) hx hk
   obtain ⟨bL, oL, rfl, _⟩ := H.rowsAt 0 rfl (rowX _) (by decide) _ _ (by rw [List.getElem?_map, hk]; rfl)
   have hmem : k ∈ movesM p mc s := List.mem_of_getElem? hk
   refine wp_skip (hK14 _ _ (cSR fun K17 hK17=>sMv F rfl rfl rfl (qMv rfl rfl rfl (qMv rfl rfl rfl ?_))));clear hK14;clear F a;intro a F
   refine sIx Tryz.underlying58 Tryz.sizeOf86 F rfl rfl rfl rfl ?_ ?_
   focus exact hq
   clear F a; intro a F
   refine sLr Tryz.underlying86 rfl ?si F rfl rfl rfl (by obtain ⟨b', o', h1, h2⟩ := H.rowsAt 0 rfl (rowX _) (by decide) _ _ (by rw [List.getElem?_map, hk]; rfl); cases h1; exact h2) ?_
   case si => exact info_size Tryz.sizeOf86
   clear F a; intro a F
   refine sBsA H Tryz.underlying58 Tryz.sizeOf86 Tryz.zeroValue86 rfl F rfl rfl rfl rfl rfl ?_
   clear F a H; intro b57 a w F H
   refine sApp1 (bytes := 3) H 2 Tryz.underlying58 Tryz.typeInfo86 rfl rfl rfl rfl rfl rfl F rfl rfl rfl rfl rfl (H.whole 0 rfl) rfl ?s1 ?s2 ?_
   case s1 => first | rfl | (repeat (first | exact one_nil | (apply one_cons; · first | rfl | assumption | exact one_bif rfl rfl)))
   case s2 => (rw [List.length_map]; omega)
   clear F a H; intro A58 c58 a w F H
   refine sAs F rfl rfl rfl (qNK hK17 ?_);clear hK17;clear F a;intro a F
   refine cRegRO (by kernel_rfl) H ?_
   replace H := H.drew
   refine eTake (k := 0) (i := 0) rfl (by kernel_rfl) F rfl rfl rfl rfl (fun w H => rLr Tryz.underlying29 rfl ?si F rfl (H.whole 5 rfl)) (H.sel [0, 1, 2, 3, 4, 5] rfl rfl) (fun _ _ _ h => h) ?_
   case si => exact info_size Tryz.sizeOf29
   clear F a; intro a F
   refine eTF 1 rfl (by kernel_rfl) F rfl rfl rfl (fun w=>rMv F rfl) H qq0 (qT 2 rfl (by kernel_rfl) rfl rfl rfl rfl (fun a F w H=>rLrB Tryz.underlying70 rfl Tryz.sizeOf70 F rfl (H.whole 3 rfl)) H qq0 (qTF 3 rfl (by kernel_rfl) rfl rfl rfl (fun a F w=>rMv F rfl) H qq0 (qTF 4 rfl (by kernel_rfl) rfl rfl rfl (fun a F w=>rMv F rfl) H qq0 ?_)));clear F a;intro a F
   refine eTakeF (k := 5) (i := 5) rfl (by kernel_rfl) F rfl rfl rfl (fun w => rIx Tryz.underlying58 Tryz.sizeOf86 F rfl rfl ?_) (H.sel [0, 1, 2, 3, 4, 5] rfl rfl) (fun _ _ _ h => h) ?_
   focus exact hq
   clear F a; intro a F
   refine eTake (k := 6) (i := 6) rfl (by kernel_rfl) F rfl rfl rfl rfl (fun w H => rLr Tryz.underlying86 rfl ?si F rfl (by obtain ⟨b', o', h1, h2⟩ := H.rowsAt 1 rfl (rowX _) (by decide) _ _ (by rw [List.getElem?_map, hk]; rfl); cases h1; exact h2)) (H.sel [0, 1, 2, 3, 4, 5] rfl rfl) (fun _ _ _ h => h) ?_
   case si => exact info_size Tryz.sizeOf86
   clear F a; intro a F
   refine eOne (k := 7) (i := 7) rfl (by kernel_rfl) F rfl (oCall Tryz.call54 F rfl rfl (stepM_any _ p _ (hP.own H) (hN.own H) mc s k hr hmem) ?_)
   rintro e w ⟨rfl, hb⟩
   replace H := H.grow hb; clear hb
   refine ⟨_, rfl, ?_⟩
   clear F a; intro a F
   refine ePartO (by kernel_rfl) H ?_
   refine eOne (k := 8) (i := 8) rfl (by kernel_rfl) F rfl (oSrB H 3 Tryz.sizeOf70 F rfl rfl rfl (by omega) ?_)
   clear H; intro w H
   rw [lay_all] at H
   refine ePartO (by kernel_rfl) H ?_
   refine eNil (k := 9) (by kernel_rfl) ?_
   refine hK12 _ _ (cReg ?_);clear hK12
   refine sLr Tryz.underlying29 rfl ?si F rfl rfl rfl (H.whole 5 rfl) ?_
   case si => exact info_size Tryz.sizeOf29
   clear F a; intro a F
   refine sMv F rfl rfl rfl (qLrB Tryz.underlying70 rfl Tryz.sizeOf70 rfl rfl rfl (H.whole 3 rfl) ?_);clear F a;intro a F
   refine sCall Tryz.call52 F rfl rfl rfl (movesM_any _ p _ (hP.own H) hv.thr4 mc (stepM p mc s k) (fun t ht => ((went hr hmem).right.many ht).1)) ?_
   rintro e w ⟨A3, c3, rfl, H2⟩
   replace H := H.join H2; clear H2
   refine ⟨_, rfl, ?_⟩
   clear F a; intro a F
   refine sAs F rfl rfl rfl ?_;clear F a;intro a F
   refine sNil ?_
   have hr2 := (went hr hmem).right
   have hmu2 := (went hr hmem).nu
   have eR : run.map Pss.cells ++ [k.cells] = (run ++ [k]).map Pss.cells := by simp
   have eL : (run.map Pss.cells ++ [k.cells]).length = (run ++ [k]).length := by rw [eR, List.length_map]
   obtain ⟨f2, rfl⟩ : ∃ f2, f = f2 + 1 := ⟨f - 1, by omega⟩
   refine ⟨_, hmu2, _, ⟨stepM p mc s k, run ++ [k], A58, A3, c58, c3, f2, rfl, rfl, hr2, by rw [hplay, playM_step hne hpk], by omega, by simp; omega, ?_⟩, ?_⟩
   · rw [← eR, ← eL]; exact H.sel [0, 3, 4, 5, 6] rfl rfl
   · rw [← eL]; exact F.to (by repeat (first | exact trivial | refine Le.cons rfl ?_))
  replace h33 := of_decide_eq_false h33
  refine wp_exit ?_
  refine hK8 _ _ (cSR fun K18 hK18=>sLrB Tryz.underlying70 rfl Tryz.sizeOf70 F rfl rfl rfl (H.whole 2 rfl) ?_);clear hK8;clear F a;intro a F
  refine sCall Tryz.call29 F rfl rfl rfl (final_any s _) ?_
  rintro e w ⟨rfl, hb⟩
  replace H := H.grow hb; clear hb
  refine ⟨_, rfl, ?_⟩
  clear F a; intro a F
  refine sMv F rfl rfl rfl ?_;clear F a;intro a F
  refine sSrB H 3 Tryz.sizeOf47 F rfl rfl rfl rfl (by omega) ?_
  clear H; intro w H
  rw [lay_all] at H
  refine sAs F rfl rfl rfl (qAs rfl rfl rfl (qNK hK18 ?_));clear hK18;clear F a;intro a F
  refine wp_ret ?_
  refine bRetB2 Tryz.results31 F rfl rfl rfl Tryz.underlying47 rfl Tryz.sizeOf47 H 3 rfl ?_
  first
    | exact ⟨none, 0, by rw [playFM, if_neg hno, playOM, if_neg hno, playEM, if_neg hno]; rfl, by rw [playOM, if_neg hno]; exact (H.nilRws _ _).pick 0 rfl⟩
    | (have he : movesM p mc s = [] := List.eq_nil_of_length_eq_zero (by omega)
       have e1 : playRM p mc picks = (s, run) := by rw [hplay, playM_end he]
       exact ⟨A, c, by rw [playFM, if_pos hok, playOM, if_pos hok, e1, playEM, if_pos hok], by rw [playOM, if_pos hok, e1]; exact H.pick 1 rfl⟩)
end Go.Proofs.YtbgnapmaimkpkaaGreatDoor
