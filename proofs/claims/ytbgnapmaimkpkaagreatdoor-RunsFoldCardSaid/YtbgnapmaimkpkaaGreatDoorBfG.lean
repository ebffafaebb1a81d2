/-
  WALK2. Package buffer: Move, Play. Conditions: the program and the picks lie in memory; block 0 holds the table of needs.
-/
import Derived.Test.YtbgnapmaimkpkaaGreatDoorBfT1
set_option linter.unusedSimpArgs false
set_option linter.unusedVariables false
namespace Go.Proofs.YtbgnapmaimkpkaaGreatDoor
open Go.Proofs.Tryz
open Go.RowKit
set_option maxRecDepth 100000

def moveSM (p : Prg) (m : UInt8) (s : By) (x : Pss) : By := if x ∈ movesR p m s then stepM p m s x else zb
def moveEM (p : Prg) (m : UInt8) (s : By) (x : Pss) : Int := if x ∈ movesR p m s then 0 else 2
theorem mem_movesR {p : Prg} {m : UInt8} {s : By} {x : Pss} (h : x ∈ movesR p m s) : RightM p m s ∧ x ∈ movesM p m s := by
  unfold movesR at h
  split at h
  · rename_i hr; exact ⟨rightM_iff.1 hr, h⟩
  · simp at h
theorem movesR_eq {p : Prg} {m : UInt8} {s : By} (h : RightM p m s) : movesR p m s = movesM p m s := by rw [movesR, rightM_iff.2 h]; rfl
theorem moveM_any (cs : List Value) (p : Prg) (w0 : World) (hP : ProgAt w0 cs p) (hN : NeedsAt w0) (mc : UInt8) (s : By) (x : Pss) :
    Calls Tryz.prog 28 #[.agg cs.toArray, Go.Proofs.YtbgnapmaimkpkaaGreatDoor.b8 mc, .agg (bs 142 s).toArray, .agg x.cells.toArray] w0 fun e w' => e = .returned (.tuple #[.agg (bs 142 (moveSM p mc s x)).toArray, .int .i64 (moveEM p mc s x)]) ∧ Below w0.heap.size w0 w' := by
  have H := Own.start w0 none
  obtain ⟨d1, d2, d3, d4, d5, d6, d7, d8, d9, d10, rfl⟩ := hP.len10
  refine enterF func28 rfl ntmps28 rfl (fun a F => ?_);refine cSR fun K1 hK1=>?_;refine sBx H F rfl rfl rfl ?_;clear F a H; intro b4 a w F H;refine sBxB H F rfl rfl rfl ?_;clear F a H; intro b6 a w F H;refine sBx H F rfl rfl rfl ?_;clear F a H; intro b7 a w F H;refine sAlB H zB70 F rfl rfl ?_;clear F a H; intro b8 a w F H;refine sAs F rfl rfl rfl (qNK hK1 ?_);clear hK1;clear F a;intro a F;refine cSeq (fun K2 hK2 => ?_);refine cSeq (fun K3 hK3 => ?_);refine cRegRO (by kernel_rfl) H ?_;replace H := H.drew
  refine eTake (k := 0) (i := 0) rfl (by kernel_rfl) F rfl rfl rfl rfl (fun w H => rLr underlying29 rfl ?si F rfl (H.whole 3 rfl)) (H.sel [0, 1, 2, 3] rfl rfl) (fun _ _ _ h => h) ?_
  case si => exact info_size sizeOf29
  clear F a; intro a F;refine eTF 1 rfl (by kernel_rfl) F rfl rfl rfl (fun w=>rMv F rfl) H qq0 (qT 2 rfl (by kernel_rfl) rfl rfl rfl rfl (fun a F w H=>rLrB underlying70 rfl sizeOf70 F rfl (H.whole 2 rfl)) H qq0 ?_);clear F a;intro a F
  refine eTake (k := 3) (i := 4) rfl (by kernel_rfl) F rfl rfl rfl rfl (fun w H => rLr underlying86 rfl ?si F rfl (H.whole 1 rfl)) (H.sel [0, 1, 2, 3] rfl rfl) (fun _ _ _ h => h) ?_
  case si => exact info_size sizeOf86
  clear F a; intro a F;refine eOne (k := 4) (i := 3) rfl (by kernel_rfl) F rfl (oCall call27 F rfl rfl (movesR_any _ p _ (hP.own H) (hN.own H) mc s) ?_);rintro e w ⟨A, c, rfl, H2⟩;replace H := H.join H2; clear H2;refine ⟨_, rfl, ?_⟩;clear F a; intro a F;refine eKeep (H.sel [1, 2, 3, 4] rfl rfl) ?_;refine eOne (k := 5) (i := 5) rfl (by kernel_rfl) F rfl (oCall call53 F rfl rfl (containsX_any A c (movesR p mc s) x _ (H.rowsAt 0 rfl (rowX _) (by decide)) (by have := (H.rwsLen 0 rfl).2; simp only [maxLen] at this; omega)) ?_);rintro e w ⟨rfl, hb⟩;replace H := H.grow hb; clear hb;refine ⟨_, rfl, ?_⟩;clear F a; intro a F;refine ePartO (by kernel_rfl) H ?_;refine eTF 6 rfl (by kernel_rfl) F rfl rfl rfl (fun w=>rNot F rfl) H qq0 ?_;clear F a;intro a F;refine eNil (k := 7) (by kernel_rfl) ?_;refine hK3 _ _ ?_;clear hK3
  refine cIf F rfl (fun h16 => ?_) (fun h16 => ?_)
  ·
   replace h16 := notT h16
   have hin : ¬ x ∈ movesR p mc s := of_decide_eq_false h16
   refine cSR fun K4 hK4=>sBdB (places := [(0, 36), (36, 6), (42, 96), (138, 4)]) zB70 underlying70 (by kernel_rfl) F rfl rfl rfl FillB.nil ?_;clear F a;intro a F;refine sSrB H 1 sizeOf70 F rfl rfl rfl rfl (by omega) ?_;clear H; intro w H;rw [lay_all] at H;refine sAs F rfl rfl rfl (qNK hK4 ?_);clear hK4;clear F a;intro a F;refine wp_ret ?_;simp only [Exit.then];refine bRetB1 results28 F rfl rfl underlying70 rfl sizeOf70 H 1 rfl ?_
   first
     | exact ⟨by rw [moveSM, if_pos hin, moveEM, if_pos hin], H.below⟩
     | exact ⟨by rw [moveSM, if_neg hin, moveEM, if_neg hin], H.below⟩
  replace h16 := notF h16
  have hin : x ∈ movesR p mc s := of_decide_eq_true h16
  obtain ⟨hr, hxm⟩ := mem_movesR hin
  refine wp_skip (hK2 _ _ (cSR fun K5 hK5=>?_));clear hK2
  refine sLr underlying29 rfl ?si F rfl rfl rfl (H.whole 4 rfl) ?_
  case si => exact info_size sizeOf29
  clear F a; intro a F;refine sMv F rfl rfl rfl (qLrB underlying70 rfl sizeOf70 rfl rfl rfl (H.whole 3 rfl) ?_);clear F a;intro a F
  refine sLr underlying86 rfl ?si F rfl rfl rfl (H.whole 2 rfl) ?_
  case si => exact info_size sizeOf86
  clear F a; intro a F;refine sCall call54 F rfl rfl rfl (stepM_any _ p _ (hP.own H) (hN.own H) mc s x hr hxm) ?_;rintro e w ⟨rfl, hb⟩;replace H := H.grow hb; clear hb;refine ⟨_, rfl, ?_⟩;clear F a; intro a F;refine sSrB H 1 sizeOf70 F rfl rfl rfl rfl (by omega) ?_;clear H; intro w H;rw [lay_all] at H;refine sAs F rfl rfl rfl (qNK hK5 ?_);clear hK5;clear F a;intro a F;refine wp_ret ?_;refine bRetB1 results28 F rfl rfl underlying70 rfl sizeOf70 H 1 rfl ?_
  first
    | exact ⟨by rw [moveSM, if_pos hin, moveEM, if_pos hin], H.below⟩
    | exact ⟨by rw [moveSM, if_neg hin, moveEM, if_neg hin], H.below⟩
theorem start_rightM {p : Prg} {m : UInt8} (h : rightErr p = 0) (hm : knownM m = true) : RightM p m (startP p) ∧ ∀ t, t < 4 → manyB (startP p) t = 0 := by
  have hz : ∀ i, 42 ≤ i → startP p i = 0 := fun i hi => by rw [start_at h, if_neg (by have := (valid h).locs6; omega)]
  have hm0 : ∀ t, t < 4 → manyB (startP p) t = 0 := fun t ht => by unfold manyB; rw [hz _ (by omega)]; rfl
  have hr := start_right h
  unfold rightS stateOk at hr
  simp only [Bool.and_eq_true] at hr
  refine ⟨⟨hm, bare_ok h (allB_iff.1 hr.2.1.1) (allB_iff.1 hr.2.1.2), fun t ht => ?_⟩, hm0⟩
  rw [fits_iff, hm0 t ht]
  refine ⟨Nat.zero_le _, fun i hi => ?_⟩
  rw [slot_iff, hm0 t ht]
  exact ⟨fun _ => ⟨hz _ (by omega), hz _ (by omega)⟩, fun hh => absurd hh (by omega)⟩
def okM (p : Prg) (m : UInt8) : Prop := rightErr p = 0 ∧ knownM m = true
instance (p : Prg) (m : UInt8) : Decidable (okM p m) := by unfold okM; infer_instance
theorem playM_end {p : Prg} {m : UInt8} {picks : List UInt8} {s : By} {run : List Pss} (h : movesM p m s = []) : ∀ f, playM p m picks f s run = (s, run)
  | 0 => rfl
  | f + 1 => by unfold playM; simp [h]
theorem playM_step {p : Prg} {m : UInt8} {picks : List UInt8} {s : By} {run : List Pss} {f : Nat} {k : Pss} (h : movesM p m s ≠ []) (hk : pickM picks run.length (movesM p m s) = k) : playM p m picks (f + 1) s run = playM p m picks f (stepM p m s k) (run ++ [k]) := by
  rw [playM]; simp only [if_neg h, hk]
end Go.Proofs.YtbgnapmaimkpkaaGreatDoor
