/-
  WALK2. Package check: turnCond with Turn's change. Conditions: the condition is valid and lies in memory; the new numbers lie in memory.
-/
import Derived.Test.YtfcidfljidkcaaaDoorTuB
import Derived.Test.YtfcidfljidkcaaaDoorFoE
set_option linter.unusedSimpArgs false
set_option linter.unusedVariables false
namespace Go.Proofs.YtfcidfljidkcaaaDoor
open Go.RowKit
set_option maxRecDepth 100000
/-- The new numbers, as Turn's change reads them. -/
structure TabsAt (w : World) (b9 b11 bt bl n m : Nat) (T L : List Int) : Prop where
  t : w.cell? ⟨b9, 0, none⟩ = some (.slice (some ⟨bt, 0, none⟩) n n)
  l : w.cell? ⟨b11, 0, none⟩ = some (.slice (some ⟨bl, 0, none⟩) m m)
  tc : ∀ i, i < n → w.cell? ⟨bt, i, none⟩ = some (b8 (UInt8.ofNat (posZ T i)))
  lc : ∀ i, i < m → w.cell? ⟨bl, i, none⟩ = some (b8 (UInt8.ofNat (posZ L i)))
structure TabsNot (w : World) (b b9 b11 bt bl n m : Nat) (T L : List Int) : Prop where
  at' : TabsAt w b9 b11 bt bl n m T L
  t : b9 ≠ b
  l : b11 ≠ b
  tc : ∀ i, i < n → bt ≠ b
  lc : ∀ i, i < m → bl ≠ b
section
variable {w0 w : World} {rs : List Res} {b b9 b11 bt bl n m : Nat} {T L : List Int}
theorem TabsAt.own (h : TabsAt w0 b9 b11 bt bl n m T L) (H : Own w0 none w rs) : TabsAt w b9 b11 bt bl n m T L := ⟨H.arg h.t, H.arg h.l, fun i hi => H.arg (h.tc i hi), fun i hi => H.arg (h.lc i hi)⟩
theorem new_ne {cs : List Value} {t : TypeId} {i c o : Nat} {v : Value} (H : Own w0 none w rs) (hi : rs[i]? = some (.blk b cs t)) (hc : w0.cell? ⟨c, o, none⟩ = some v) : c ≠ b := fun e => by
  have h1 : c < w0.heap.size := World.block_lt_of_cell? w0 _ hc
  rcases (H.foot i _ hi b rfl).1 with h2 | h2
  · omega
  · cases h2
theorem TabsAt.not (h : TabsAt w0 b9 b11 bt bl n m T L) (H : Own w0 none w rs) (i : Nat) {cs : List Value} {t : TypeId} (hi : rs[i]? = some (.blk b cs t)) : TabsNot w b b9 b11 bt bl n m T L :=
  ⟨h.own H, new_ne H hi h.t, new_ne H hi h.l, fun j hj => new_ne H hi (h.tc j hj), fun j hj => new_ne H hi (h.lc j hj)⟩
end
theorem old_cell {w0 w : World} {b c o : Nat} {v : Value} {rs : List Res} (H : Own w0 (some b) w rs) (h : w0.cell? ⟨c, o, none⟩ = some v) (hne : c ≠ b) : w.cell? ⟨c, o, none⟩ = some v := H.old h (fun e => hne (Option.some.inj e))
def turnK (T L : List Int) (k t q v : UInt8) (K : Value) : List Value := [b8 k, b8 (if k = 1 then newN T t else t), b8 (if k = 2 then newN L q else q), b8 v, K]
theorem turn1_any (b b9 b11 bt bl n m : Nat) (T L : List Int) (k t q v : UInt8) (K : Value) (w0 : World) (hB : Blk w0 b [Go.Proofs.YtfcidfljidkcaaaDoor.b8 k, Go.Proofs.YtfcidfljidkcaaaDoor.b8 t, Go.Proofs.YtfcidfljidkcaaaDoor.b8 q, Go.Proofs.YtfcidfljidkcaaaDoor.b8 v, K] 27) (hV : TabsNot w0 b b9 b11 bt bl n m T L) (ht : k = 1 → t.toNat < n) (hq : k = 2 → q.toNat < m) :
    Calls Tryd.prog 20 #[.pointer (some ⟨b, 0, none⟩), .pointer (some ⟨b9, 0, none⟩), .pointer (some ⟨b11, 0, none⟩)] w0 fun e w' => e = .returned (.tuple #[]) ∧ Own w0 (some b) w' [.blk b (turnK T L k t q v K) 27] := by
  have H := Own.startRow hB
  refine enterF Tryd.func20 rfl Tryd.ntmps20 rfl (fun a F => ?_)
  refine cSeq (fun K1 hK1 => ?_)
  refine cReg ?_
  refine sMv F rfl rfl rfl ?_;clear F a;intro a F
  refine sNc F rfl rfl rfl ?_;clear F a;intro a F
  refine sFa (f := 0) (k := 0) Tryd.underlying27 rfl Tryd.sizeOf5 rfl rfl F rfl rfl rfl ?_;clear F a;intro a F
  refine sLd Tryd.isAgg5 F rfl rfl rfl (H.cell 0 rfl rfl) ?_;clear F a;intro a F
  refine sNil ?_
  refine hK1 _ _ ?_; clear hK1
  refine wp_block ?_
  refine cSeq (fun K2 hK2 => ?_)
  refine cReg ?_
  refine sBin F rfl rfl rfl rfl (bEqlB (y := 1)) ?_;clear F a;intro a F
  refine sAs F rfl rfl rfl ?_;clear F a;intro a F
  refine sNil ?_
  refine hK2 _ _ ?_; clear hK2
  refine cIf F rfl (fun h8 => ?_) (fun h8 => ?_)
  ·
   replace h8 := beqT h8
   have ht' := ht h8
   refine cRegRO (by kernel_rfl) H ?_
   replace H := H.drew
   refine eTakeF (k := 0) (i := 0) rfl (by kernel_rfl) F rfl rfl rfl (fun w => rMv F rfl) (H.sel [0] rfl rfl) (fun _ _ _ h => h) ?_;clear F a;intro a F
   refine eTake (k := 1) (i := 1) rfl (by kernel_rfl) F rfl rfl rfl rfl (fun w H => rLd Tryd.isAgg23 F rfl (old_cell H hV.at'.t hV.t)) (H.sel [0] rfl rfl) (fun _ _ _ h => h) ?_;clear F a;intro a F
   refine eTakeF (k := 2) (i := 2) rfl (by kernel_rfl) F rfl rfl rfl (fun w => rMv F rfl) (H.sel [0] rfl rfl) (fun _ _ _ h => h) ?_;clear F a;intro a F
   refine eTake (k := 3) (i := 3) rfl (by kernel_rfl) F rfl rfl rfl rfl (fun w H => rNc F rfl) (H.sel [0] rfl rfl) (fun _ _ _ h => h) ?_;clear F a;intro a F
   refine eTakeF (k := 4) (i := 4) rfl (by kernel_rfl) F rfl rfl rfl (fun w => rFa (f := 1) (k := 1) Tryd.underlying27 rfl Tryd.sizeOf5 rfl rfl F rfl) (H.sel [0] rfl rfl) (fun _ _ _ h => h) ?_;clear F a;intro a F
   refine eTake (k := 5) (i := 5) rfl (by kernel_rfl) F rfl rfl rfl rfl (fun w H => rLd Tryd.isAgg5 F rfl (H.cell 0 rfl rfl)) (H.sel [0] rfl rfl) (fun _ _ _ h => h) ?_;clear F a;intro a F
   refine eTakeF (k := 6) (i := 6) rfl (by kernel_rfl) F rfl rfl rfl (fun w => rIx Tryd.underlying23 Tryd.sizeOf5 F rfl rfl ?_) (H.sel [0] rfl rfl) (fun _ _ _ h => h) ?_
   focus omega
   clear F a; intro a F
   refine eTake (k := 7) (i := 7) rfl (by kernel_rfl) F rfl rfl rfl rfl (fun w H => rLd Tryd.isAgg5 F rfl (old_cell H (by have := hV.at'.tc _ ht'; simpa using this) (hV.tc _ ht'))) (H.sel [0] rfl rfl) (fun _ _ _ h => h) ?_;clear F a;intro a F
   refine eTake (k := 8) (i := 8) rfl (by kernel_rfl) F rfl rfl rfl rfl (fun w H => rNc F rfl) (H.sel [0] rfl rfl) (fun _ _ _ h => h) ?_;clear F a;intro a F
   refine eTakeF (k := 9) (i := 9) rfl (by kernel_rfl) F rfl rfl rfl (fun w => rFa (f := 1) (k := 1) Tryd.underlying27 rfl Tryd.sizeOf5 rfl rfl F rfl) (H.sel [0] rfl rfl) (fun _ _ _ h => h) ?_;clear F a;intro a F
   refine eOne (k := 10) (i := 10) rfl (by kernel_rfl) F rfl (oSt H 0 Tryd.sizeOf5 F rfl rfl rfl rfl rfl ?_)
   clear H; intro w H
   refine ePartO (by kernel_rfl) H ?_
   refine eNil (k := 11) (by kernel_rfl) ?_
   simp only [Exit.inBlock]
   refine bEnd Tryd.results20 F ?_
   first
   | (have e1 : k = 1 := h8
      have e : turnK T L k t q v K = [Go.Proofs.YtfcidfljidkcaaaDoor.b8 k, Go.Proofs.YtfcidfljidkcaaaDoor.b8 (newN T t), Go.Proofs.YtfcidfljidkcaaaDoor.b8 q, Go.Proofs.YtfcidfljidkcaaaDoor.b8 v, K] := by unfold turnK; rw [if_pos e1, if_neg (by rw [e1]; decide)]
      rw [e]
      exact ⟨rfl, H.sel [0] rfl rfl⟩)
   | (have e1 : ¬ k = 1 := h8
      have e2 : k = 2 := h20
      have e : turnK T L k t q v K = [Go.Proofs.YtfcidfljidkcaaaDoor.b8 k, Go.Proofs.YtfcidfljidkcaaaDoor.b8 t, Go.Proofs.YtfcidfljidkcaaaDoor.b8 (newN L q), Go.Proofs.YtfcidfljidkcaaaDoor.b8 v, K] := by unfold turnK; rw [if_neg e1, if_pos e2]
      rw [e]
      exact ⟨rfl, H.sel [0] rfl rfl⟩)
   | (have e1 : ¬ k = 1 := h8
      have e2 : ¬ k = 2 := h20
      have e : turnK T L k t q v K = [Go.Proofs.YtfcidfljidkcaaaDoor.b8 k, Go.Proofs.YtfcidfljidkcaaaDoor.b8 t, Go.Proofs.YtfcidfljidkcaaaDoor.b8 q, Go.Proofs.YtfcidfljidkcaaaDoor.b8 v, K] := by unfold turnK; rw [if_neg e1, if_neg e2]
      rw [e]
      exact ⟨rfl, H.sel [0] rfl rfl⟩)
  replace h8 := beqF h8
  refine cSeq (fun K3 hK3 => ?_)
  refine cReg ?_
  refine sBin F rfl rfl rfl rfl (bEqlB (y := 2)) ?_;clear F a;intro a F
  refine sAs F rfl rfl rfl ?_;clear F a;intro a F
  refine sNil ?_
  refine hK3 _ _ ?_; clear hK3
  refine cIf F rfl (fun h20 => ?_) (fun h20 => ?_)
  ·
   replace h20 := beqT h20
   have hq' := hq h20
   refine cRegRO (by kernel_rfl) H ?_
   replace H := H.drew
   refine eTakeF (k := 0) (i := 0) rfl (by kernel_rfl) F rfl rfl rfl (fun w => rMv F rfl) (H.sel [0] rfl rfl) (fun _ _ _ h => h) ?_;clear F a;intro a F
   refine eTake (k := 1) (i := 1) rfl (by kernel_rfl) F rfl rfl rfl rfl (fun w H => rLd Tryd.isAgg23 F rfl (old_cell H hV.at'.l hV.l)) (H.sel [0] rfl rfl) (fun _ _ _ h => h) ?_;clear F a;intro a F
   refine eTakeF (k := 2) (i := 2) rfl (by kernel_rfl) F rfl rfl rfl (fun w => rMv F rfl) (H.sel [0] rfl rfl) (fun _ _ _ h => h) ?_;clear F a;intro a F
   refine eTake (k := 3) (i := 3) rfl (by kernel_rfl) F rfl rfl rfl rfl (fun w H => rNc F rfl) (H.sel [0] rfl rfl) (fun _ _ _ h => h) ?_;clear F a;intro a F
   refine eTakeF (k := 4) (i := 4) rfl (by kernel_rfl) F rfl rfl rfl (fun w => rFa (f := 2) (k := 2) Tryd.underlying27 rfl Tryd.sizeOf5 rfl rfl F rfl) (H.sel [0] rfl rfl) (fun _ _ _ h => h) ?_;clear F a;intro a F
   refine eTake (k := 5) (i := 5) rfl (by kernel_rfl) F rfl rfl rfl rfl (fun w H => rLd Tryd.isAgg5 F rfl (H.cell 0 rfl rfl)) (H.sel [0] rfl rfl) (fun _ _ _ h => h) ?_;clear F a;intro a F
   refine eTakeF (k := 6) (i := 6) rfl (by kernel_rfl) F rfl rfl rfl (fun w => rIx Tryd.underlying23 Tryd.sizeOf5 F rfl rfl ?_) (H.sel [0] rfl rfl) (fun _ _ _ h => h) ?_
   focus omega
   clear F a; intro a F
   refine eTake (k := 7) (i := 7) rfl (by kernel_rfl) F rfl rfl rfl rfl (fun w H => rLd Tryd.isAgg5 F rfl (old_cell H (by have := hV.at'.lc _ hq'; simpa using this) (hV.lc _ hq'))) (H.sel [0] rfl rfl) (fun _ _ _ h => h) ?_;clear F a;intro a F
   refine eTake (k := 8) (i := 8) rfl (by kernel_rfl) F rfl rfl rfl rfl (fun w H => rNc F rfl) (H.sel [0] rfl rfl) (fun _ _ _ h => h) ?_;clear F a;intro a F
   refine eTakeF (k := 9) (i := 9) rfl (by kernel_rfl) F rfl rfl rfl (fun w => rFa (f := 2) (k := 2) Tryd.underlying27 rfl Tryd.sizeOf5 rfl rfl F rfl) (H.sel [0] rfl rfl) (fun _ _ _ h => h) ?_;clear F a;intro a F
   refine eOne (k := 10) (i := 10) rfl (by kernel_rfl) F rfl (oSt H 0 Tryd.sizeOf5 F rfl rfl rfl rfl rfl ?_)
   clear H; intro w H
   refine ePartO (by kernel_rfl) H ?_
   refine eNil (k := 11) (by kernel_rfl) ?_
   simp only [Exit.inBlock]
   refine bEnd Tryd.results20 F ?_
   first
   | (have e1 : k = 1 := h8
      have e : turnK T L k t q v K = [Go.Proofs.YtfcidfljidkcaaaDoor.b8 k, Go.Proofs.YtfcidfljidkcaaaDoor.b8 (newN T t), Go.Proofs.YtfcidfljidkcaaaDoor.b8 q, Go.Proofs.YtfcidfljidkcaaaDoor.b8 v, K] := by unfold turnK; rw [if_pos e1, if_neg (by rw [e1]; decide)]
      rw [e]
      exact ⟨rfl, H.sel [0] rfl rfl⟩)
   | (have e1 : ¬ k = 1 := h8
      have e2 : k = 2 := h20
      have e : turnK T L k t q v K = [Go.Proofs.YtfcidfljidkcaaaDoor.b8 k, Go.Proofs.YtfcidfljidkcaaaDoor.b8 t, Go.Proofs.YtfcidfljidkcaaaDoor.b8 (newN L q), Go.Proofs.YtfcidfljidkcaaaDoor.b8 v, K] := by unfold turnK; rw [if_neg e1, if_pos e2]
      rw [e]
      exact ⟨rfl, H.sel [0] rfl rfl⟩)
   | (have e1 : ¬ k = 1 := h8
      have e2 : ¬ k = 2 := h20
      have e : turnK T L k t q v K = [Go.Proofs.YtfcidfljidkcaaaDoor.b8 k, Go.Proofs.YtfcidfljidkcaaaDoor.b8 t, Go.Proofs.YtfcidfljidkcaaaDoor.b8 q, Go.Proofs.YtfcidfljidkcaaaDoor.b8 v, K] := by unfold turnK; rw [if_neg e1, if_neg e2]
      rw [e]
      exact ⟨rfl, H.sel [0] rfl rfl⟩)
  replace h20 := beqF h20
  refine wp_skip ?_
  simp only [Exit.inBlock]
  refine bEnd Tryd.results20 F ?_
  first
  | (have e1 : k = 1 := h8
     have e : turnK T L k t q v K = [Go.Proofs.YtfcidfljidkcaaaDoor.b8 k, Go.Proofs.YtfcidfljidkcaaaDoor.b8 (newN T t), Go.Proofs.YtfcidfljidkcaaaDoor.b8 q, Go.Proofs.YtfcidfljidkcaaaDoor.b8 v, K] := by unfold turnK; rw [if_pos e1, if_neg (by rw [e1]; decide)]
     rw [e]
     exact ⟨rfl, H.sel [0] rfl rfl⟩)
  | (have e1 : ¬ k = 1 := h8
     have e2 : k = 2 := h20
     have e : turnK T L k t q v K = [Go.Proofs.YtfcidfljidkcaaaDoor.b8 k, Go.Proofs.YtfcidfljidkcaaaDoor.b8 t, Go.Proofs.YtfcidfljidkcaaaDoor.b8 (newN L q), Go.Proofs.YtfcidfljidkcaaaDoor.b8 v, K] := by unfold turnK; rw [if_neg e1, if_pos e2]
     rw [e]
     exact ⟨rfl, H.sel [0] rfl rfl⟩)
  | (have e1 : ¬ k = 1 := h8
     have e2 : ¬ k = 2 := h20
     have e : turnK T L k t q v K = [Go.Proofs.YtfcidfljidkcaaaDoor.b8 k, Go.Proofs.YtfcidfljidkcaaaDoor.b8 t, Go.Proofs.YtfcidfljidkcaaaDoor.b8 q, Go.Proofs.YtfcidfljidkcaaaDoor.b8 v, K] := by unfold turnK; rw [if_neg e1, if_neg e2]
     rw [e]
     exact ⟨rfl, H.sel [0] rfl rfl⟩)
/-- What a valid condition's kids are. -/
theorem cond_kids {n m : Int} {d : Nat} {k t q v : UInt8} {kids : List Cnd} (hc : condOk n m (d + 1) (.mk k t q v kids) = true) : (k = 1 → (t.toNat : Int) < n) ∧ (k = 2 → (q.toNat : Int) < m) ∧ ∀ y ∈ kids, condOk n m d y = true := by
  unfold condOk at hc
  by_cases h0 : k = 0
  · rw [if_pos h0] at hc
    simp only [Bool.and_eq_true, beq_iff_eq] at hc
    rw [List.eq_nil_of_length_eq_zero hc.2]
    exact ⟨fun e => (by rw [h0] at e; cases e), fun e => (by rw [h0] at e; cases e), fun y hy => (by cases hy)⟩
  · rw [if_neg h0] at hc
    by_cases h1 : k = 1
    · rw [if_pos h1] at hc
      simp only [Bool.and_eq_true, beq_iff_eq, decide_eq_true_eq] at hc
      rw [List.eq_nil_of_length_eq_zero hc.2]
      exact ⟨fun _ => hc.1.1, fun e => (by rw [h1] at e; cases e), fun y hy => (by cases hy)⟩
    · rw [if_neg h1] at hc
      by_cases h2 : k = 2
      · rw [if_pos h2] at hc
        simp only [Bool.and_eq_true, beq_iff_eq, decide_eq_true_eq] at hc
        rw [List.eq_nil_of_length_eq_zero hc.2]
        exact ⟨fun e => absurd e h1, fun _ => hc.1.1, fun y hy => by cases hy⟩
      · rw [if_neg h2] at hc
        refine ⟨fun e => absurd e h1, fun e => absurd e h2, ?_⟩
        split at hc
        · rw [Bool.and_eq_true] at hc; exact fun y hy => List.all_eq_true.1 hc.2 y hy
        · split at hc
          · rw [Bool.and_eq_true] at hc; exact fun y hy => List.all_eq_true.1 hc.2 y hy
          · cases hc
set_option maxHeartbeats 4000000 in
theorem turnT_any (b9 b11 bt bl n mm : Nat) (T L : List Int) (h : Nat) : ∀ (d : Nat) (cs : List Value) (c : Cnd) (w0 : World), CondAt w0 h cs c → Slim h c → condOk (n : Int) (mm : Int) d c = true → TabsAt w0 b9 b11 bt bl n mm T L →
    Calls Tryd.prog 19 #[.agg cs.toArray, .func (.func 20) #[] #[.pointer (some ⟨b9, 0, none⟩), .pointer (some ⟨b11, 0, none⟩)]] w0 fun e w' => ∃ cs' S, e = .returned (.agg cs'.toArray) ∧ Own w0 none w' [.tree S h cs' (turnH T L h c)] := by
  induction h with
  | zero => intro d cs c w0 hC; exact hC.elim
  | succ h ih =>
    intro d cs c w0 hC hs hd hV
    obtain ⟨k, t, q, v, kids⟩ := c
    cases d with
    | zero => cases hd
    | succ d =>
    obtain ⟨A, C, rfl, hkl, hK⟩ := hC
    obtain ⟨hs1, hs2⟩ := hs
    obtain ⟨hk1, hk2, hk3⟩ := cond_kids hd
    have H := Own.start w0 none
    refine enterF Tryd.func19 rfl Tryd.ntmps19 rfl (fun a F => ?_)
    refine cSeq (fun K1 hK1 => ?_)
    refine cReg ?_
    refine sBx H F rfl rfl rfl ?_
    clear F a H; intro b2 a w F H
    refine sAl H Tryd.zeroValue27 F rfl rfl ?_
    clear F a H; intro b4 a w F H
    refine sNil ?_
    refine hK1 _ _ ?_; clear hK1
    refine cSeq (fun K2 hK2 => ?_)
    refine cReg ?_
    refine sAs F rfl rfl rfl ?_;clear F a;intro a F
    replace H := H.nilRws 27 5
    refine sNil ?_
    refine hK2 _ _ ?_; clear hK2
    refine cSeq (fun K3 hK3 => ?_)
    refine cSeq (fun K4 hK4 => ?_)
    refine cReg ?_
    refine sFa (f := 4) (k := 4) Tryd.underlying27 rfl Tryd.sizeOf25 rfl rfl F rfl rfl rfl ?_;clear F a;intro a F
    refine sLd Tryd.isAgg25 F rfl rfl rfl (H.cell 2 rfl rfl) ?_;clear F a;intro a F
    refine sLen Tryd.underlying25 F rfl rfl rfl ?_;clear F a;intro a F
    refine sMv F rfl rfl rfl ?_;clear F a;intro a F
    refine sNil ?_
    refine hK4 _ _ ?_; clear hK4
    refine wp_block ?_
    refine cLoopR [1, 2, 4, 9, 10] (fun m ups w => ∃ (j : Nat) (A5 : Option Addr) (c5 : Nat) (S : Nat → Prop) (rows : List (List Value)), m = kids.length - j ∧ ups = [(5, .slice A5 rows.length c5), (11, .int .i64 ((j : Nat) : Int))] ∧ rows.length = j ∧ j ≤ kids.length ∧ (∀ r ∈ rows, r.length = 5) ∧ Own w0 none w [.forest S h rows (kids.map (turnH T L h)), .rws 27 5 (.slice A5 rows.length c5) rows, .blk b4 [Go.Proofs.YtfcidfljidkcaaaDoor.b8 0, Go.Proofs.YtfcidfljidkcaaaDoor.b8 0, Go.Proofs.YtfcidfljidkcaaaDoor.b8 0, Go.Proofs.YtfcidfljidkcaaaDoor.b8 0, .slice none 0 0] 27, .blk b2 [Go.Proofs.YtfcidfljidkcaaaDoor.b8 k, Go.Proofs.YtfcidfljidkcaaaDoor.b8 t, Go.Proofs.YtfcidfljidkcaaaDoor.b8 q, Go.Proofs.YtfcidfljidkcaaaDoor.b8 v, .slice A kids.length C] 27]) F (kids.length) [(5, .slice none 0 0), (11, .int .i64 ((0 : Nat) : Int))] (by repeat (first | exact SubR.nil | (apply SubR.cons; · rfl))) ?_ ?_ ?_
    · exact ⟨0, none, 0, fun _ => False, [], rfl, rfl, rfl, Nat.zero_le _, (by simp), (H.sel [0, 1, 2] rfl rfl).void (.forest (fun _ => False) h [] (kids.map (turnH T L h))) (fun j r kid h1 => by simp at h1) (fun _ hb => hb)⟩
    · repeat (first | exact trivial | refine Le.cons rfl ?_)
    clear F
    clear H
    intro m ups a w hI F
    obtain ⟨j, A5, c5, S, rows, rfl, rfl, hrj, hj, hr5, H⟩ := hI
    refine cSeq (fun K5 hK5 => ?_)
    refine cReg ?_
    refine sBin F rfl rfl rfl rfl bLss ?_;clear F a;intro a F
    refine sNil ?_
    refine hK5 _ _ ?_; clear hK5
    refine cSeq (fun K6 hK6 => ?_)
    refine cIf F rfl (fun h12 => ?_) (fun h12 => ?_)
    ·
     replace h12 := of_decide_eq_true h12
     have hjl : j < kids.length := by omega
     obtain ⟨kid, hx⟩ : ∃ x, kids[j]? = some x := ⟨_, List.getElem?_eq_getElem hjl⟩
     obtain ⟨b', off', cs', rfl, hR', hC'⟩ := hK j kid hx
     obtain ⟨k0, t0, n0, v0, A0, m0, C0, rfl⟩ := condShape hC'
     refine wp_skip ?_
     refine hK6 _ _ ?_; clear hK6
     refine cSeq (fun K7 hK7 => ?_)
     refine wp_block ?_
     refine cSeq (fun K8 hK8 => ?_)
     refine cReg ?_
     refine sIx Tryd.underlying25 Tryd.sizeOf27 F rfl rfl rfl rfl ?_ ?_
     focus (first | omega | decide | (simp; omega))
     clear F a; intro a F
     refine sLr Tryd.underlying27 rfl ?si F rfl rfl rfl (H.argR hR') ?_
     case si => exact info_size Tryd.sizeOf27
     clear F a; intro a F
     refine sAl H Tryd.zeroValue27 F rfl rfl ?_
     clear F a H; intro b7 a w F H
     refine sSr H 0 ?si F rfl rfl rfl ?s1 rfl rfl ?_
     case si => exact info_size Tryd.sizeOf27
     case s1 => first | rfl | (repeat (first | exact one_nil | (apply one_cons; · first | rfl | assumption | exact one_bif rfl rfl)))
     clear H; intro w H
     refine sNil ?_
     refine hK8 _ _ ?_; clear hK8
     refine cReg ?_
     refine sMv F rfl rfl rfl ?_;clear F a;intro a F
     refine sLr Tryd.underlying27 rfl ?si F rfl rfl rfl (H.whole 0 rfl) ?_
     case si => exact info_size Tryd.sizeOf27
     clear F a; intro a F
     refine sMv F rfl rfl rfl ?_;clear F a;intro a F
     refine sCall Tryd.call19 F rfl rfl rfl (ih d _ kid _ (CondAt.grown H.grown rfl _ _ _ hC') (hs2 kid (List.mem_of_getElem? hx)) (hk3 kid (List.mem_of_getElem? hx)) (hV.own H)) ?_
     rintro e w ⟨cs9, S9, rfl, H2⟩
     have hsh := condShape (H2.pred 0 _ rfl : TreeIn S9 _ h cs9 (turnH T L h kid)).at
     obtain ⟨k9, t9, n9, v9, A9, m9, C9, rfl⟩ := hsh
     replace H := H.join H2; clear H2
     refine ⟨_, rfl, ?_⟩
     clear F a; intro a F
     refine sBsA H Tryd.underlying25 Tryd.sizeOf27 Tryd.zeroValue27 rfl F rfl rfl rfl rfl rfl ?_
     clear F a H; intro b19 a w F H
     refine sApp1 (bytes := 32) H 4 Tryd.underlying25 Tryd.typeInfo27 rfl rfl rfl rfl rfl rfl F rfl rfl rfl rfl rfl (H.whole 0 rfl) rfl ?s1 ?s2 ?_
     case s1 => first | rfl | (repeat (first | exact one_nil | (apply one_cons; · first | rfl | assumption | exact one_bif rfl rfl)))
     case s2 => omega
     clear F a H; intro A20 c20 a w F H
     refine sAs F rfl rfl rfl ?_;clear F a;intro a F
     refine sNil ?_
     refine hK7 _ _ ?_; clear hK7
     refine cReg ?_
     refine sBin F rfl rfl rfl rfl (bAddN (j := 1) ?_) ?_
     focus omega
     clear F a; intro a F
     refine sMv F rfl rfl rfl ?_;clear F a;intro a F
     refine sNil ?_
     (refine ⟨_, ?_, _, ⟨j + 1, A20, c20, _, _, rfl, rfl, ?_, ?_, ?_, (H.sel [1, 3, 4, 5, 6] rfl rfl).plant (by rw [hrj, List.getElem?_map, hx]; rfl)⟩, F.to (by repeat (first | exact trivial | refine Le.cons rfl ?_))⟩
      · omega
      · simp; omega
      · omega
      · intro r hr
        rcases List.mem_append.1 hr with h1 | h1
        · exact hr5 r h1
        · simp at h1; subst h1; rfl)
    replace h12 := of_decide_eq_false h12
    have hjl : rows.length = (kids.map (turnH T L h)).length := by rw [List.length_map]; omega
    refine wp_exit ?_
    refine hK3 _ _ ?_; clear hK3
    refine cSeq (fun K9 hK9 => ?_)
    refine cReg ?_
    refine sMv F rfl rfl rfl ?_;clear F a;intro a F
    refine sFa (f := 4) (k := 4) Tryd.underlying27 rfl Tryd.sizeOf25 rfl rfl F rfl rfl rfl ?_;clear F a;intro a F
    refine sSt H 3 Tryd.sizeOf25 F rfl rfl rfl rfl rfl rfl ?_
    clear H; intro w H
    refine sNil ?_
    refine hK9 _ _ ?_; clear hK9
    refine cSeq (fun K10 hK10 => ?_)
    refine cReg ?_
    refine sMv F rfl rfl rfl ?_;clear F a;intro a F
    refine sCallV F rfl rfl rfl rfl (⟨_, [], [.pointer (some ⟨b9, 0, none⟩), .pointer (some ⟨b11, 0, none⟩)], rfl, Tryd.call20, turn1_any b2 b9 b11 bt bl n mm T L k t q v _ _ (H.blk 3 rfl) (hV.not H 3 rfl) (fun e => by have := hk1 e; omega) (fun e => by have := hk2 e; omega)⟩) ?_
    rintro e w ⟨rfl, H2⟩
    replace H := H.turned 3 rfl H2; clear H2
    refine ⟨_, rfl, ?_⟩
    clear F a; intro a F
    refine sNil ?_
    refine hK10 _ _ ?_; clear hK10
    refine cSeq (fun K11 hK11 => ?_)
    refine cReg ?_
    refine sLr Tryd.underlying27 rfl ?si F rfl rfl rfl (H.whole 3 rfl) ?_
    case si => exact info_size Tryd.sizeOf27
    clear F a; intro a F
    refine sSr H 2 ?si F rfl rfl rfl ?s1 rfl rfl ?_
    case si => exact info_size Tryd.sizeOf27
    case s1 => first | rfl | (repeat (first | exact one_nil | (apply one_cons; · first | rfl | assumption | exact one_bif rfl rfl)))
    clear H; intro w H
    refine sNil ?_
    refine hK11 _ _ ?_; clear hK11
    refine wp_ret ?_
    refine bRetC Tryd.results19 F rfl Tryd.underlying27 rfl H 2 rfl Tryd.sizeOf27 rfl ?_
    exact ⟨_, _, rfl, ((H.sel [0, 1] rfl rfl).grown1 k (if k = 1 then newN T t else t) (if k = 2 then newN L q else q) v hjl hr5 (by rw [List.length_map]; exact hkl))⟩
end Go.Proofs.YtfcidfljidkcaaaDoor
