/-
  WALK2. The law AtomicPlays. Conditions: the program and the picks lie in memory; block 0 holds the table of needs.
-/
import Derived.Test.YtfemniboggnbiaaDoorLwM
import Derived.Test.YtfemniboggnbiaaDoorAtK
set_option linter.unusedSimpArgs false
set_option linter.unusedVariables false
namespace Go.Proofs.YtfemniboggnbiaaDoor
open Go.RowKit
set_option maxRecDepth 100000

/-- Bytes as a slice's rows. -/
def u8Rows (l : List UInt8) : List (List Value) := l.map fun x => [b8 x]
@[simp] theorem u8Rows_length (l : List UInt8) : (u8Rows l).length = l.length := by simp [u8Rows]
theorem u8Rows_append (l : List UInt8) (x : UInt8) : u8Rows (l ++ [x]) = u8Rows l ++ [[b8 x]] := by simp [u8Rows]
theorem u8Rows_one (l : List UInt8) : ∀ r ∈ u8Rows l, r.length = 1 := by
  intro r hr
  obtain ⟨t, _, rfl⟩ := List.mem_map.1 hr
  rfl
theorem Own.u8s {w0 w : World} {row : Option Nat} {rs : List Res} (H : Own w0 row w rs) (i : Nat) {e : TypeId} {n c : Nat} {A : Option Addr} {l : List UInt8} (hi : rs[i]? = some (.rws e 1 (.slice A n c) (u8Rows l))) : BytesAt w A l := H.rowsAt i hi (u8Rows_one l) (by omega)
theorem Runs.nil {p : Prg} {s z : By} {ix : List UInt8} (h : Runs p s [] ix z) : z = s := by
  cases ix with
  | nil => exact h
  | cons _ _ => exact h.elim
theorem Runs.uncons {p : Prg} {s z : By} {t : Nat} {r : List Nat} {ix : List UInt8} (h : Runs p s (t :: r) ix z) : ∃ (i : UInt8) (ix' : List UInt8), (enabledP p s)[i.toNat]? = some t ∧ Runs p (stepP p s t) r ix' z := by
  cases ix with
  | nil => exact h.elim
  | cons i ix => exact ⟨i, ix, h.1, h.2⟩
theorem take_one {α : Type} {l : List α} {j : Nat} {x : α} (h : l[j]? = some x) : l.take (j + 1) = l.take j ++ [x] := by rw [List.take_add_one, h]; rfl
theorem drop_one {α : Type} {l : List α} {j : Nat} {x : α} (h : l[j]? = some x) : l.drop j = x :: l.drop (j + 1) := by
  obtain ⟨hj, rfl⟩ := List.getElem?_eq_some_iff.1 h
  exact List.drop_eq_getElem_cons hj
theorem ofNat_toNat8 (i : UInt8) : UInt8.ofNat i.toNat = i := by simp
set_option maxHeartbeats 2000000 in
theorem playsL_any (cs : List Value) (p : Prg) (w0 : World) (hP : ProgAt w0 cs p) (hN : NeedsAt w0) (PA : Option Addr) (PC : Nat) (picks : List UInt8) (hB : BytesAt w0 PA picks) (hBn : picks.length ≤ 9223372036854775807) (hBc : picks.length ≤ PC) :
    Calls Tryd.prog 7 #[.agg cs.toArray, .slice PA picks.length PC] w0 fun e w' => e = .returned (.bool true) ∧ Below w0.heap.size w0 w' := by
  have H := Own.start w0 none
  have hP0 := hP
  obtain ⟨LA, LC, IA, IC, TA, TC, h, ccs, hp⟩ := hP
  obtain ⟨c1, c2, c3, c4, c5, rfl⟩ := len5 (condAt_len hp.cond)
  have hcs := hp.cs
  subst hcs
  have hlen : (picks.take 60).length = min picks.length 60 := by rw [List.length_take]; omega
  have hBt : BytesAt w0 PA (picks.take 60) := fun j c hj => hB j c (by
    rw [List.getElem?_map] at hj ⊢
    rw [List.getElem?_take] at hj
    split at hj
    · exact hj
    · cases hj)
  generalize hQ : picks.take 60 = Q at hlen hBt
  refine enterF Tryd.func7 rfl Tryd.ntmps7 rfl (fun a F => ?_)
  refine cSeq (fun K1 hK1 => ?_)
  refine cReg ?_
  refine sBx H F rfl rfl rfl ?_
  clear F a H; intro b2 a w F H
  refine sAs F rfl rfl rfl ?_
  clear F a; intro a F
  refine sNil ?_
  refine hK1 _ _ ?_; clear hK1
  refine cSeq (fun K2 hK2 => ?_)
  refine cRegRO (by kernel_rfl) H ?_
  replace H := H.drew
  refine eTake (k := 0) (i := 0) rfl (by kernel_rfl) F rfl rfl rfl rfl (fun w H => rLr Tryd.underlying29 rfl ?si F rfl (H.whole 0 rfl)) (H.sel [0] rfl rfl) (fun _ _ _ h => h) ?_
  case si => exact info_size Tryd.sizeOf29
  clear F a; intro a F
  refine eTakeF (k := 1) (i := 1) rfl (by kernel_rfl) F rfl rfl rfl (fun w => rMv F rfl) (H.sel [0] rfl rfl) (fun _ _ _ h => h) ?_
  clear F a; intro a F
  refine eTakeF (k := 2) (i := 2) rfl (by kernel_rfl) F rfl rfl rfl (fun w => rMv F rfl) (H.sel [0] rfl rfl) (fun _ _ _ h => h) ?_
  clear F a; intro a F
  refine eTake (k := 3) (i := 3) rfl (by kernel_rfl) F rfl rfl rfl rfl (fun w H => rLen Tryd.underlying23 F rfl) (H.sel [0] rfl rfl) (fun _ _ _ h => h) ?_
  clear F a; intro a F
  refine eTake (k := 4) (i := 4) rfl (by kernel_rfl) F rfl rfl rfl rfl (fun w H => rMinN (j := 60) F rfl rfl) (H.sel [0] rfl rfl) (fun _ _ _ h => h) ?_
  clear F a; intro a F
  refine eTake (k := 5) (i := 5) rfl (by kernel_rfl) F rfl rfl rfl rfl (fun w H => rSlH Tryd.underlying23 (fun w => ⟨_, Tryd.sizeOf5 w⟩) F rfl rfl ?_) (H.sel [0] rfl rfl) (fun _ _ _ h => h) ?_
  focus (first | omega | decide | (simp; omega))
  clear F a; intro a F
  refine eJoin F H [2] 12 [true, true, true, true, true, true, true, true, true, true, true, true, false, false, false] (fun rs ups w => ∃ A c b5, ups = [(30, .agg (bs 38 (playF p Q)).toArray), (31, .slice A (playO p Q).length c), (32, .int .i64 (startE p)), (5, .pointer (some ⟨b5, 0, none⟩))] ∧ Own w0 none w ((.rws 3 1 (.slice A (playO p Q).length c) (intRows (playO p Q))) :: (.blk b5 (bs 38 zb) 65) :: rs)) (by repeat (first | exact SubR.nil | (apply SubR.cons; · rfl))) ?_ (fun hJ => ?_)
  rotate_left
  ·
    refine eTwo (k := 6) (i := 6) (j := 11) (by kernel_rfl) F rfl rfl rfl rfl ?_ ?_
    ·
      refine oCall Tryd.call17 F rfl rfl ((by have := play_any _ p _ (hP0.own H) (hN.own H) PA PC Q (RowsAt.own hBt H) (by omega); rw [hlen] at this; exact this)) ?_
      rintro e w ⟨A, c, rfl, H2⟩
      replace H := H.join H2; clear H2
      refine ⟨_, rfl, ?_⟩
      clear F a; intro a F
      refine eKeep (H.sel [1] rfl rfl) ?_
      refine eTakeF (k := 7) (i := 7) rfl (by kernel_rfl) F rfl rfl rfl (fun w => rMv F rfl) (H.sel [1] rfl rfl) (fun _ _ _ h => h) ?_
      clear F a; intro a F
      refine eTakeF (k := 8) (i := 8) rfl (by kernel_rfl) F rfl rfl rfl (fun w => rExt F rfl rfl) (H.sel [1] rfl rfl) (fun _ _ _ h => h) ?_
      clear F a; intro a F
      refine eTakeF (k := 9) (i := 9) rfl (by kernel_rfl) F rfl rfl rfl (fun w => rExt F rfl rfl) (H.sel [1] rfl rfl) (fun _ _ _ h => h) ?_
      clear F a; intro a F
      refine eTakeF (k := 10) (i := 10) rfl (by kernel_rfl) F rfl rfl rfl (fun w => rExt F rfl rfl) (H.sel [1] rfl rfl) (fun _ _ _ h => h) ?_
      clear F a; intro a F
      refine eOne (k := 11) (i := 11) rfl (by kernel_rfl) F rfl (oAlB H zB65 F rfl ?_)
      clear F a H; intro b5 a w F H
      refine eKeep (H.sel [2] rfl rfl) ?_
      exact eGo hJ (by kernel_rfl) _ ⟨A, c, b5, rfl, H.sel [1, 0, 2] rfl rfl⟩ (F.to (by repeat (first | exact trivial | refine Le.cons rfl ?_)))
    ·
      refine oAlB H zB65 F rfl ?_
      clear F a H; intro b5 a w F H
      refine eKeep (H.sel [1] rfl rfl) ?_
      refine eOne (k := 7) (i := 6) rfl (by kernel_rfl) F rfl (oCall Tryd.call17 F rfl rfl ((by have := play_any _ p _ (hP0.own H) (hN.own H) PA PC Q (RowsAt.own hBt H) (by omega); rw [hlen] at this; exact this)) ?_)
      rintro e w ⟨A, c, rfl, H2⟩
      replace H := H.join H2; clear H2
      refine ⟨_, rfl, ?_⟩
      clear F a; intro a F
      refine eKeep (H.sel [2] rfl rfl) ?_
      refine eTakeF (k := 8) (i := 7) rfl (by kernel_rfl) F rfl rfl rfl (fun w => rMv F rfl) (H.sel [2] rfl rfl) (fun _ _ _ h => h) ?_
      clear F a; intro a F
      refine eTakeF (k := 9) (i := 8) rfl (by kernel_rfl) F rfl rfl rfl (fun w => rExt F rfl rfl) (H.sel [2] rfl rfl) (fun _ _ _ h => h) ?_
      clear F a; intro a F
      refine eTakeF (k := 10) (i := 9) rfl (by kernel_rfl) F rfl rfl rfl (fun w => rExt F rfl rfl) (H.sel [2] rfl rfl) (fun _ _ _ h => h) ?_
      clear F a; intro a F
      refine eTakeF (k := 11) (i := 10) rfl (by kernel_rfl) F rfl rfl rfl (fun w => rExt F rfl rfl) (H.sel [2] rfl rfl) (fun _ _ _ h => h) ?_
      clear F a; intro a F
      exact eGo hJ (by kernel_rfl) _ ⟨A, c, b5, rfl, H.sel [0, 1, 2] rfl rfl⟩ (F.to (by repeat (first | exact trivial | refine Le.cons rfl ?_)))
  clear F H; intro ups a w hI F
  obtain ⟨A, c, b5, rfl, H⟩ := hI
  refine eOne (k := 12) (i := 12) rfl (by kernel_rfl) F rfl (oSrB H 1 Tryd.sizeOf65 F rfl rfl rfl (by omega) ?_)
  clear H; intro w H
  rw [lay_all] at H
  refine ePartO (by kernel_rfl) H ?_
  refine eTakeF (k := 13) (i := 13) rfl (by kernel_rfl) F rfl rfl rfl (fun w => rAs F rfl) (H.sel [0, 1, 2] rfl rfl) (fun _ _ _ h => h) ?_
  clear F a; intro a F
  refine eTakeF (k := 14) (i := 14) rfl (by kernel_rfl) F rfl rfl rfl (fun w => rAs F rfl) (H.sel [0, 1, 2] rfl rfl) (fun _ _ _ h => h) ?_
  clear F a; intro a F
  refine eNil (k := 15) (by kernel_rfl) ?_
  refine hK2 _ _ ?_; clear hK2
  refine cSeq (fun K3 hK3 => ?_)
  refine cReg ?_
  refine sLr Tryd.underlying29 rfl ?si F rfl rfl rfl (H.whole 2 rfl) ?_
  case si => exact info_size Tryd.sizeOf29
  clear F a; intro a F
  refine sCall Tryd.call18 F rfl rfl rfl (start_any _ p _ (hP0.own H) (hN.own H)) ?_
  rintro e w ⟨rfl, hb⟩
  replace H := H.grow hb; clear hb
  refine ⟨_, rfl, ?_⟩
  clear F a; intro a F
  refine sMv F rfl rfl rfl ?_
  clear F a; intro a F
  refine sExt F rfl rfl rfl rfl ?_
  clear F a; intro a F
  refine sExt F rfl rfl rfl rfl ?_
  clear F a; intro a F
  refine sAlB H zB41 F rfl rfl ?_
  clear F a H; intro b8 a w F H
  refine sSrB H 0 Tryd.sizeOf41 F rfl rfl rfl rfl (by omega) ?_
  clear H; intro w H
  rw [lay_all] at H
  refine sAs F rfl rfl rfl ?_
  clear F a; intro a F
  refine sNil ?_
  refine hK3 _ _ ?_; clear hK3
  refine cSeq (fun K4 hK4 => ?_)
  refine cSeq (fun K5 hK5 => ?_)
  refine cReg ?_
  refine sMv F rfl rfl rfl ?_
  clear F a; intro a F
  refine sMv F rfl rfl rfl ?_
  clear F a; intro a F
  refine sBin F rfl rfl rfl rfl bNeq ?_
  clear F a; intro a F
  refine sMv F rfl rfl rfl ?_
  clear F a; intro a F
  refine F.split 41 rfl ?_ ?_ <;> (clear F; intro h41 F)
  ·
    replace h41 := bneT h41
    exact absurd rfl h41
  ·
    replace h41 := bneF h41
    refine sMv F rfl rfl rfl ?_
    clear F a; intro a F
    refine sBin F rfl rfl rfl rfl bNeq ?_
    clear F a; intro a F
    refine sPk F rfl rfl rfl rfl ?_
    clear F a; intro a F
    refine sNil ?_
    refine hK5 _ _ ?_; clear hK5
    refine cIf F rfl (fun h44 => ?_) (fun h44 => ?_)
    ·
      replace h44 := bneT h44
      have hv : rightErr p ≠ 0 := fun h => h44 (by rw [startE, if_pos h])
      have eO : playO p Q = [] := if_neg hv
      have eF : playF p Q = zb := if_neg hv
      have eE : startE p = 2 := if_neg hv
      simp only [eO, eF, eE] at H F
      refine cSeq (fun K6 hK6 => ?_)
      refine cReg ?_
      refine sMv F rfl rfl rfl ?_
      clear F a; intro a F
      refine sMv F rfl rfl rfl ?_
      clear F a; intro a F
      refine sBin F rfl rfl rfl rfl bEql ?_
      clear F a; intro a F
      refine sMv F rfl rfl rfl ?_
      clear F a; intro a F
      refine F.split 48 rfl ?_ ?_ <;> (clear F; intro h48 F)
      ·
        replace h48 := beqT h48
        refine sMv F rfl rfl rfl ?_
        clear F a; intro a F
        refine sBin F rfl rfl rfl rfl bEql ?_
        clear F a; intro a F
        refine sPk F rfl rfl rfl rfl ?_
        clear F a; intro a F
        refine sMv F rfl rfl rfl ?_
        clear F a; intro a F
        refine F.split 52 rfl ?_ ?_ <;> (clear F; intro h52 F)
        ·
          replace h52 := beqT h52
          refine sLr Tryd.underlying29 rfl ?si F rfl rfl rfl (H.whole 3 rfl) ?_
          case si => exact info_size Tryd.sizeOf29
          clear F a; intro a F
          refine sCall Tryd.call11 F rfl rfl rfl (right_any' _ p _ (hP0.own H) (hN.own H)) ?_
          rintro e w ⟨rfl, hb⟩
          replace H := H.grow hb; clear hb
          refine ⟨_, rfl, ?_⟩
          clear F a; intro a F
          refine sBin F rfl rfl rfl rfl bNeq ?_
          clear F a; intro a F
          refine sPk F rfl rfl rfl rfl ?_
          clear F a; intro a F
          refine sMv F rfl rfl rfl ?_
          clear F a; intro a F
          refine F.split 57 rfl ?_ ?_ <;> (clear F; intro h57 F)
          ·
            replace h57 := bneT h57
            refine sMv F rfl rfl rfl ?_
            clear F a; intro a F
            refine sLen Tryd.underlying44 F rfl rfl rfl ?_
            clear F a; intro a F
            refine sBin F rfl rfl rfl rfl bEql ?_
            clear F a; intro a F
            refine sPk F rfl rfl rfl rfl ?_
            clear F a; intro a F
            refine sMv F rfl rfl rfl ?_
            clear F a; intro a F
            refine F.split 62 rfl ?_ ?_ <;> (clear F; intro h62 F)
            ·
              replace h62 := beqT h62
              refine sLrB Tryd.underlying65 rfl Tryd.sizeOf65 F rfl rfl rfl (H.whole 2 rfl) ?_
              clear F a; intro a F
              refine sBdB (places := [(0, 32), (32, 6)]) zB65 Tryd.underlying65 (by kernel_rfl) F rfl rfl rfl FillB.nil ?_
              clear F a; intro a F
              refine sBin F rfl rfl rfl rfl (bEqY eT65 gT65 rfl) ?_
              clear F a; intro a F
              refine sPk F rfl rfl rfl rfl ?_
              clear F a; intro a F
              refine sMv F rfl rfl rfl ?_
              clear F a; intro a F
              refine F.split 67 rfl ?_ ?_ <;> (clear F; intro h67 F)
              ·
                refine sCall Tryd.call12 F rfl rfl rfl (awake_any _ (hN.own H)) ?_
                rintro e w ⟨rfl, hb⟩
                replace H := H.grow hb; clear hb
                refine ⟨_, rfl, ?_⟩
                clear F a; intro a F
                refine sPk F rfl rfl rfl rfl ?_
                clear F a; intro a F
                refine sAs F rfl rfl rfl ?_
                clear F a; intro a F
                refine sNil ?_
                refine hK6 _ _ ?_; clear hK6
                refine wp_ret ?_
                simp only [Exit.then]
                refine bRet Tryd.results7 F rfl ?_
                exact ⟨retB rfl, H.below⟩
              ·
                exact notEq (same_iff.2 fun _ _ => rfl) h67
            ·
              replace h62 := beqF h62
              exact absurd rfl h62
          ·
            replace h57 := bneF h57
            exact absurd h57 hv
        ·
          replace h52 := beqF h52
          exact absurd rfl h52
      ·
        replace h48 := beqF h48
        exact absurd rfl h48
    ·
      replace h44 := bneF h44
      have hv : rightErr p = 0 := by
        apply Decidable.byContradiction
        intro h
        rw [startE, if_neg h] at h44
        cases h44
      have hV := valid hv
      have hV4 := hV.thr4
      obtain ⟨r, ix, z, hplay, hruns, hz⟩ := runs_of_play hv Q 48 (startP p) [] (mu_start hv _)
      rw [List.nil_append] at hplay
      have eO : playO p Q = r := by rw [playO, if_pos hv, playR, hplay]
      have eF : playF p Q = finalP z := by rw [playF, if_pos hv, playR, hplay]
      have eE : startE p = 0 := if_pos hv
      have eS : startS p = startP p := if_pos hv
      have hmu := hruns.mu hv
      have hmu2 := mu_sum hv
      have hmu3 := mu_start hv (startP p)
      simp only [eO, eF, eE, eS] at H F
      refine wp_skip ?_
      refine hK4 _ _ ?_; clear hK4
      refine cSeq (fun K7 hK7 => ?_)
      refine cReg ?_
      refine sAs F rfl rfl rfl ?_
      clear F a; intro a F
      refine sNil ?_
      refine hK7 _ _ ?_; clear hK7
      refine cSeq (fun K8 hK8 => ?_)
      refine cSeq (fun K9 hK9 => ?_)
      refine cReg ?_
      refine sFa (f := 3) (k := 3) Tryd.underlying29 rfl Tryd.sizeOf24 rfl rfl F rfl rfl rfl ?_
      clear F a; intro a F
      refine sLd Tryd.isAgg24 F rfl rfl rfl (H.cell 3 rfl rfl) ?_
      clear F a; intro a F
      refine sLen Tryd.underlying24 F rfl rfl rfl ?_
      clear F a; intro a F
      refine sMv F rfl rfl rfl ?_
      clear F a; intro a F
      refine sNil ?_
      refine hK9 _ _ ?_; clear hK9
      refine wp_block ?_
      refine cLoopR [2, 5, 6, 8, 71, 72] (fun m ups w => ∃ (j y : Nat), m = p.threads.length - j ∧ ups = [(10, .int .i64 ((y : Nat) : Int)), (73, .int .i64 ((j : Nat) : Int))] ∧ j ≤ p.threads.length ∧ y = sumL (p.threads.take j) ∧ y ≤ 12 * j ∧ Own w0 none w [.blk b8 (bs 142 (startP p)) 41, .blk b5 (bs 38 (finalP z)) 65, .rws 3 1 (.slice A r.length c) (intRows r), .blk b2 ([.string p.name, .slice LA p.locs.length LC, .slice IA p.init.length IC, .slice TA p.threads.length TC, Go.Proofs.YtfemniboggnbiaaDoor.b8 p.ask] ++ [c1, c2, c3, c4, c5]) 29]) F (p.threads.length) [(10, .int .i64 ((0 : Nat) : Int)), (73, .int .i64 ((0 : Nat) : Int))] (by repeat (first | exact SubR.nil | (apply SubR.cons; · rfl))) ?_ ?_ ?_
      · exact ⟨0, 0, rfl, rfl, by omega, rfl, by omega, H.sel [0, 2, 1, 3] rfl rfl⟩
      · repeat (first | exact trivial | refine Le.cons rfl ?_)
      clear F
      clear H
      intro m ups a w hI F
      obtain ⟨j, y, rfl, rfl, hj, hy, hy12, H⟩ := hI
      refine cSeq (fun K10 hK10 => ?_)
      refine cReg ?_
      refine sBin F rfl rfl rfl rfl bLss ?_
      clear F a; intro a F
      refine sNil ?_
      refine hK10 _ _ ?_; clear hK10
      refine cSeq (fun K11 hK11 => ?_)
      refine cIf F rfl (fun h74 => ?_) (fun h74 => ?_)
      ·
        replace h74 := of_decide_eq_true h74
        have hjl : j < p.threads.length := by omega
        obtain ⟨l, hl⟩ : ∃ l, p.threads[j]? = some l := ⟨_, List.getElem?_eq_getElem hjl⟩
        have hl12 := hV.long j l hl
        obtain ⟨bT, oT, BT, CT, rfl, hT1, hT2, hT3⟩ := hp.threads j l hl
        refine wp_skip ?_
        refine hK11 _ _ ?_; clear hK11
        refine cSeq (fun K12 hK12 => ?_)
        refine wp_block ?_
        refine cSeq (fun K13 hK13 => ?_)
        refine cReg ?_
        refine sIx Tryd.underlying24 Tryd.sizeOf53 F rfl rfl rfl rfl ?_ ?_
        focus (first | omega | decide | (simp; omega))
        clear F a; intro a F
        refine sLd Tryd.isAgg53 F rfl rfl rfl (H.arg hT1) ?_
        clear F a; intro a F
        refine sAs F rfl rfl rfl ?_
        clear F a; intro a F
        refine sNil ?_
        refine hK13 _ _ ?_; clear hK13
        refine cReg ?_
        refine sMv F rfl rfl rfl ?_
        clear F a; intro a F
        refine sMv F rfl rfl rfl ?_
        clear F a; intro a F
        refine sLen Tryd.underlying53 F rfl rfl rfl ?_
        clear F a; intro a F
        refine sBin F rfl rfl rfl rfl (bAddN ?_) ?_
        focus omega
        clear F a; intro a F
        refine sAs F rfl rfl rfl ?_
        clear F a; intro a F
        refine sNil ?_
        refine hK12 _ _ ?_; clear hK12
        refine cReg ?_
        refine sBin F rfl rfl rfl rfl (bAddN (j := 1) ?_) ?_
        focus omega
        clear F a; intro a F
        refine sMv F rfl rfl rfl ?_
        clear F a; intro a F
        refine sNil ?_
        exact ⟨_, by omega, _, ⟨j + 1, y + l.length, rfl, rfl, by omega, by rw [sumL_take hl, hy], by omega, H⟩, F.to (by repeat (first | exact trivial | refine Le.cons rfl ?_))⟩
      ·
        replace h74 := of_decide_eq_false h74
        have hjl : j = p.threads.length := by omega
        subst hjl
        rw [List.take_length] at hy
        refine wp_exit ?_
        refine hK8 _ _ ?_; clear hK8
        refine cSeq (fun K14 hK14 => ?_)
        refine cReg ?_
        refine sAs F rfl rfl rfl ?_
        clear F a; intro a F
        replace H := H.nilRws 5 1
        refine sNil ?_
        refine hK14 _ _ ?_; clear hK14
        refine cSeq (fun K15 hK15 => ?_)
        refine cSeq (fun K16 hK16 => ?_)
        refine cReg ?_
        refine sMv F rfl rfl rfl ?_
        clear F a; intro a F
        refine sLen Tryd.underlying44 F rfl rfl rfl ?_
        clear F a; intro a F
        refine sMv F rfl rfl rfl ?_
        clear F a; intro a F
        refine sNil ?_
        refine hK16 _ _ ?_; clear hK16
        refine wp_block ?_
        refine cLoopR [2, 5, 6, 8, 10, 82, 83] (fun m ups w => ∃ (j : Nat) (s : By) (al : List UInt8) (ixr : List UInt8) (A2 : Option Addr) (k2 : Nat), m = r.length - j ∧ ups = [(13, .slice A2 al.length k2), (84, .int .i64 ((j : Nat) : Int))] ∧ j ≤ r.length ∧ Runs p (startP p) (r.take j) al s ∧ Runs p s (r.drop j) ixr z ∧ Own w0 none w [.rws 5 1 (.slice A2 al.length k2) (u8Rows al), .blk b8 (bs 142 s) 41, .blk b5 (bs 38 (finalP z)) 65, .rws 3 1 (.slice A r.length c) (intRows r), .blk b2 ([.string p.name, .slice LA p.locs.length LC, .slice IA p.init.length IC, .slice TA p.threads.length TC, Go.Proofs.YtfemniboggnbiaaDoor.b8 p.ask] ++ [c1, c2, c3, c4, c5]) 29]) F (r.length) [(13, .slice none 0 0), (84, .int .i64 ((0 : Nat) : Int))] (by repeat (first | exact SubR.nil | (apply SubR.cons; · rfl))) ?_ ?_ ?_
        · exact ⟨0, startP p, [], ix, none, 0, rfl, rfl, by omega, rfl, hruns, H⟩
        · repeat (first | exact trivial | refine Le.cons rfl ?_)
        clear F
        clear H
        intro m ups a w hI F
        obtain ⟨j, s, al, ixr, A2, k2, rfl, rfl, hj, hrun, hrest, H⟩ := hI
        have hlr := (H.rwsLen 3 rfl).2
        simp only [maxLen] at hlr
        refine cSeq (fun K17 hK17 => ?_)
        refine cReg ?_
        refine sBin F rfl rfl rfl rfl bLss ?_
        clear F a; intro a F
        refine sNil ?_
        refine hK17 _ _ ?_; clear hK17
        refine cSeq (fun K18 hK18 => ?_)
        refine cIf F rfl (fun h85 => ?_) (fun h85 => ?_)
        ·
          replace h85 := of_decide_eq_true h85
          have hjl : j < r.length := by omega
          obtain ⟨t, ht⟩ : ∃ t, r[j]? = some t := ⟨_, List.getElem?_eq_getElem hjl⟩
          rw [drop_one ht] at hrest
          obtain ⟨i, ix', hi, hrest'⟩ := hrest.uncons
          have hr : rightS p s = true := hrun.right (start_right hv)
          have eM : movesP p s = enabledP p s := by rw [movesP, if_pos hr]
          have hlt : i.toNat < (enabledP p s).length := (List.getElem?_eq_some_iff.1 hi).1
          have hal := hrun.len
          rw [List.length_take] at hal
          obtain ⟨bL, oL, rfl, hL⟩ := H.intAt 3 rfl ht
          refine wp_skip ?_
          refine hK18 _ _ ?_; clear hK18
          refine cSeq (fun K19 hK19 => ?_)
          refine wp_block ?_
          refine cSeq (fun K20 hK20 => ?_)
          refine cReg ?_
          refine sIx Tryd.underlying44 Tryd.sizeOf3 F rfl rfl rfl rfl ?_ ?_
          focus (first | omega | decide | (simp; omega))
          clear F a; intro a F
          refine sLd Tryd.isAgg3 F rfl rfl rfl (by obtain ⟨b', o', h1, h2⟩ := H.intAt 3 rfl ht; cases h1; exact h2) ?_
          clear F a; intro a F
          refine sAs F rfl rfl rfl ?_
          clear F a; intro a F
          refine sNil ?_
          refine hK20 _ _ ?_; clear hK20
          refine cSeq (fun K21 hK21 => ?_)
          refine cReg ?_
          refine sLr Tryd.underlying29 rfl ?si F rfl rfl rfl (H.whole 4 rfl) ?_
          case si => exact info_size Tryd.sizeOf29
          clear F a; intro a F
          refine sLrB Tryd.underlying41 rfl Tryd.sizeOf41 F rfl rfl rfl (H.whole 1 rfl) ?_
          clear F a; intro a F
          refine sCall Tryd.call10 F rfl rfl rfl (moves_any _ p _ (hP0.own H) (hN.own H) s) ?_
          rintro e w ⟨A4, c4', rfl, H2⟩
          replace H := H.join H2; clear H2; rw [eM] at H; rw [eM]
          refine ⟨_, rfl, ?_⟩
          clear F a; intro a F
          refine sAs F rfl rfl rfl ?_
          clear F a; intro a F
          refine sNil ?_
          refine hK21 _ _ ?_; clear hK21
          refine cSeq (fun K22 hK22 => ?_)
          refine cSeq (fun K23 hK23 => ?_)
          refine cReg ?_
          refine sMv F rfl rfl rfl ?_
          clear F a; intro a F
          refine sLen Tryd.underlying44 F rfl rfl rfl ?_
          clear F a; intro a F
          refine sMv F rfl rfl rfl ?_
          clear F a; intro a F
          refine sNil ?_
          refine hK23 _ _ ?_; clear hK23
          refine wp_block ?_
          refine cLoopR [2, 5, 6, 8, 10, 15, 82, 83, 84, 91, 92] (fun m ups w => ∃ (k : Nat) (a2 : List UInt8) (A3 : Option Addr) (c3' : Nat), m = (enabledP p s).length - k ∧ ups = [(13, .slice A3 a2.length c3'), (93, .int .i64 ((k : Nat) : Int))] ∧ k ≤ (enabledP p s).length ∧ a2 = al ++ (if i.toNat < k then [i] else []) ∧ Own w0 none w [.rws 3 1 (.slice A4 (enabledP p s).length c4') (intRows (enabledP p s)), .rws 5 1 (.slice A3 a2.length c3') (u8Rows a2), .blk b8 (bs 142 s) 41, .blk b5 (bs 38 (finalP z)) 65, .rws 3 1 (.slice (some ⟨bL, oL, none⟩) r.length c) (intRows r), .blk b2 ([.string p.name, .slice LA p.locs.length LC, .slice IA p.init.length IC, .slice TA p.threads.length TC, Go.Proofs.YtfemniboggnbiaaDoor.b8 p.ask] ++ [c1, c2, c3, c4, c5]) 29]) F ((enabledP p s).length) [(13, .slice A2 al.length k2), (93, .int .i64 ((0 : Nat) : Int))] (by repeat (first | exact SubR.nil | (apply SubR.cons; · rfl))) ?_ ?_ ?_
          · exact ⟨0, al, A2, k2, rfl, rfl, by omega, by simp, H⟩
          · repeat (first | exact trivial | refine Le.cons rfl ?_)
          clear F
          clear H
          intro m ups a w hI F
          obtain ⟨k, a2, A3, c3', rfl, rfl, hk, ha2, H⟩ := hI
          have hle := (H.rwsLen 0 rfl).2
          simp only [maxLen] at hle
          refine cSeq (fun K24 hK24 => ?_)
          refine cReg ?_
          refine sBin F rfl rfl rfl rfl bLss ?_
          clear F a; intro a F
          refine sNil ?_
          refine hK24 _ _ ?_; clear hK24
          refine cSeq (fun K25 hK25 => ?_)
          refine cIf F rfl (fun h94 => ?_) (fun h94 => ?_)
          ·
            replace h94 := of_decide_eq_true h94
            have hkl : k < (enabledP p s).length := by omega
            obtain ⟨u, hu⟩ : ∃ u, (enabledP p s)[k]? = some u := ⟨_, List.getElem?_eq_getElem hkl⟩
            obtain ⟨bE, oE, rfl, hE⟩ := H.intAt 0 rfl hu
            refine wp_skip ?_
            refine hK25 _ _ ?_; clear hK25
            refine cSeq (fun K26 hK26 => ?_)
            refine wp_block ?_
            refine cSeq (fun K27 hK27 => ?_)
            refine cReg ?_
            refine sMv F rfl rfl rfl ?_
            clear F a; intro a F
            refine sIx Tryd.underlying44 Tryd.sizeOf3 F rfl rfl rfl rfl ?_ ?_
            focus (first | omega | decide | (simp; omega))
            clear F a; intro a F
            refine sLd Tryd.isAgg3 F rfl rfl rfl (by obtain ⟨b', o', h1, h2⟩ := H.intAt 0 rfl hu; cases h1; exact h2) ?_
            clear F a; intro a F
            refine sAs F rfl rfl rfl ?_
            clear F a; intro a F
            refine sAs F rfl rfl rfl ?_
            clear F a; intro a F
            refine sNil ?_
            refine hK27 _ _ ?_; clear hK27
            refine cSeq (fun K28 hK28 => ?_)
            refine cReg ?_
            refine sMv F rfl rfl rfl ?_
            clear F a; intro a F
            refine sMv F rfl rfl rfl ?_
            clear F a; intro a F
            refine sBin F rfl rfl rfl rfl bEql ?_
            clear F a; intro a F
            refine sNil ?_
            refine hK28 _ _ ?_; clear hK28
            refine cIf F rfl (fun h100 => ?_) (fun h100 => ?_)
            ·
              replace h100 := beqT h100
              have hut : u = t := by omega
              subst hut
              have hki : k = i.toNat := enabled_inj hu hi
              have ha3 : a2 = al := by rw [ha2, if_neg (by omega), List.append_nil]
              subst ha3
              refine cReg ?_
              refine sMv F rfl rfl rfl ?_
              clear F a; intro a F
              refine sMv F rfl rfl rfl ?_
              clear F a; intro a F
              refine sCv Tryd.underlying3 Tryd.underlying5 F rfl rfl rfl (wrap8 _) ?_
              clear F a; intro a F
              refine sBs1 H Tryd.underlying23 Tryd.sizeOf5 Tryd.zeroValue5 rfl F rfl rfl rfl rfl ?_
              clear F a H; intro b104 a w F H
              refine sApp1 (bytes := 1) H 2 Tryd.underlying23 Tryd.typeInfo5 rfl rfl rfl rfl rfl rfl F rfl rfl rfl rfl rfl (H.whole 0 rfl) rfl ?s1 ?s2 ?_
              case s1 => first | rfl | (repeat (first | exact one_nil | (apply one_cons; · first | rfl | assumption | exact one_bif rfl rfl)))
              case s2 => (rw [u8Rows_length]; omega)
              clear F a H; intro A105 c105 a w F H
              refine sAs F rfl rfl rfl ?_
              clear F a; intro a F
              refine sNil ?_
              refine hK26 _ _ ?_; clear hK26
              refine cReg ?_
              refine sBin F rfl rfl rfl rfl (bAddN (j := 1) ?_) ?_
              focus omega
              clear F a; intro a F
              refine sMv F rfl rfl rfl ?_
              clear F a; intro a F
              refine sNil ?_
              first
                | (have e8 : Value.int .u8 ((UInt8.ofNat k).toNat : Int) = Go.Proofs.YtfemniboggnbiaaDoor.b8 i := by rw [hki, ofNat_toNat8]
                   rw [e8, ← u8Rows_append, u8Rows_length] at H F
                   exact ⟨_, by omega, _, ⟨k + 1, a2 ++ [i], A105, c105, rfl, rfl, by omega, by rw [if_pos (by omega)], H.sel [1, 2, 3, 4, 5, 6] rfl rfl⟩, F.to (by repeat (first | exact trivial | refine Le.cons rfl ?_))⟩)
                | (have hne : k ≠ i.toNat := fun e => h100 (by subst e; rw [hi] at hu; cases hu; rfl)
                   have hs2 : a2 = al ++ (if i.toNat < k + 1 then [i] else []) := by
                     rw [ha2]
                     by_cases hq : i.toNat < k
                     · rw [if_pos hq, if_pos (by omega)]
                     · rw [if_neg hq, if_neg (by omega)]
                   exact ⟨_, by omega, _, ⟨k + 1, a2, A3, c3', rfl, rfl, by omega, hs2, H.tail⟩, F.to (by repeat (first | exact trivial | refine Le.cons rfl ?_))⟩)
            ·
              replace h100 := beqF h100
              refine wp_skip ?_
              refine hK26 _ _ ?_; clear hK26
              refine cReg ?_
              refine sBin F rfl rfl rfl rfl (bAddN (j := 1) ?_) ?_
              focus omega
              clear F a; intro a F
              refine sMv F rfl rfl rfl ?_
              clear F a; intro a F
              refine sNil ?_
              first
                | (have e8 : Value.int .u8 ((UInt8.ofNat k).toNat : Int) = Go.Proofs.YtfemniboggnbiaaDoor.b8 i := by rw [hki, ofNat_toNat8]
                   rw [e8, ← u8Rows_append, u8Rows_length] at H F
                   exact ⟨_, by omega, _, ⟨k + 1, a2 ++ [i], A105, c105, rfl, rfl, by omega, by rw [if_pos (by omega)], H.sel [0, 1, 2, 3, 4, 5] rfl rfl⟩, F.to (by repeat (first | exact trivial | refine Le.cons rfl ?_))⟩)
                | (have hne : k ≠ i.toNat := fun e => h100 (by subst e; rw [hi] at hu; cases hu; rfl)
                   have hs2 : a2 = al ++ (if i.toNat < k + 1 then [i] else []) := by
                     rw [ha2]
                     by_cases hq : i.toNat < k
                     · rw [if_pos hq, if_pos (by omega)]
                     · rw [if_neg hq, if_neg (by omega)]
                   exact ⟨_, by omega, _, ⟨k + 1, a2, A3, c3', rfl, rfl, by omega, hs2, H⟩, F.to (by repeat (first | exact trivial | refine Le.cons rfl ?_))⟩)
          ·
            replace h94 := of_decide_eq_false h94
            have ha3 : a2 = al ++ [i] := by rw [ha2, if_pos (by omega)]
            subst ha3
            obtain ⟨eM1, eE1⟩ := move_ok (p := p) (s := s) (k := t) (by rw [eM]; exact List.mem_of_getElem? hi)
            refine wp_exit ?_
            refine hK22 _ _ ?_; clear hK22
            refine cSeq (fun K29 hK29 => ?_)
            refine cReg ?_
            refine sLr Tryd.underlying29 rfl ?si F rfl rfl rfl (H.whole 5 rfl) ?_
            case si => exact info_size Tryd.sizeOf29
            clear F a; intro a F
            refine sLrB Tryd.underlying41 rfl Tryd.sizeOf41 F rfl rfl rfl (H.whole 2 rfl) ?_
            clear F a; intro a F
            refine sMv F rfl rfl rfl ?_
            clear F a; intro a F
            refine sCall Tryd.call13 F rfl rfl rfl (move_any _ p _ (hP0.own H) (hN.own H) s t) ?_
            rintro e w ⟨rfl, hb⟩
            replace H := H.grow hb; clear hb; rw [eM1, eE1]
            refine ⟨_, rfl, ?_⟩
            clear F a; intro a F
            refine sMv F rfl rfl rfl ?_
            clear F a; intro a F
            refine sExt F rfl rfl rfl rfl ?_
            clear F a; intro a F
            refine sExt F rfl rfl rfl rfl ?_
            clear F a; intro a F
            refine sSrB H 2 Tryd.sizeOf41 F rfl rfl rfl rfl (by omega) ?_
            clear H; intro w H
            rw [lay_all] at H
            refine sAs F rfl rfl rfl ?_
            clear F a; intro a F
            refine sNil ?_
            refine hK29 _ _ ?_; clear hK29
            refine cSeq (fun K30 hK30 => ?_)
            refine cReg ?_
            refine sMv F rfl rfl rfl ?_
            clear F a; intro a F
            refine sBin F rfl rfl rfl rfl bNeq ?_
            clear F a; intro a F
            refine sNil ?_
            refine hK30 _ _ ?_; clear hK30
            refine cIf F rfl (fun h115 => ?_) (fun h115 => ?_)
            ·
              replace h115 := bneT h115
              exact absurd rfl h115
            ·
              replace h115 := bneF h115
              refine wp_skip ?_
              refine hK19 _ _ ?_; clear hK19
              refine cReg ?_
              refine sBin F rfl rfl rfl rfl (bAddN (j := 1) ?_) ?_
              focus omega
              clear F a; intro a F
              refine sMv F rfl rfl rfl ?_
              clear F a; intro a F
              refine sNil ?_
              exact ⟨_, by omega, _, ⟨j + 1, stepP p s t, al ++ [i], ix', A3, c3', rfl, rfl, by omega, by rw [take_one ht]; exact Runs.append hi hrun, hrest', H.sel [1, 2, 3, 4, 5] rfl rfl⟩, F.to (by repeat (first | exact trivial | refine Le.cons rfl ?_))⟩
        ·
          replace h85 := of_decide_eq_false h85
          have hjl : j = r.length := by omega
          subst hjl
          rw [List.drop_length] at hrest
          rw [List.take_length] at hrun
          have hzs := hrest.nil
          subst hzs
          have hal := hrun.len
          have hre := hrun.play hz (f := 48) (pre := []) (run0 := []) (by omega) rfl
          rw [List.nil_append, List.nil_append] at hre
          have eO2 : playO p al = r := by rw [playO, if_pos hv, playR, hre]
          have eF2 : playF p al = finalP z := by rw [playF, if_pos hv, playR, hre]
          have hrz : rightS p z = true := hrun.right (start_right hv)
          refine wp_exit ?_
          refine hK15 _ _ ?_; clear hK15
          refine cSeq (fun K31 hK31 => ?_)
          refine cReg ?_
          refine sLr Tryd.underlying29 rfl ?si F rfl rfl rfl (H.whole 4 rfl) ?_
          case si => exact info_size Tryd.sizeOf29
          clear F a; intro a F
          refine sMv F rfl rfl rfl ?_
          clear F a; intro a F
          refine sCall Tryd.call17 F rfl rfl rfl (play_any _ p _ (hP0.own H) (hN.own H) A2 k2 al (H.u8s 0 rfl) (by omega)) ?_
          rintro e w ⟨A5, c5', rfl, H2⟩
          replace H := H.join H2; clear H2; rw [eO2] at H; rw [eO2, eF2]
          refine ⟨_, rfl, ?_⟩
          clear F a; intro a F
          refine sMv F rfl rfl rfl ?_
          clear F a; intro a F
          refine sExt F rfl rfl rfl rfl ?_
          clear F a; intro a F
          refine sExt F rfl rfl rfl rfl ?_
          clear F a; intro a F
          refine sExt F rfl rfl rfl rfl ?_
          clear F a; intro a F
          refine sAlB H zB65 F rfl rfl ?_
          clear F a H; intro b19 a w F H
          refine sSrB H 0 Tryd.sizeOf65 F rfl rfl rfl rfl (by omega) ?_
          clear H; intro w H
          rw [lay_all] at H
          refine sAs F rfl rfl rfl ?_
          clear F a; intro a F
          refine sAs F rfl rfl rfl ?_
          clear F a; intro a F
          refine sNil ?_
          refine hK31 _ _ ?_; clear hK31
          refine cSeq (fun K32 hK32 => ?_)
          refine cRegRO (by kernel_rfl) H ?_
          replace H := H.drew
          refine eTakeF (k := 0) (i := 0) rfl (by kernel_rfl) F rfl rfl rfl (fun w => rMv F rfl) (H.sel [0, 1, 2, 3, 4, 5, 6] rfl rfl) (fun _ _ _ h => h) ?_
          clear F a; intro a F
          refine eTake (k := 1) (i := 1) rfl (by kernel_rfl) F rfl rfl rfl rfl (fun w H => rLen Tryd.underlying44 F rfl) (H.sel [0, 1, 2, 3, 4, 5, 6] rfl rfl) (fun _ _ _ h => h) ?_
          clear F a; intro a F
          refine eTakeF (k := 2) (i := 2) rfl (by kernel_rfl) F rfl rfl rfl (fun w => rMv F rfl) (H.sel [0, 1, 2, 3, 4, 5, 6] rfl rfl) (fun _ _ _ h => h) ?_
          clear F a; intro a F
          refine eTakeF (k := 3) (i := 3) rfl (by kernel_rfl) F rfl rfl rfl (fun w => rBin F rfl rfl bLeq) (H.sel [0, 1, 2, 3, 4, 5, 6] rfl rfl) (fun _ _ _ h => h) ?_
          clear F a; intro a F
          refine eTakeF (k := 4) (i := 4) rfl (by kernel_rfl) F rfl rfl rfl (fun w => rMv F rfl) (H.sel [0, 1, 2, 3, 4, 5, 6] rfl rfl) (fun _ _ _ h => h) ?_
          clear F a; intro a F
          refine F.split 128 rfl ?_ ?_ <;> (clear F; intro h128 F)
          ·
            replace h128 := of_decide_eq_true h128
            refine eTakeF (k := 5) (i := 5) rfl (by kernel_rfl) F rfl rfl rfl (fun w => rMv F rfl) (H.sel [0, 1, 2, 3, 4, 5, 6] rfl rfl) (fun _ _ _ h => h) ?_
            clear F a; intro a F
            refine eTake (k := 6) (i := 6) rfl (by kernel_rfl) F rfl rfl rfl rfl (fun w H => rLen Tryd.underlying23 F rfl) (H.sel [0, 1, 2, 3, 4, 5, 6] rfl rfl) (fun _ _ _ h => h) ?_
            clear F a; intro a F
            refine eTakeF (k := 7) (i := 7) rfl (by kernel_rfl) F rfl rfl rfl (fun w => rMv F rfl) (H.sel [0, 1, 2, 3, 4, 5, 6] rfl rfl) (fun _ _ _ h => h) ?_
            clear F a; intro a F
            refine eTake (k := 8) (i := 8) rfl (by kernel_rfl) F rfl rfl rfl rfl (fun w H => rLen Tryd.underlying44 F rfl) (H.sel [0, 1, 2, 3, 4, 5, 6] rfl rfl) (fun _ _ _ h => h) ?_
            clear F a; intro a F
            refine eTakeF (k := 9) (i := 9) rfl (by kernel_rfl) F rfl rfl rfl (fun w => rBin F rfl rfl bEql) (H.sel [0, 1, 2, 3, 4, 5, 6] rfl rfl) (fun _ _ _ h => h) ?_
            clear F a; intro a F
            refine eTakeF (k := 10) (i := 10) rfl (by kernel_rfl) F rfl rfl rfl (fun w => rPk F rfl rfl) (H.sel [0, 1, 2, 3, 4, 5, 6] rfl rfl) (fun _ _ _ h => h) ?_
            clear F a; intro a F
            refine eTakeF (k := 11) (i := 11) rfl (by kernel_rfl) F rfl rfl rfl (fun w => rMv F rfl) (H.sel [0, 1, 2, 3, 4, 5, 6] rfl rfl) (fun _ _ _ h => h) ?_
            clear F a; intro a F
            refine F.split 135 rfl ?_ ?_ <;> (clear F; intro h135 F)
            ·
              replace h135 := beqT h135
              refine eTake (k := 12) (i := 12) rfl (by kernel_rfl) F rfl rfl rfl rfl (fun w H => rLr Tryd.underlying29 rfl ?si F rfl (H.whole 6 rfl)) (H.sel [0, 1, 2, 3, 4, 5, 6] rfl rfl) (fun _ _ _ h => h) ?_
              case si => exact info_size Tryd.sizeOf29
              clear F a; intro a F
              refine eTake (k := 13) (i := 13) rfl (by kernel_rfl) F rfl rfl rfl rfl (fun w H => rLrB Tryd.underlying41 rfl Tryd.sizeOf41 F rfl (H.whole 3 rfl)) (H.sel [0, 1, 2, 3, 4, 5, 6] rfl rfl) (fun _ _ _ h => h) ?_
              clear F a; intro a F
              refine eOne (k := 14) (i := 14) rfl (by kernel_rfl) F rfl (oCall Tryd.call28 F rfl rfl (overA_any _ p _ (hP0.own H) (hN.own H) z) ?_)
              rintro e w ⟨rfl, hb⟩
              replace H := H.grow hb; clear hb
              refine ⟨_, rfl, ?_⟩
              clear F a; intro a F
              refine ePartO (by kernel_rfl) H ?_
              refine eTakeF (k := 15) (i := 15) rfl (by kernel_rfl) F rfl rfl rfl (fun w => rPk F rfl rfl) (H.sel [0, 1, 2, 3, 4, 5, 6] rfl rfl) (fun _ _ _ h => h) ?_
              clear F a; intro a F
              refine eTakeF (k := 16) (i := 16) rfl (by kernel_rfl) F rfl rfl rfl (fun w => rMv F rfl) (H.sel [0, 1, 2, 3, 4, 5, 6] rfl rfl) (fun _ _ _ h => h) ?_
              clear F a; intro a F
              refine F.split 140 rfl ?_ ?_ <;> (clear F; intro h140 F)
              ·
                refine eTake (k := 17) (i := 17) rfl (by kernel_rfl) F rfl rfl rfl rfl (fun w H => rLrB Tryd.underlying41 rfl Tryd.sizeOf41 F rfl (H.whole 3 rfl)) (H.sel [0, 1, 2, 3, 4, 5, 6] rfl rfl) (fun _ _ _ h => h) ?_
                clear F a; intro a F
                refine eTake (k := 18) (i := 19) rfl (by kernel_rfl) F rfl rfl rfl rfl (fun w H => rLrB Tryd.underlying65 rfl Tryd.sizeOf65 F rfl (H.whole 4 rfl)) (H.sel [0, 1, 2, 3, 4, 5, 6] rfl rfl) (fun _ _ _ h => h) ?_
                clear F a; intro a F
                refine eOne (k := 19) (i := 18) rfl (by kernel_rfl) F rfl (oCall Tryd.call29 F rfl rfl (final_any z _) ?_)
                rintro e w ⟨rfl, hb⟩
                replace H := H.grow hb; clear hb
                refine ⟨_, rfl, ?_⟩
                clear F a; intro a F
                refine eKeep (H.sel [0, 1, 2, 3, 4, 5, 6] rfl rfl) ?_
                refine eTakeF (k := 20) (i := 20) rfl (by kernel_rfl) F rfl rfl rfl (fun w => rBin F rfl rfl (bEqY eT65 gT65 rfl)) (H.sel [0, 1, 2, 3, 4, 5, 6] rfl rfl) (fun _ _ _ h => h) ?_
                clear F a; intro a F
                refine eTakeF (k := 21) (i := 21) rfl (by kernel_rfl) F rfl rfl rfl (fun w => rPk F rfl rfl) (H.sel [0, 1, 2, 3, 4, 5, 6] rfl rfl) (fun _ _ _ h => h) ?_
                clear F a; intro a F
                refine eTakeF (k := 22) (i := 22) rfl (by kernel_rfl) F rfl rfl rfl (fun w => rMv F rfl) (H.sel [0, 1, 2, 3, 4, 5, 6] rfl rfl) (fun _ _ _ h => h) ?_
                clear F a; intro a F
                refine F.split 146 rfl ?_ ?_ <;> (clear F; intro h146 F)
                ·
                  refine eTake (k := 23) (i := 23) rfl (by kernel_rfl) F rfl rfl rfl rfl (fun w H => rLrB Tryd.underlying65 rfl Tryd.sizeOf65 F rfl (H.whole 0 rfl)) (H.sel [0, 1, 2, 3, 4, 5, 6] rfl rfl) (fun _ _ _ h => h) ?_
                  clear F a; intro a F
                  refine eTake (k := 24) (i := 24) rfl (by kernel_rfl) F rfl rfl rfl rfl (fun w H => rLrB Tryd.underlying65 rfl Tryd.sizeOf65 F rfl (H.whole 4 rfl)) (H.sel [0, 1, 2, 3, 4, 5, 6] rfl rfl) (fun _ _ _ h => h) ?_
                  clear F a; intro a F
                  refine eTakeF (k := 25) (i := 25) rfl (by kernel_rfl) F rfl rfl rfl (fun w => rBin F rfl rfl (bEqY eT65 gT65 rfl)) (H.sel [0, 1, 2, 3, 4, 5, 6] rfl rfl) (fun _ _ _ h => h) ?_
                  clear F a; intro a F
                  refine eTakeF (k := 26) (i := 26) rfl (by kernel_rfl) F rfl rfl rfl (fun w => rPk F rfl rfl) (H.sel [0, 1, 2, 3, 4, 5, 6] rfl rfl) (fun _ _ _ h => h) ?_
                  clear F a; intro a F
                  refine eTakeF (k := 27) (i := 27) rfl (by kernel_rfl) F rfl rfl rfl (fun w => rMv F rfl) (H.sel [0, 1, 2, 3, 4, 5, 6] rfl rfl) (fun _ _ _ h => h) ?_
                  clear F a; intro a F
                  refine F.split 151 rfl ?_ ?_ <;> (clear F; intro h151 F)
                  ·
                    refine eTakeF (k := 28) (i := 28) rfl (by kernel_rfl) F rfl rfl rfl (fun w => rMv F rfl) (H.sel [0, 1, 2, 3, 4, 5, 6] rfl rfl) (fun _ _ _ h => h) ?_
                    clear F a; intro a F
                    refine eTakeF (k := 29) (i := 29) rfl (by kernel_rfl) F rfl rfl rfl (fun w => rMv F rfl) (H.sel [0, 1, 2, 3, 4, 5, 6] rfl rfl) (fun _ _ _ h => h) ?_
                    clear F a; intro a F
                    refine eOne (k := 30) (i := 30) rfl (by kernel_rfl) F rfl (oCall Tryd.call27 F rfl rfl (ints_any A5 _ c5' c r r _ (H.ints 1 rfl) (H.ints 5 rfl) (by omega) (by omega)) ?_)
                    rintro e w ⟨rfl, hb⟩
                    replace H := H.grow hb; clear hb
                    refine ⟨_, rfl, ?_⟩
                    clear F a; intro a F
                    refine ePartO (by kernel_rfl) H ?_
                    refine eTakeF (k := 31) (i := 31) rfl (by kernel_rfl) F rfl rfl rfl (fun w => rPk F rfl rfl) (H.sel [0, 1, 2, 3, 4, 5, 6] rfl rfl) (fun _ _ _ h => h) ?_
                    clear F a; intro a F
                    refine eTakeF (k := 32) (i := 32) rfl (by kernel_rfl) F rfl rfl rfl (fun w => rMv F rfl) (H.sel [0, 1, 2, 3, 4, 5, 6] rfl rfl) (fun _ _ _ h => h) ?_
                    clear F a; intro a F
                    refine F.split 156 rfl ?_ ?_ <;> (clear F; intro h156 F)
                    ·
                      refine eOne (k := 33) (i := 33) rfl (by kernel_rfl) F rfl (oCall Tryd.call12 F rfl rfl (awake_any _ (hN.own H)) ?_)
                      rintro e w ⟨rfl, hb⟩
                      replace H := H.grow hb; clear hb
                      refine ⟨_, rfl, ?_⟩
                      clear F a; intro a F
                      refine ePartO (by kernel_rfl) H ?_
                      refine eTakeF (k := 34) (i := 34) rfl (by kernel_rfl) F rfl rfl rfl (fun w => rPk F rfl rfl) (H.sel [0, 1, 2, 3, 4, 5, 6] rfl rfl) (fun _ _ _ h => h) ?_
                      clear F a; intro a F
                      refine eTakeF (k := 35) (i := 35) rfl (by kernel_rfl) F rfl rfl rfl (fun w => rAs F rfl) (H.sel [0, 1, 2, 3, 4, 5, 6] rfl rfl) (fun _ _ _ h => h) ?_
                      clear F a; intro a F
                      refine eNil (k := 36) (by kernel_rfl) ?_
                      refine hK32 _ _ ?_; clear hK32
                      refine wp_ret ?_
                      refine bRet Tryd.results7 F rfl ?_
                      exact ⟨retB rfl, H.below⟩
                    ·
                      exact notEq (beq_self_eq_true _) h156
                  ·
                    exact notEq (same_iff.2 fun _ _ => rfl) h151
                ·
                  exact notEq (same_iff.2 fun _ _ => rfl) h146
              ·
                exact notEq (by rw [hrz, hz]; rfl) h140
            ·
              replace h135 := beqF h135
              exact absurd h135 (by omega)
          ·
            replace h128 := of_decide_eq_false h128
            exact absurd h128 (by omega)
end Go.Proofs.YtfemniboggnbiaaDoor
