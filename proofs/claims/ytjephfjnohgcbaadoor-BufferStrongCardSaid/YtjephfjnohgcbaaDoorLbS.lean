/-
  WALK2. The law of chapter 14: BufferStrong answers true. Conditions: what it is handed lies in memory; block 0 holds the table of needs.
-/
import Derived.Test.YtjephfjnohgcbaaDoorBwC
import Derived.Test.YtjephfjnohgcbaaDoorBfV
set_option linter.unusedSimpArgs false
set_option linter.unusedVariables false
namespace Go.Proofs.YtjephfjnohgcbaaDoor
open Go.RowKit
set_option maxRecDepth 100000

theorem Runs.nil {p : Prg} {s z : By} {ix : List UInt8} (h : Runs p s [] ix z) : z = s := by
  cases ix with
  | nil => exact h
  | cons _ _ => exact h.elim
theorem Runs.uncons {p : Prg} {s z : By} {t : Nat} {r : List Nat} {ix : List UInt8} (h : Runs p s (t :: r) ix z) : ∃ (i : UInt8) (ix' : List UInt8), (enabledP p s)[i.toNat]? = some t ∧ Runs p (stepP p s t) r ix' z := by
  cases ix with
  | nil => exact h.elim
  | cons i ix => exact ⟨i, ix, h.1, h.2⟩
theorem drop_one {α : Type} {l : List α} {j : Nat} {x : α} (h : l[j]? = some x) : l.drop j = x :: l.drop (j + 1) := by
  obtain ⟨hj, rfl⟩ := List.getElem?_eq_some_iff.1 h
  exact List.drop_eq_getElem_cons hj
theorem machine_any (m : UInt8) (w0 : World) : Calls Tryd.prog 23 #[Go.Proofs.YtjephfjnohgcbaaDoor.b8 m] w0 fun e w' => e = .returned (Go.Proofs.YtjephfjnohgcbaaDoor.b8 (1 + m % 3)) ∧ Below w0.heap.size w0 w' := by
  have H := Own.start w0 none
  refine enterF Tryd.func23 rfl Tryd.ntmps23 rfl (fun a F => ?_)
  refine cSeq (fun K1 hK1 => ?_)
  refine cReg ?_
  refine sAs F rfl rfl rfl ?_
  clear F a; intro a F
  refine sNil ?_
  refine hK1 _ _ ?_; clear hK1
  refine cSeq (fun K2 hK2 => ?_)
  refine cReg ?_
  refine sMv F rfl rfl rfl ?_
  clear F a; intro a F
  refine sBin F rfl rfl rfl rfl (bRemB (y := 3) ?_) ?_
  focus decide
  clear F a; intro a F
  refine sBin F rfl rfl rfl rfl (bAddB (x := 1)) ?_
  clear F a; intro a F
  refine sAs F rfl rfl rfl ?_
  clear F a; intro a F
  refine sNil ?_
  refine hK2 _ _ ?_; clear hK2
  refine wp_ret ?_
  refine bRet Tryd.results23 F rfl ?_
  exact ⟨rfl, H.below⟩
theorem known_mach (m : UInt8) : knownM (1 + m % 3) = true := by
  have h : (m % 3).toNat < 3 := by rw [UInt8.toNat_mod]; exact Nat.mod_lt _ (by decide)
  have e : (1 + m % 3).toNat = 1 + (m % 3).toNat := by rw [UInt8.toNat_add, show (1 : UInt8).toNat = 1 from rfl]; omega
  unfold knownM
  rw [decide_eq_true (UInt8.le_iff_toNat_le.2 (by rw [e, show (1 : UInt8).toNat = 1 from rfl]; omega)), decide_eq_true (UInt8.le_iff_toNat_le.2 (by rw [e, show (3 : UInt8).toNat = 3 from rfl]; omega))]
  rfl
def wantP (l : List Nat) : List Pss := l.map fun u => ⟨UInt8.ofNat u, false, 0⟩
theorem no_buf1 {m : UInt8} {x : Ins} {b : Bool} (h : b = false) (e : b = (x.op == 2)) : ¬ buffers m x := fun hb => by
  rw [h, hb.1] at e; cases e
theorem no_buf2 {m : UInt8} {x : Ins} (h : m = 1) : ¬ buffers m x := fun hb => hb.2 h
theorem plain_next {p : Prg} {m : UInt8} {s : By} {t : Nat} {l : List Ins} {x : Ins} (hE : ExecOf p m s t l x) (hz : ∀ i, 42 ≤ i → i < 142 → s i = 0) (hsp : stepP p s t = moveP x s t) (hb : ¬ buffers m x) : bs 142 (execP m x s t) = bs 142 (stepP p s t) := by
  rw [hsp]; exact bs_ext fun i _ => exec_plain hE hz hb i
theorem drain_next {p : Prg} {m : UInt8} {s : By} {t : Nat} {l : List Ins} {x : Ins} (hE : ExecOf p m s t l x) (hz : ∀ i, 42 ≤ i → i < 142 → s i = 0) (hsp : stepP p s t = moveP x s t) (hb : buffers m x) :
    moveEM p m (execP m x s t) (drainAt m (execP m x s t) t 0) = 0 ∧ bs 142 (moveSM p m (execP m x s t) (drainAt m (execP m x s t) t 0)) = bs 142 (stepP p s t) := by
  obtain ⟨h1, h2, h3⟩ := exec_drain hE hz hb
  have ht := hE.t4
  have hin : drainAt m (execP m x s t) t 0 ∈ movesR p m (execP m x s t) := by
    rw [movesR_eq hE.right]
    exact mem_drain0 (by rw [h1]; omega) _ (List.getElem?_eq_some_iff.1 hE.hl).1
  refine ⟨if_pos hin, ?_⟩
  unfold moveSM
  rw [if_pos hin, hsp]
  unfold stepM
  rw [if_pos (show (drainAt m (execP m x s t) t 0).d = true from rfl), show (drainAt m (execP m x s t) t 0).t.toNat = t from ofNat_to ht]
  have hi : drainI m (execP m x s t) t (drainAt m (execP m x s t) t 0).l = 0 := by
    unfold drainI
    rw [drainN_stop]
    rintro ⟨q1, q2⟩
    refine q2 ?_
    unfold drainAt
    exact (if_pos q1).symm
  unfold drainP
  rw [hi]
  exact bs_ext h3
set_option maxHeartbeats 1000000 in
theorem bufferStrong_any (cs : List Value) (p : Prg) (w0 : World) (hP : ProgAt w0 cs p) (hN : NeedsAt w0) (mach : UInt8) (PA : Option Addr) (PC : Nat) (picks : List UInt8) (hB : BytesAt w0 PA picks) (hBn : picks.length ≤ 9223372036854775807) (hBc : picks.length ≤ PC) :
    Calls Tryd.prog 8 #[.agg cs.toArray, Go.Proofs.YtjephfjnohgcbaaDoor.b8 mach, .slice PA picks.length PC] w0 fun e w' => e = .returned (.bool true) ∧ Below w0.heap.size w0 w' := by
  have H := Own.start w0 none
  have hP0 := hP
  obtain ⟨LA, LC, IA, IC, TA, TC, h, ccs, hp⟩ := hP
  obtain ⟨c1, c2, c3, c4, c5, rfl⟩ := len5 (condAt_len hp.cond)
  have hcs := hp.cs
  subst hcs
  have hlen : (picks.take 60).length = min picks.length 60 := by rw [List.length_take]; omega
  have hBt : BytesAt w0 PA (picks.take 60) := fun j c hj => hB j c (by
    rw [List.getElem?_map] at hj ⊢
    rw [List.getElem?_take] at hj
    split at hj
    · exact hj
    · cases hj)
  generalize hQ : picks.take 60 = Q at hlen hBt
  have hk := known_mach mach
  generalize hmc : 1 + mach % 3 = mc at hk
  refine enterF Tryd.func8 rfl Tryd.ntmps8 rfl (fun a F => ?_)
  refine cSeq (fun K1 hK1 => ?_)
  refine cReg ?_
  refine sBx H F rfl rfl rfl ?_
  clear F a H; intro b3 a w F H
  refine sAs F rfl rfl rfl ?_
  clear F a; intro a F
  refine sNil ?_
  refine hK1 _ _ ?_; clear hK1
  refine cSeq (fun K2 hK2 => ?_)
  refine cReg ?_
  refine sMv F rfl rfl rfl ?_
  clear F a; intro a F
  refine sCall Tryd.call23 F rfl rfl rfl ((by have := machine_any mach w; rw [hmc] at this; exact this)) ?_
  rintro e w ⟨rfl, hb⟩
  replace H := H.grow hb; clear hb
  refine ⟨_, rfl, ?_⟩
  clear F a; intro a F
  refine sAs F rfl rfl rfl ?_
  clear F a; intro a F
  refine sNil ?_
  refine hK2 _ _ ?_; clear hK2
  refine cSeq (fun K3 hK3 => ?_)
  refine cRegRO (by kernel_rfl) H ?_
  replace H := H.drew
  refine eTake (k := 0) (i := 0) rfl (by kernel_rfl) F rfl rfl rfl rfl (fun w H => rLr Tryd.underlying29 rfl ?si F rfl (H.whole 0 rfl)) (H.sel [0] rfl rfl) (fun _ _ _ h => h) ?_
  case si => exact info_size Tryd.sizeOf29
  clear F a; intro a F
  refine eTakeF (k := 1) (i := 1) rfl (by kernel_rfl) F rfl rfl rfl (fun w => rMv F rfl) (H.sel [0] rfl rfl) (fun _ _ _ h => h) ?_
  clear F a; intro a F
  refine eTakeF (k := 2) (i := 2) rfl (by kernel_rfl) F rfl rfl rfl (fun w => rMv F rfl) (H.sel [0] rfl rfl) (fun _ _ _ h => h) ?_
  clear F a; intro a F
  refine eTake (k := 3) (i := 3) rfl (by kernel_rfl) F rfl rfl rfl rfl (fun w H => rLen Tryd.underlying23 F rfl) (H.sel [0] rfl rfl) (fun _ _ _ h => h) ?_
  clear F a; intro a F
  refine eTake (k := 4) (i := 4) rfl (by kernel_rfl) F rfl rfl rfl rfl (fun w H => rMinN (j := 60) F rfl rfl) (H.sel [0] rfl rfl) (fun _ _ _ h => h) ?_
  clear F a; intro a F
  refine eTake (k := 5) (i := 5) rfl (by kernel_rfl) F rfl rfl rfl rfl (fun w H => rSlH Tryd.underlying23 (fun w => ⟨_, Tryd.sizeOf5 w⟩) F rfl rfl ?_) (H.sel [0] rfl rfl) (fun _ _ _ h => h) ?_
  focus (first | omega | decide | (simp; omega))
  clear F a; intro a F
  refine eJoin F H [3, 7] 12 [true, true, true, true, true, true, true, true, true, true, true, true, false, false, false] (fun rs ups w => ∃ A c b8, ups = [(30, .agg (bs 38 (playF p Q)).toArray), (31, .slice A (playO p Q).length c), (32, .int .i64 (startE p)), (8, .pointer (some ⟨b8, 0, none⟩))] ∧ Own w0 none w ((.rws 3 1 (.slice A (playO p Q).length c) (intRows (playO p Q))) :: (.blk b8 (bs 38 zb) 64) :: rs)) (by repeat (first | exact SubR.nil | (apply SubR.cons; · rfl))) ?_ (fun hJ => ?_)
  rotate_left
  ·
   refine eTwo (k := 6) (i := 6) (j := 11) (by kernel_rfl) F rfl rfl rfl rfl ?_ ?_
   ·
    refine oCall Tryd.call25 F rfl rfl ((by have := play_any _ p _ (hP0.own H) (hN.own H) PA PC Q (RowsAt.own hBt H) (by omega); rw [hlen] at this; exact this)) ?_
    rintro e w ⟨A, c, rfl, H2⟩
    replace H := H.join H2; clear H2
    refine ⟨_, rfl, ?_⟩
    clear F a; intro a F
    refine eKeep (H.sel [1] rfl rfl) ?_
    refine eTakeF (k := 7) (i := 7) rfl (by kernel_rfl) F rfl rfl rfl (fun w => rMv F rfl) (H.sel [1] rfl rfl) (fun _ _ _ h => h) ?_
    clear F a; intro a F
    refine eTakeF (k := 8) (i := 8) rfl (by kernel_rfl) F rfl rfl rfl (fun w => rExt F rfl rfl) (H.sel [1] rfl rfl) (fun _ _ _ h => h) ?_
    clear F a; intro a F
    refine eTakeF (k := 9) (i := 9) rfl (by kernel_rfl) F rfl rfl rfl (fun w => rExt F rfl rfl) (H.sel [1] rfl rfl) (fun _ _ _ h => h) ?_
    clear F a; intro a F
    refine eTakeF (k := 10) (i := 10) rfl (by kernel_rfl) F rfl rfl rfl (fun w => rExt F rfl rfl) (H.sel [1] rfl rfl) (fun _ _ _ h => h) ?_
    clear F a; intro a F
    refine eOne (k := 11) (i := 11) rfl (by kernel_rfl) F rfl (oAlB H zB64 F rfl ?_)
    clear F a H; intro b8 a w F H
    refine eKeep (H.sel [2] rfl rfl) ?_
    exact eGo hJ (by kernel_rfl) _ ⟨A, c, b8, rfl, H.sel [1, 0, 2] rfl rfl⟩ (F.to (by repeat (first | exact trivial | refine Le.cons rfl ?_)))
   ·
    refine oAlB H zB64 F rfl ?_
    clear F a H; intro b8 a w F H
    refine eKeep (H.sel [1] rfl rfl) ?_
    refine eOne (k := 7) (i := 6) rfl (by kernel_rfl) F rfl (oCall Tryd.call25 F rfl rfl ((by have := play_any _ p _ (hP0.own H) (hN.own H) PA PC Q (RowsAt.own hBt H) (by omega); rw [hlen] at this; exact this)) ?_)
    rintro e w ⟨A, c, rfl, H2⟩
    replace H := H.join H2; clear H2
    refine ⟨_, rfl, ?_⟩
    clear F a; intro a F
    refine eKeep (H.sel [2] rfl rfl) ?_
    refine eTakeF (k := 8) (i := 7) rfl (by kernel_rfl) F rfl rfl rfl (fun w => rMv F rfl) (H.sel [2] rfl rfl) (fun _ _ _ h => h) ?_
    clear F a; intro a F
    refine eTakeF (k := 9) (i := 8) rfl (by kernel_rfl) F rfl rfl rfl (fun w => rExt F rfl rfl) (H.sel [2] rfl rfl) (fun _ _ _ h => h) ?_
    clear F a; intro a F
    refine eTakeF (k := 10) (i := 9) rfl (by kernel_rfl) F rfl rfl rfl (fun w => rExt F rfl rfl) (H.sel [2] rfl rfl) (fun _ _ _ h => h) ?_
    clear F a; intro a F
    refine eTakeF (k := 11) (i := 10) rfl (by kernel_rfl) F rfl rfl rfl (fun w => rExt F rfl rfl) (H.sel [2] rfl rfl) (fun _ _ _ h => h) ?_
    clear F a; intro a F
    exact eGo hJ (by kernel_rfl) _ ⟨A, c, b8, rfl, H.sel [0, 1, 2] rfl rfl⟩ (F.to (by repeat (first | exact trivial | refine Le.cons rfl ?_)))
  clear F H; intro ups a w hI F
  obtain ⟨A, c, b8, rfl, H⟩ := hI
  refine eOne (k := 12) (i := 12) rfl (by kernel_rfl) F rfl (oSrB H 1 Tryd.sizeOf64 F rfl rfl rfl (by omega) ?_)
  clear H; intro w H
  rw [lay_all] at H
  refine ePartO (by kernel_rfl) H ?_
  refine eTakeF (k := 13) (i := 13) rfl (by kernel_rfl) F rfl rfl rfl (fun w => rAs F rfl) (H.sel [0, 1, 2] rfl rfl) (fun _ _ _ h => h) ?_
  clear F a; intro a F
  refine eTakeF (k := 14) (i := 14) rfl (by kernel_rfl) F rfl rfl rfl (fun w => rAs F rfl) (H.sel [0, 1, 2] rfl rfl) (fun _ _ _ h => h) ?_
  clear F a; intro a F
  refine eNil (k := 15) (by kernel_rfl) ?_
  refine hK3 _ _ ?_; clear hK3
  refine cSeq (fun K4 hK4 => ?_)
  refine cReg ?_
  refine sLr Tryd.underlying29 rfl ?si F rfl rfl rfl (H.whole 2 rfl) ?_
  case si => exact info_size Tryd.sizeOf29
  clear F a; intro a F
  refine sCall Tryd.call18 F rfl rfl rfl (start_any _ p _ (hP0.own H) (hN.own H)) ?_
  rintro e w ⟨rfl, hb⟩
  replace H := H.grow hb; clear hb
  refine ⟨_, rfl, ?_⟩
  clear F a; intro a F
  refine sMv F rfl rfl rfl ?_
  clear F a; intro a F
  refine sExt F rfl rfl rfl rfl ?_
  clear F a; intro a F
  refine sExt F rfl rfl rfl rfl ?_
  clear F a; intro a F
  refine sAlB H zB41 F rfl rfl ?_
  clear F a H; intro b11 a w F H
  refine sSrB H 0 Tryd.sizeOf41 F rfl rfl rfl rfl (by omega) ?_
  clear H; intro w H
  rw [lay_all] at H
  refine sAs F rfl rfl rfl ?_
  clear F a; intro a F
  refine sNil ?_
  refine hK4 _ _ ?_; clear hK4
  refine cSeq (fun K5 hK5 => ?_)
  refine cSeq (fun K6 hK6 => ?_)
  refine cReg ?_
  refine sMv F rfl rfl rfl ?_
  clear F a; intro a F
  refine sBin F rfl rfl rfl rfl bNeq ?_
  clear F a; intro a F
  refine sMv F rfl rfl rfl ?_
  clear F a; intro a F
  refine F.split 40 rfl ?_ ?_ <;> (clear F; intro h40 F)
  ·
   replace h40 := bneT h40
   have hv : rightErr p ≠ 0 := fun h => h40 (if_pos h)
   refine sSk F rfl rfl ?_
   clear F a; intro a F
   refine sSk F rfl rfl ?_
   clear F a; intro a F
   refine sPk F rfl rfl rfl rfl ?_
   clear F a; intro a F
   refine sNil ?_
   refine hK6 _ _ ?_; clear hK6
   refine cIfT F rfl ?_
   refine cSeq (fun K7 hK7 => ?_)
   refine cReg ?_
   refine sMv F rfl rfl rfl ?_
   clear F a; intro a F
   refine sMv F rfl rfl rfl ?_
   clear F a; intro a F
   refine sBin F rfl rfl rfl rfl bEql ?_
   clear F a; intro a F
   refine sMv F rfl rfl rfl ?_
   clear F a; intro a F
   refine F.split 47 rfl ?_ ?_ <;> (clear F; intro h47 F)
   ·
    replace h47 := beqT h47
    refine sLr Tryd.underlying29 rfl ?si F rfl rfl rfl (H.whole 3 rfl) ?_
    case si => exact info_size Tryd.sizeOf29
    clear F a; intro a F
    refine sCall Tryd.call11 F rfl rfl rfl (right_any' _ p _ (hP0.own H) (hN.own H)) ?_
    rintro e w ⟨rfl, hb⟩
    replace H := H.grow hb; clear hb
    refine ⟨_, rfl, ?_⟩
    clear F a; intro a F
    refine sBin F rfl rfl rfl rfl bNeq ?_
    clear F a; intro a F
    refine sPk F rfl rfl rfl rfl ?_
    clear F a; intro a F
    refine sMv F rfl rfl rfl ?_
    clear F a; intro a F
    refine F.split 52 rfl ?_ ?_ <;> (clear F; intro h52 F)
    ·
     replace h52 := bneT h52
     refine sCall Tryd.call12 F rfl rfl rfl (awake14_any _ (hN.own H)) ?_
     rintro e w ⟨rfl, hb⟩
     replace H := H.grow hb; clear hb
     refine ⟨_, rfl, ?_⟩
     clear F a; intro a F
     refine sPk F rfl rfl rfl rfl ?_
     clear F a; intro a F
     refine sAs F rfl rfl rfl ?_
     clear F a; intro a F
     refine sNil ?_
     refine hK7 _ _ ?_; clear hK7
     refine wp_ret ?_
     simp only [Exit.then]
     refine bRet Tryd.results8 F rfl ?_
     exact ⟨rfl, H.below⟩
    ·
     replace h52 := bneF h52
     exact absurd h52 hv
   ·
    replace h47 := beqF h47
    exact absurd rfl h47
  ·
   replace h40 := bneF h40
   have hv : rightErr p = 0 := by
    apply Decidable.byContradiction
    intro h
    rw [startE, if_neg h] at h40
    cases h40
   have hV := valid hv
   have hV4 := hV.thr4
   obtain ⟨r, ix, z, hplay, hruns, hz⟩ := runs_of_play hv Q 48 (startP p) [] (mu_start hv _)
   rw [List.nil_append] at hplay
   have eO : playO p Q = r := by rw [playO, if_pos hv, playR, hplay]
   have eF : playF p Q = finalP z := by rw [playF, if_pos hv, playR, hplay]
   have eE : startE p = 0 := if_pos hv
   have eS : startS p = startP p := if_pos hv
   simp only [eO, eF, eE, eS] at H F
   refine sMv F rfl rfl rfl ?_
   clear F a; intro a F
   refine sBin F rfl rfl rfl rfl bNeq ?_
   clear F a; intro a F
   refine sPk F rfl rfl rfl rfl ?_
   clear F a; intro a F
   refine sNil ?_
   refine hK6 _ _ ?_; clear hK6
   refine cIf F rfl (fun h43 => ?_) (fun h43 => ?_)
   ·
    replace h43 := bneT h43
    exact absurd rfl h43
   ·
    replace h43 := bneF h43
    refine wp_skip ?_
    refine hK5 _ _ ?_; clear hK5
    refine cSeq (fun K8 hK8 => ?_)
    refine cSeq (fun K9 hK9 => ?_)
    refine cReg ?_
    refine sMv F rfl rfl rfl ?_
    clear F a; intro a F
    refine sLen Tryd.underlying79 F rfl rfl rfl ?_
    clear F a; intro a F
    refine sMv F rfl rfl rfl ?_
    clear F a; intro a F
    refine sNil ?_
    refine hK9 _ _ ?_; clear hK9
    refine wp_block ?_
    refine cLoopR [3, 7, 8, 11, 55, 56] (fun m ups w => ∃ (j : Nat) (s : By) (ixr : List UInt8) (A1 : Option Addr), m = r.length - j ∧ ups = [(57, .int .i64 ((j : Nat) : Int))] ∧ j ≤ r.length ∧ A1 = A ∧ rightS p s = true ∧ Runs p s (r.drop j) ixr z ∧ Own w0 none w [.blk b11 (bs 142 s) 41, .blk b8 (bs 38 (finalP z)) 64, .rws 3 1 (.slice A r.length c) (intRows r), .blk b3 ([.string p.name, .slice LA p.locs.length LC, .slice IA p.init.length IC, .slice TA p.threads.length TC, Go.Proofs.YtjephfjnohgcbaaDoor.b8 p.ask] ++ [c1, c2, c3, c4, c5]) 29]) F (r.length) [(57, .int .i64 ((0 : Nat) : Int))] (by repeat (first | exact SubR.nil | (apply SubR.cons; · rfl))) ?_ ?_ ?_
    · exact ⟨0, startP p, ix, A, rfl, rfl, by omega, rfl, start_right hv, hruns, H.sel [0, 2, 1, 3] rfl rfl⟩
    · repeat (first | exact trivial | refine Le.cons rfl ?_)
    clear F
    clear H
    intro m ups a w hI F
    obtain ⟨j, s, ixr, _, rfl, rfl, hj, rfl, hr, hrest, H⟩ := hI
    have hlr := (H.rwsLen 2 rfl).2
    simp only [maxLen] at hlr
    refine cSeq (fun K10 hK10 => ?_)
    refine cReg ?_
    refine sBin F rfl rfl rfl rfl bLss ?_
    clear F a; intro a F
    refine sNil ?_
    refine hK10 _ _ ?_; clear hK10
    refine cSeq (fun K11 hK11 => ?_)
    refine cIf F rfl (fun h58 => ?_) (fun h58 => ?_)
    ·
     replace h58 := of_decide_eq_true h58
     have hjl : j < r.length := by omega
     obtain ⟨t, ht⟩ : ∃ t, r[j]? = some t := ⟨_, List.getElem?_eq_getElem hjl⟩
     rw [drop_one ht] at hrest
     obtain ⟨i, ix', hi, hrest'⟩ := hrest.uncons
     have hen := List.mem_of_getElem? hi
     have PL := plainOf hr hk hen
     have ht4 := PL.t4
     obtain ⟨l, x, hE, hnx, hst, hsp⟩ := PL.instr
     have eMR : movesR p mc s = movesM p mc s := movesR_eq PL.r
     have hin : (⟨UInt8.ofNat t, false, 0⟩ : Pss) ∈ movesR p mc s := by rw [eMR]; exact PL.mem
     have eS1 : moveSM p mc s ⟨UInt8.ofNat t, false, 0⟩ = execP mc x s t := (if_pos hin).trans hst
     have eE1 : moveEM p mc s ⟨UInt8.ofNat t, false, 0⟩ = 0 := if_pos hin
     have eSt : storeP p s t = (x.op == 2) := by unfold storeP; rw [hnx]
     obtain ⟨bL, oL, rfl, hL⟩ := H.intAt 2 rfl ht
     refine wp_skip ?_
     refine hK11 _ _ ?_; clear hK11
     refine cSeq (fun K12 hK12 => ?_)
     refine wp_block ?_
     refine cSeq (fun K13 hK13 => ?_)
     refine cReg ?_
     refine sIx Tryd.underlying79 Tryd.sizeOf3 F rfl rfl rfl rfl ?_ ?_
     focus (first | omega | decide | (simp; omega))
     clear F a; intro a F
     refine sLd Tryd.isAgg3 F rfl rfl rfl (by obtain ⟨b', o', h1, h2⟩ := H.intAt 2 rfl ht; cases h1; exact h2) ?_
     clear F a; intro a F
     refine sAs F rfl rfl rfl ?_
     clear F a; intro a F
     refine sNil ?_
     refine hK13 _ _ ?_; clear hK13
     refine cSeqJ [3, 7, 8, 11, 14, 55, 56, 57] (fun ups w => ups = [] ∧ Own w0 none w [.blk b11 (bs 142 s) 41, .blk b8 (bs 38 (finalP z)) 64, .rws 3 1 (.slice (some ⟨bL, oL, none⟩) r.length c) (intRows r), .blk b3 ([.string p.name, .slice LA p.locs.length LC, .slice IA p.init.length IC, .slice TA p.threads.length TC, Go.Proofs.YtjephfjnohgcbaaDoor.b8 p.ask] ++ [c1, c2, c3, c4, c5]) 29]) F (by repeat (first | exact SubR.nil | (apply SubR.cons; · rfl))) ?_ ?_
     ·
      refine cSeq (fun K14 hK14 => ?_)
      refine cReg ?_
      refine sMv F rfl rfl rfl ?_
      clear F a; intro a F
      refine sBin F rfl rfl rfl rfl (bEqlB (y := 1)) ?_
      clear F a; intro a F
      refine sNil ?_
      refine hK14 _ _ ?_; clear hK14
      refine cIf F rfl (fun h62 => ?_) (fun h62 => ?_)
      ·
       replace h62 := beqT h62
       refine cSeq (fun K15 hK15 => ?_)
       refine cReg ?_
       refine sAs F rfl rfl rfl ?_
       clear F a; intro a F
       replace H := H.nilRws 50 3
       refine sNil ?_
       refine hK15 _ _ ?_; clear hK15
       refine cSeq (fun K16 hK16 => ?_)
       refine cSeq (fun K17 hK17 => ?_)
       refine cReg ?_
       refine sLr Tryd.underlying29 rfl ?si F rfl rfl rfl (H.whole 4 rfl) ?_
       case si => exact info_size Tryd.sizeOf29
       clear F a; intro a F
       refine sLrB Tryd.underlying41 rfl Tryd.sizeOf41 F rfl rfl rfl (H.whole 1 rfl) ?_
       clear F a; intro a F
       refine sCall Tryd.call26 F rfl rfl rfl (moves_any _ p _ (hP0.own H) (hN.own H) s) ?_
       rintro e w ⟨A4, c4', rfl, H2⟩
       replace H := H.join H2; clear H2
       refine ⟨_, rfl, ?_⟩
       clear F a; intro a F
       refine sLen Tryd.underlying79 F rfl rfl rfl ?_
       clear F a; intro a F
       refine sMv F rfl rfl rfl ?_
       clear F a; intro a F
       refine sNil ?_
       refine hK17 _ _ ?_; clear hK17
       refine wp_block ?_
       refine cLoopR [3, 7, 8, 11, 14, 55, 56, 57, 65, 66] (fun m ups w => ∃ (k : Nat) (A3 : Option Addr) (k3 : Nat), m = (movesP p s).length - k ∧ ups = [(15, .slice A3 (wantP ((movesP p s).take k)).length k3), (67, .int .i64 ((k : Nat) : Int))] ∧ k ≤ (movesP p s).length ∧ Own w0 none w [.rws 50 3 (.slice A3 (wantP ((movesP p s).take k)).length k3) ((wantP ((movesP p s).take k)).map Pss.cells), .rws 3 1 (.slice A4 (movesP p s).length c4') (intRows (movesP p s)), .blk b11 (bs 142 s) 41, .blk b8 (bs 38 (finalP z)) 64, .rws 3 1 (.slice (some ⟨bL, oL, none⟩) r.length c) (intRows r), .blk b3 ([.string p.name, .slice LA p.locs.length LC, .slice IA p.init.length IC, .slice TA p.threads.length TC, Go.Proofs.YtjephfjnohgcbaaDoor.b8 p.ask] ++ [c1, c2, c3, c4, c5]) 29]) F ((movesP p s).length) [(15, .slice none 0 0), (67, .int .i64 ((0 : Nat) : Int))] (by repeat (first | exact SubR.nil | (apply SubR.cons; · rfl))) ?_ ?_ ?_
       · exact ⟨0, none, 0, rfl, rfl, by omega, H.sel [1, 0, 2, 3, 4, 5] rfl rfl⟩
       · repeat (first | exact trivial | refine Le.cons rfl ?_)
       clear F
       clear H
       intro m ups a w hI F
       obtain ⟨k, A3, k3, rfl, rfl, hk2, H⟩ := hI
       have hml := (H.rwsLen 1 rfl).2
       simp only [maxLen] at hml
       have hwl : (wantP ((movesP p s).take k)).length ≤ 4 := by
        unfold wantP movesP
        rw [List.length_map, List.length_take, if_pos hr]
        have := enabled_len hv s
        omega
       refine cSeq (fun K18 hK18 => ?_)
       refine cReg ?_
       refine sBin F rfl rfl rfl rfl bLss ?_
       clear F a; intro a F
       refine sNil ?_
       refine hK18 _ _ ?_; clear hK18
       refine cSeq (fun K19 hK19 => ?_)
       refine cIf F rfl (fun h68 => ?_) (fun h68 => ?_)
       ·
        replace h68 := of_decide_eq_true h68
        obtain ⟨v, hv2⟩ : ∃ v, (movesP p s)[k]? = some v := ⟨_, List.getElem?_eq_getElem (by omega)⟩
        obtain ⟨bM, oM, rfl, _⟩ := H.intAt 1 rfl hv2
        have hws : (wantP ((movesP p s).take (k + 1))).map Pss.cells = (wantP ((movesP p s).take k)).map Pss.cells ++ [(Pss.mk (UInt8.ofNat v) false 0).cells] := by unfold wantP; rw [List.take_add_one, hv2]; simp
        have hwn : (wantP ((movesP p s).take (k + 1))).length = ((wantP ((movesP p s).take k)).map Pss.cells ++ [(Pss.mk (UInt8.ofNat v) false 0).cells]).length := by rw [← hws, List.length_map]
        refine wp_skip ?_
        refine hK19 _ _ ?_; clear hK19
        refine cSeq (fun K20 hK20 => ?_)
        refine wp_block ?_
        refine cSeq (fun K21 hK21 => ?_)
        refine cReg ?_
        refine sIx Tryd.underlying79 Tryd.sizeOf3 F rfl rfl rfl rfl ?_ ?_
        focus (first | omega | decide | (simp; omega))
        clear F a; intro a F
        refine sLd Tryd.isAgg3 F rfl rfl rfl (by obtain ⟨b', o', h1, h2⟩ := H.intAt 1 rfl hv2; cases h1; exact h2) ?_
        clear F a; intro a F
        refine sAs F rfl rfl rfl ?_
        clear F a; intro a F
        refine sNil ?_
        refine hK21 _ _ ?_; clear hK21
        refine cReg ?_
        refine sMv F rfl rfl rfl ?_
        clear F a; intro a F
        refine sMv F rfl rfl rfl ?_
        clear F a; intro a F
        refine sCv Tryd.underlying3 Tryd.underlying5 F rfl rfl rfl (wrapO _) ?_
        clear F a; intro a F
        refine sBd (cs := (Pss.mk (UInt8.ofNat v) false 0).cells) (places := [(0, 1), (1, 1), (2, 1)]) Tryd.zeroValue50 Tryd.underlying50 (by kernel_rfl) F rfl rfl rfl rfl ?_
        clear F a; intro a F
        refine sBsA H Tryd.underlying44 Tryd.sizeOf50 Tryd.zeroValue50 rfl F rfl rfl rfl rfl rfl ?_
        clear F a H; intro b75 a w F H
        refine sApp1 (bytes := 3) H 1 Tryd.underlying44 Tryd.typeInfo50 rfl rfl rfl rfl rfl rfl F rfl rfl rfl rfl rfl (H.whole 0 rfl) rfl ?s1 ?s2 ?_
        case s1 => first | rfl | (repeat (first | exact one_nil | (apply one_cons; · first | rfl | assumption | exact one_bif rfl rfl)))
        case s2 => (rw [List.length_map]; omega)
        clear F a H; intro A76 c76 a w F H
        refine sAs F rfl rfl rfl ?_
        clear F a; intro a F
        refine sNil ?_
        refine hK20 _ _ ?_; clear hK20
        refine cReg ?_
        refine sBin F rfl rfl rfl rfl (bAddN (j := 1) ?_) ?_
        focus omega
        clear F a; intro a F
        refine sMv F rfl rfl rfl ?_
        clear F a; intro a F
        refine sNil ?_
        (refine ⟨_, by omega, _, ⟨k + 1, A76, c76, rfl, rfl, by omega, ?_⟩, ?_⟩
         · rw [hws, hwn]; exact H.sel [1, 2, 3, 4, 5, 6] rfl rfl
         · rw [hwn]; exact F.to (by repeat (first | exact trivial | refine Le.cons rfl ?_)))
       ·
        replace h68 := of_decide_eq_false h68
        obtain rfl : k = (movesP p s).length := by omega
        rw [List.take_length] at H F
        have hsame : movesR p mc s = wantP (movesP p s) := by
         rw [eMR, movesM, moves_sc PL.z mc _ hV4, movesP, if_pos hr]; rfl
        refine wp_exit ?_
        refine hK16 _ _ ?_; clear hK16
        refine cSeq (fun K22 hK22 => ?_)
        refine cReg ?_
        refine sLr Tryd.underlying29 rfl ?si F rfl rfl rfl (H.whole 5 rfl) ?_
        case si => exact info_size Tryd.sizeOf29
        clear F a; intro a F
        refine sMv F rfl rfl rfl ?_
        clear F a; intro a F
        refine sLrB Tryd.underlying41 rfl Tryd.sizeOf41 F rfl rfl rfl (H.whole 2 rfl) ?_
        clear F a; intro a F
        refine sCall Tryd.call10 F rfl rfl rfl (movesR_any _ p _ (hP0.own H) (hN.own H) mc s) ?_
        rintro e w ⟨A5, c5', rfl, H2⟩
        replace H := H.join H2; clear H2
        refine ⟨_, rfl, ?_⟩
        clear F a; intro a F
        refine sMv F rfl rfl rfl ?_
        clear F a; intro a F
        refine sCall Tryd.call27 F rfl rfl rfl (passes_any A5 A3 c5' k3 (movesR p mc s) (wantP (movesP p s)) _ (H.rowsAt 0 rfl (rowX _) (by decide)) (H.rowsAt 1 rfl (rowX _) (by decide)) (by have := (H.rwsLen 0 rfl).2; simp only [maxLen] at this; omega) (by have := (H.rwsLen 1 rfl).2; simp only [maxLen] at this; omega)) ?_
        rintro e w ⟨rfl, hb⟩
        replace H := H.grow hb; clear hb
        refine ⟨_, rfl, ?_⟩
        clear F a; intro a F
        refine sNot F rfl rfl rfl ?_
        clear F a; intro a F
        refine sNil ?_
        refine hK22 _ _ ?_; clear hK22
        refine cIf F rfl (fun h84 => ?_) (fun h84 => ?_)
        ·
         replace h84 := notT h84
         exact absurd hsame (of_decide_eq_false h84)
        ·
         replace h84 := notF h84
         refine wp_skip ?_
         exact ⟨_, ⟨rfl, H.sel [3, 4, 5, 6] rfl rfl⟩, F.to (by repeat (first | exact trivial | refine Le.cons rfl ?_))⟩
      ·
       replace h62 := beqF h62
       refine wp_skip ?_
       exact ⟨_, ⟨rfl, H.sel [0, 1, 2, 3] rfl rfl⟩, F.to (by repeat (first | exact trivial | refine Le.cons rfl ?_))⟩
     clear F H
     intro ups a w hI F
     obtain ⟨rfl, H⟩ := hI
     refine cSeq (fun K23 hK23 => ?_)
     refine cReg ?_
     refine sLr Tryd.underlying29 rfl ?si F rfl rfl rfl (H.whole 3 rfl) ?_
     case si => exact info_size Tryd.sizeOf29
     clear F a; intro a F
     refine sLrB Tryd.underlying41 rfl Tryd.sizeOf41 F rfl rfl rfl (H.whole 0 rfl) ?_
     clear F a; intro a F
     refine sMv F rfl rfl rfl ?_
     clear F a; intro a F
     refine sCall Tryd.call14 F rfl rfl rfl (store14_any _ p _ (hP0.own H) s t ht4) ?_
     rintro e w ⟨rfl, hb⟩
     replace H := H.grow hb; clear hb
     refine ⟨_, rfl, ?_⟩
     clear F a; intro a F
     refine sAs F rfl rfl rfl ?_
     clear F a; intro a F
     refine sNil ?_
     refine hK23 _ _ ?_; clear hK23
     refine cSeq (fun K24 hK24 => ?_)
     refine cSeq (fun K25 hK25 => ?_)
     refine cReg ?_
     refine sLr Tryd.underlying29 rfl ?si F rfl rfl rfl (H.whole 3 rfl) ?_
     case si => exact info_size Tryd.sizeOf29
     clear F a; intro a F
     refine sMv F rfl rfl rfl ?_
     clear F a; intro a F
     refine sLrB Tryd.underlying41 rfl Tryd.sizeOf41 F rfl rfl rfl (H.whole 0 rfl) ?_
     clear F a; intro a F
     refine sMv F rfl rfl rfl ?_
     clear F a; intro a F
     refine sCv Tryd.underlying3 Tryd.underlying5 F rfl rfl rfl (wrapO _) ?_
     clear F a; intro a F
     refine sBd (cs := (Pss.mk (UInt8.ofNat t) false 0).cells) (places := [(0, 1), (1, 1), (2, 1)]) Tryd.zeroValue50 Tryd.underlying50 (by kernel_rfl) F rfl rfl rfl rfl ?_
     clear F a; intro a F
     refine sCall Tryd.call13 F rfl rfl rfl (moveM_any _ p _ (hP0.own H) (hN.own H) mc s ⟨UInt8.ofNat t, false, 0⟩) ?_
     rintro e w ⟨rfl, hb⟩
     replace H := H.grow hb; clear hb
     refine ⟨_, rfl, ?_⟩
     clear F a; intro a F
     refine sMv F rfl rfl rfl ?_
     clear F a; intro a F
     refine sExt F rfl rfl rfl rfl ?_
     clear F a; intro a F
     refine sExt F rfl rfl rfl rfl ?_
     clear F a; intro a F
     refine sSrB H 0 Tryd.sizeOf41 F rfl rfl rfl rfl (by omega) ?_
     clear H; intro w H
     rw [lay_all] at H
     refine sAs F rfl rfl rfl ?_
     clear F a; intro a F
     refine sNil ?_
     refine hK25 _ _ ?_; clear hK25
     refine cSeq (fun K26 hK26 => ?_)
     refine cReg ?_
     refine sMv F rfl rfl rfl ?_
     clear F a; intro a F
     refine sBin F rfl rfl rfl rfl bNeq ?_
     clear F a; intro a F
     refine sNil ?_
     refine hK26 _ _ ?_; clear hK26
     refine cIf F rfl (fun h100 => ?_) (fun h100 => ?_)
     ·
      replace h100 := bneT h100
      exact absurd eE1 h100
     ·
      replace h100 := bneF h100
      rw [eS1] at H
      refine wp_skip ?_
      refine hK24 _ _ ?_; clear hK24
      refine cSeq (fun K27 hK27 => ?_)
      refine cSeq (fun K28 hK28 => ?_)
      refine cReg ?_
      refine sMv F rfl rfl rfl ?_
      clear F a; intro a F
      refine sNot F rfl rfl rfl ?_
      clear F a; intro a F
      refine sMv F rfl rfl rfl ?_
      clear F a; intro a F
      refine F.split 103 rfl ?_ ?_ <;> (clear F; intro h103 F)
      ·
       replace h103 := notT h103
       refine sSk F rfl rfl ?_
       clear F a; intro a F
       refine sSk F rfl rfl ?_
       clear F a; intro a F
       refine sPk F rfl rfl rfl rfl ?_
       clear F a; intro a F
       refine sNil ?_
       refine hK28 _ _ ?_; clear hK28
       refine cIfT F rfl ?_
       refine wp_exit ?_
       refine hK12 _ _ ?_; clear hK12
       refine cReg ?_
       refine sBin F rfl rfl rfl rfl (bAddN (j := 1) ?_) ?_
       focus omega
       clear F a; intro a F
       refine sMv F rfl rfl rfl ?_
       clear F a; intro a F
       refine sNil ?_
       first
       | rw [plain_next hE PL.z hsp (no_buf1 h103 eSt)] at H
       | rw [plain_next hE PL.z hsp (no_buf2 h106)] at H
       | skip
       obtain ⟨_, _, hst2⟩ := stepOf (right_of hr) hen
       exact ⟨_, by omega, _, ⟨j + 1, stepP p s t, ix', some ⟨bL, oL, none⟩, rfl, rfl, by omega, rfl, hst2.right hr, hrest', H.sel [0, 1, 2, 3] rfl rfl⟩, F.to (by repeat (first | exact trivial | refine Le.cons rfl ?_))⟩
      ·
       replace h103 := notF h103
       refine sMv F rfl rfl rfl ?_
       clear F a; intro a F
       refine sBin F rfl rfl rfl rfl (bEqlB (y := 1)) ?_
       clear F a; intro a F
       refine sPk F rfl rfl rfl rfl ?_
       clear F a; intro a F
       refine sNil ?_
       refine hK28 _ _ ?_; clear hK28
       refine cIf F rfl (fun h106 => ?_) (fun h106 => ?_)
       ·
        replace h106 := beqT h106
        refine wp_exit ?_
        refine hK12 _ _ ?_; clear hK12
        refine cReg ?_
        refine sBin F rfl rfl rfl rfl (bAddN (j := 1) ?_) ?_
        focus omega
        clear F a; intro a F
        refine sMv F rfl rfl rfl ?_
        clear F a; intro a F
        refine sNil ?_
        first
        | rw [plain_next hE PL.z hsp (no_buf1 h103 eSt)] at H
        | rw [plain_next hE PL.z hsp (no_buf2 h106)] at H
        | skip
        obtain ⟨_, _, hst2⟩ := stepOf (right_of hr) hen
        exact ⟨_, by omega, _, ⟨j + 1, stepP p s t, ix', some ⟨bL, oL, none⟩, rfl, rfl, by omega, rfl, hst2.right hr, hrest', H.sel [0, 1, 2, 3] rfl rfl⟩, F.to (by repeat (first | exact trivial | refine Le.cons rfl ?_))⟩
       ·
        replace h106 := beqF h106
        have hb : buffers mc x := ⟨eq_of_beq (eSt.symm.trans h103), h106⟩
        obtain ⟨eE2, eS2⟩ := drain_next hE PL.z hsp hb
        refine wp_skip ?_
        refine hK27 _ _ ?_; clear hK27
        refine cSeq (fun K29 hK29 => ?_)
        refine cReg ?_
        refine sMv F rfl rfl rfl ?_
        clear F a; intro a F
        refine sCv Tryd.underlying3 Tryd.underlying5 F rfl rfl rfl (wrapO _) ?_
        clear F a; intro a F
        refine sBd (cs := (Pss.mk (UInt8.ofNat t) true 0).cells) (places := [(0, 1), (1, 1), (2, 1)]) Tryd.zeroValue50 Tryd.underlying50 (by kernel_rfl) F rfl rfl rfl rfl ?_
        clear F a; intro a F
        refine sAl H Tryd.zeroValue50 F rfl rfl ?_
        clear F a H; intro b19 a w F H
        refine sSr H 0 ?si F rfl rfl rfl ?s1 rfl rfl ?_
        case si => exact info_size Tryd.sizeOf50
        case s1 => first | rfl | (repeat (first | exact one_nil | (apply one_cons; · first | rfl | assumption | exact one_bif rfl rfl)))
        clear H; intro w H
        refine sNil ?_
        refine hK29 _ _ ?_; clear hK29
        refine cSeqJ [3, 7, 8, 11, 19, 55, 56, 57] (fun ups w => ups = [] ∧ Own w0 none w [.blk b19 (drainAt mc (execP mc x s t) t 0).cells 50, .blk b11 (bs 142 (execP mc x s t)) 41, .blk b8 (bs 38 (finalP z)) 64, .rws 3 1 (.slice (some ⟨bL, oL, none⟩) r.length c) (intRows r), .blk b3 ([.string p.name, .slice LA p.locs.length LC, .slice IA p.init.length IC, .slice TA p.threads.length TC, Go.Proofs.YtjephfjnohgcbaaDoor.b8 p.ask] ++ [c1, c2, c3, c4, c5]) 29]) F (by repeat (first | exact SubR.nil | (apply SubR.cons; · rfl))) ?_ ?_
        ·
         refine cSeq (fun K30 hK30 => ?_)
         refine cReg ?_
         refine sMv F rfl rfl rfl ?_
         clear F a; intro a F
         refine sBin F rfl rfl rfl rfl (bEqlB (y := 3)) ?_
         clear F a; intro a F
         refine sNil ?_
         refine hK30 _ _ ?_; clear hK30
         refine cIf F rfl (fun h111 => ?_) (fun h111 => ?_)
         ·
          replace h111 := beqT h111
          have eD : (drainAt mc (execP mc x s t) t 0).cells = [Go.Proofs.YtjephfjnohgcbaaDoor.b8 (UInt8.ofNat t), .bool true, Go.Proofs.YtjephfjnohgcbaaDoor.b8 (bLoc (execP mc x s t) t 0)] := by unfold drainAt; rw [if_pos h111]; rfl
          refine cReg ?_
          refine sMv F rfl rfl rfl ?_
          clear F a; intro a F
          refine sFa (f := 2) (k := 42) Tryd.underlying41 rfl Tryd.sizeOf38 rfl rfl F rfl rfl rfl ?_
          clear F a; intro a F
          refine sIa Tryd.underlying38 Tryd.sizeOf37 F rfl rfl rfl rfl ?_ ?_
          focus (first | omega | decide | (simp; omega))
          clear F a; intro a F
          refine sIa (j := 0) Tryd.underlying37 Tryd.sizeOf36 F rfl rfl rfl rfl ?_ ?_
          focus (first | omega | decide | (simp; omega))
          clear F a; intro a F
          refine sFaZ (f := 0) Tryd.underlying36 rfl Tryd.sizeOf5 rfl rfl F rfl rfl rfl ?_
          clear F a; intro a F
          refine sLd Tryd.isAgg5 F rfl rfl rfl (H.cellB 1 rfl (by omega)) ?_
          clear F a; intro a F
          refine sFa (f := 2) (k := 2) Tryd.underlying50 rfl Tryd.sizeOf5 rfl rfl F rfl rfl rfl ?_
          clear F a; intro a F
          refine sSt H 0 Tryd.sizeOf5 F rfl rfl rfl rfl rfl rfl ?_
          clear H; intro w H
          refine sNil ?_
          exact ⟨_, ⟨rfl, by rw [eD]; exact H.sel [0, 1, 2, 3, 4] rfl rfl⟩, F.to (by repeat (first | exact trivial | refine Le.cons rfl ?_))⟩
         ·
          replace h111 := beqF h111
          have eD : (drainAt mc (execP mc x s t) t 0).cells = [Go.Proofs.YtjephfjnohgcbaaDoor.b8 (UInt8.ofNat t), .bool true, Go.Proofs.YtjephfjnohgcbaaDoor.b8 0] := by unfold drainAt; rw [if_neg h111]; rfl
          refine wp_skip ?_
          exact ⟨_, ⟨rfl, by rw [eD]; exact H.sel [0, 1, 2, 3, 4] rfl rfl⟩, F.to (by repeat (first | exact trivial | refine Le.cons rfl ?_))⟩
        clear F H
        intro ups a w hI F
        obtain ⟨rfl, H⟩ := hI
        refine cSeq (fun K31 hK31 => ?_)
        refine cReg ?_
        refine sLr Tryd.underlying29 rfl ?si F rfl rfl rfl (H.whole 4 rfl) ?_
        case si => exact info_size Tryd.sizeOf29
        clear F a; intro a F
        refine sMv F rfl rfl rfl ?_
        clear F a; intro a F
        refine sLrB Tryd.underlying41 rfl Tryd.sizeOf41 F rfl rfl rfl (H.whole 1 rfl) ?_
        clear F a; intro a F
        refine sLr Tryd.underlying50 rfl ?si F rfl rfl rfl (H.whole 0 rfl) ?_
        case si => exact info_size Tryd.sizeOf50
        clear F a; intro a F
        refine sCall Tryd.call13 F rfl rfl rfl (moveM_any _ p _ (hP0.own H) (hN.own H) mc (execP mc x s t) (drainAt mc (execP mc x s t) t 0)) ?_
        rintro e w ⟨rfl, hb⟩
        replace H := H.grow hb; clear hb
        refine ⟨_, rfl, ?_⟩
        clear F a; intro a F
        refine sMv F rfl rfl rfl ?_
        clear F a; intro a F
        refine sExt F rfl rfl rfl rfl ?_
        clear F a; intro a F
        refine sExt F rfl rfl rfl rfl ?_
        clear F a; intro a F
        refine sSrB H 1 Tryd.sizeOf41 F rfl rfl rfl rfl (by omega) ?_
        clear H; intro w H
        rw [lay_all] at H
        refine sAs F rfl rfl rfl ?_
        clear F a; intro a F
        refine sNil ?_
        refine hK31 _ _ ?_; clear hK31
        refine cSeq (fun K32 hK32 => ?_)
        refine cReg ?_
        refine sMv F rfl rfl rfl ?_
        clear F a; intro a F
        refine sBin F rfl rfl rfl rfl bNeq ?_
        clear F a; intro a F
        refine sNil ?_
        refine hK32 _ _ ?_; clear hK32
        refine cIf F rfl (fun h128 => ?_) (fun h128 => ?_)
        ·
         replace h128 := bneT h128
         exact absurd eE2 h128
        ·
         replace h128 := bneF h128
         rw [eS2] at H
         refine wp_skip ?_
         refine hK12 _ _ ?_; clear hK12
         refine cReg ?_
         refine sBin F rfl rfl rfl rfl (bAddN (j := 1) ?_) ?_
         focus omega
         clear F a; intro a F
         refine sMv F rfl rfl rfl ?_
         clear F a; intro a F
         refine sNil ?_
         first
         | rw [plain_next hE PL.z hsp (no_buf1 h103 eSt)] at H
         | rw [plain_next hE PL.z hsp (no_buf2 h106)] at H
         | skip
         obtain ⟨_, _, hst2⟩ := stepOf (right_of hr) hen
         exact ⟨_, by omega, _, ⟨j + 1, stepP p s t, ix', some ⟨bL, oL, none⟩, rfl, rfl, by omega, rfl, hst2.right hr, hrest', H.sel [1, 2, 3, 4] rfl rfl⟩, F.to (by repeat (first | exact trivial | refine Le.cons rfl ?_))⟩
    ·
     replace h58 := of_decide_eq_false h58
     obtain rfl : j = r.length := by omega
     rw [List.drop_length] at hrest
     obtain rfl := hrest.nil
     have hO : (rightM p mc z && (movesM p mc z).length == 0) = true := by
      have hRM := rightM_of hr hk
      rw [rightM_iff.2 hRM.1, movesM, moves_sc hRM.2 mc _ hV4]
      have hz' := hz
      unfold enabledP at hz'
      rw [hz']
      rfl
     refine wp_exit ?_
     refine hK8 _ _ ?_; clear hK8
     refine cSeq (fun K33 hK33 => ?_)
     refine cRegRO (by kernel_rfl) H ?_
     replace H := H.drew
     refine eTake (k := 0) (i := 0) rfl (by kernel_rfl) F rfl rfl rfl rfl (fun w H => rLr Tryd.underlying29 rfl ?si F rfl (H.whole 3 rfl)) (H.sel [0, 1, 2, 3] rfl rfl) (fun _ _ _ h => h) ?_
     case si => exact info_size Tryd.sizeOf29
     clear F a; intro a F
     refine eTakeF (k := 1) (i := 1) rfl (by kernel_rfl) F rfl rfl rfl (fun w => rMv F rfl) (H.sel [0, 1, 2, 3] rfl rfl) (fun _ _ _ h => h) ?_
     clear F a; intro a F
     refine eTake (k := 2) (i := 2) rfl (by kernel_rfl) F rfl rfl rfl rfl (fun w H => rLrB Tryd.underlying41 rfl Tryd.sizeOf41 F rfl (H.whole 0 rfl)) (H.sel [0, 1, 2, 3] rfl rfl) (fun _ _ _ h => h) ?_
     clear F a; intro a F
     refine eOne (k := 3) (i := 3) rfl (by kernel_rfl) F rfl (oCall Tryd.call19 F rfl rfl (overM_any _ p _ (hP0.own H) (hN.own H) mc z) ?_)
     rintro e w ⟨rfl, hb⟩
     replace H := H.grow hb; clear hb
     refine ⟨_, rfl, ?_⟩
     clear F a; intro a F
     refine ePartO (by kernel_rfl) H ?_
     refine eTakeF (k := 4) (i := 4) rfl (by kernel_rfl) F rfl rfl rfl (fun w => rMv F rfl) (H.sel [0, 1, 2, 3] rfl rfl) (fun _ _ _ h => h) ?_
     clear F a; intro a F
     refine F.split 134 rfl ?_ ?_ <;> (clear F; intro h134 F)
     ·
      refine eTake (k := 5) (i := 5) rfl (by kernel_rfl) F rfl rfl rfl rfl (fun w H => rLrB Tryd.underlying41 rfl Tryd.sizeOf41 F rfl (H.whole 0 rfl)) (H.sel [0, 1, 2, 3] rfl rfl) (fun _ _ _ h => h) ?_
      clear F a; intro a F
      refine eTake (k := 6) (i := 7) rfl (by kernel_rfl) F rfl rfl rfl rfl (fun w H => rLrB Tryd.underlying64 rfl Tryd.sizeOf64 F rfl (H.whole 1 rfl)) (H.sel [0, 1, 2, 3] rfl rfl) (fun _ _ _ h => h) ?_
      clear F a; intro a F
      refine eOne (k := 7) (i := 6) rfl (by kernel_rfl) F rfl (oCall Tryd.call20 F rfl rfl (final_any z _) ?_)
      rintro e w ⟨rfl, hb⟩
      replace H := H.grow hb; clear hb
      refine ⟨_, rfl, ?_⟩
      clear F a; intro a F
      refine eKeep (H.sel [0, 1, 2, 3] rfl rfl) ?_
      refine eTakeF (k := 8) (i := 8) rfl (by kernel_rfl) F rfl rfl rfl (fun w => rBin F rfl rfl (bEqY eT64 gT64 rfl)) (H.sel [0, 1, 2, 3] rfl rfl) (fun _ _ _ h => h) ?_
      clear F a; intro a F
      refine eTakeF (k := 9) (i := 9) rfl (by kernel_rfl) F rfl rfl rfl (fun w => rPk F rfl rfl) (H.sel [0, 1, 2, 3] rfl rfl) (fun _ _ _ h => h) ?_
      clear F a; intro a F
      refine eTakeF (k := 10) (i := 10) rfl (by kernel_rfl) F rfl rfl rfl (fun w => rMv F rfl) (H.sel [0, 1, 2, 3] rfl rfl) (fun _ _ _ h => h) ?_
      clear F a; intro a F
      refine F.split 140 rfl ?_ ?_ <;> (clear F; intro h140 F)
      ·
       refine eOne (k := 11) (i := 11) rfl (by kernel_rfl) F rfl (oCall Tryd.call12 F rfl rfl (awake14_any _ (hN.own H)) ?_)
       rintro e w ⟨rfl, hb⟩
       replace H := H.grow hb; clear hb
       refine ⟨_, rfl, ?_⟩
       clear F a; intro a F
       refine ePartO (by kernel_rfl) H ?_
       refine eTakeF (k := 12) (i := 12) rfl (by kernel_rfl) F rfl rfl rfl (fun w => rPk F rfl rfl) (H.sel [0, 1, 2, 3] rfl rfl) (fun _ _ _ h => h) ?_
       clear F a; intro a F
       refine eTakeF (k := 13) (i := 13) rfl (by kernel_rfl) F rfl rfl rfl (fun w => rAs F rfl) (H.sel [0, 1, 2, 3] rfl rfl) (fun _ _ _ h => h) ?_
       clear F a; intro a F
       refine eNil (k := 14) (by kernel_rfl) ?_
       refine hK33 _ _ ?_; clear hK33
       refine wp_ret ?_
       refine bRet Tryd.results8 F rfl ?_
       exact ⟨rfl, H.below⟩
      ·
       exact notEq (same_iff.2 fun _ _ => rfl) h140
     ·
      exact notEq hO h134
end Go.Proofs.YtjephfjnohgcbaaDoor
