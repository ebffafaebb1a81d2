/-
  WALK2. The law of chapter 14: BufferFenced answers true. Conditions: what it is handed lies in memory; block 0 holds the table of needs.
-/
import Derived.Test.YtjephfjnohgcbaaDoorBfX
import Derived.Test.YtjephfjnohgcbaaDoorGrv
set_option linter.unusedSimpArgs false
set_option linter.unusedVariables false
namespace Go.Proofs.YtjephfjnohgcbaaDoor
open Go.RowKit
set_option maxRecDepth 100000
theorem take_min {α : Type} {l : List α} {k n : Nat} (h : k = min l.length n) : l.take k = l.take n := by
  rcases Nat.le_total l.length n with h1 | h1
  · rw [List.take_of_length_le (by omega), List.take_of_length_le h1]
  · rw [show k = n by omega]
theorem noA {a b : Bool} (h : a = false) : (a && b) = false := by rw [h]; rfl
theorem noB {a b : Bool} (h : b = false) : (a && b) = false := by rw [h]; exact Bool.and_false _
theorem noC {a b : Bool} (h : b = true) : (a && !b) = false := by rw [h]; exact Bool.and_false _
theorem moves_t4 {p : Prg} {m : UInt8} {s : By} {x : Pss} (hr : RightM p m s) (hx : x ∈ movesM p m s) : x.t.toNat < 4 := by
  have hV4 := (valid hr.prog).thr4
  obtain ⟨u, hul, hmv⟩ := mem_movesN hx
  have hto := ofNat_to (t := u) (by omega)
  rcases hmv with ⟨rfl, _⟩ | ⟨i, _, rfl⟩
  · show (UInt8.ofNat u).toNat < 4
    rw [hto]; omega
  · show (UInt8.ofNat u).toNat < 4
    rw [hto]; omega
theorem sim_held {q : Prg} {m : UInt8} {s' z z' : By} {x : Pss} {b : Bool} (h : ((b && !x.d) = true ∧ SimF q m s' z) ∨ ((b && !x.d) = false ∧ x.t.toNat ∈ enabledP q z ∧ SimF q m s' z')) (h1 : b = true) (h2 : x.d = false) : SimF q m s' z := by
  rcases h with h | h
  · exact h.2
  · have := h.1
    rw [h1, h2] at this; cases this
theorem sim_move {q : Prg} {m : UInt8} {s s' z : By} {x : Pss} {b : Bool} (hs : SimF q m s z) (h : ((b && !x.d) = true ∧ SimF q m s' z) ∨ ((b && !x.d) = false ∧ x.t.toNat ∈ enabledP q z ∧ SimF q m s' (stepP q z x.t.toNat))) (h1 : (b && !x.d) = false) : moveE q z (x.t.toNat : Int) = 0 ∧ moveS q z (x.t.toNat : Int) = stepP q z x.t.toNat ∧ SimF q m s' (stepP q z x.t.toNat) := by
  rcases h with h | h
  · have := h.1
    rw [h1] at this; cases this
  · have hmv : movable q z (x.t.toNat : Int) := by
      unfold movable
      rw [List.any_eq_true]
      refine ⟨x.t.toNat, ?_, by simp⟩
      unfold movesP
      rw [if_pos hs.rz]
      exact h.2.1
    exact ⟨if_pos hmv, if_pos hmv, h.2.2⟩
set_option maxHeartbeats 1000000 in
theorem bufferFenced_any (cs : List Value) (p : Prg) (w0 : World) (hG : ProgT w0 cs p) (hN : NeedsAt w0) (pso : Bool) (PA : Option Addr) (PC : Nat) (picks : List UInt8) (hB : BytesAt w0 PA picks) (hBn : picks.length ≤ 9223372036854775807) (hBc : picks.length ≤ PC) :
    Calls Tryd.prog 6 #[.agg cs.toArray, .bool pso, .slice PA picks.length PC] w0 fun e w' => e = .returned (.bool true) ∧ Below w0.heap.size w0 w' := by
  have H := Own.start w0 none
  obtain ⟨LA, LC, IA, IC, TA, TC, h, ccs, hp, hTC⟩ := hG
  have hP0 : ProgAt w0 cs p := ⟨_, _, _, _, _, _, _, _, hp⟩
  obtain ⟨c1, c2, c3, c4, A9, m9, C9, rfl⟩ := condShape hp.cond
  have hcs := hp.cs
  simp only [List.cons_append, List.nil_append] at hcs
  subst hcs
  obtain ⟨mc, hmc⟩ : ∃ mc : UInt8, mc = if pso = true then 3 else 2 := ⟨_, rfl⟩
  have hk : knownM mc = true := by rw [hmc]; cases pso <;> decide
  have hm1 : mc ≠ 1 := by rw [hmc]; cases pso <;> decide
  have hlen : (picks.take 100).length = min picks.length 100 := by rw [List.length_take]; omega
  have hBt := bytes_take hB 100
  generalize hQ : picks.take 100 = Q at hlen hBt
  refine enterF Tryd.func6 rfl Tryd.ntmps6 rfl (fun a F => ?_)
  refine cSeq (fun K1 hK1 => ?_)
  refine cReg ?_
  refine sBx H F rfl rfl rfl ?_
  clear F a H; intro b3 a w F H
  refine sAs F rfl rfl rfl ?_
  clear F a; intro a F
  refine sNil ?_
  refine hK1 _ _ ?_; clear hK1
  refine cSeq (fun K2 hK2 => ?_)
  refine cSeq (fun K3 hK3 => ?_)
  refine cReg ?_
  refine sLr Tryd.underlying29 rfl ?si F rfl rfl rfl (H.whole 0 rfl) ?_
  case si => exact info_size Tryd.sizeOf29
  clear F a; intro a F
  refine sCall Tryd.call11 F rfl rfl rfl (right_any' _ p _ (hP0.own H) (hN.own H)) ?_
  rintro e w ⟨rfl, hb⟩
  replace H := H.grow hb; clear hb
  refine ⟨_, rfl, ?_⟩
  clear F a; intro a F
  refine sBin F rfl rfl rfl rfl bNeq ?_
  clear F a; intro a F
  refine sNil ?_
  refine hK3 _ _ ?_; clear hK3
  refine cIf F rfl (fun h25 => ?_) (fun h25 => ?_)
  ·
   replace h25 := bneT h25
   refine cSeq (fun K4 hK4 => ?_)
   refine cReg ?_
   refine sCall Tryd.call12 F rfl rfl rfl (awake14_any _ (hN.own H)) ?_
   rintro e w ⟨rfl, hb⟩
   replace H := H.grow hb; clear hb
   refine ⟨_, rfl, ?_⟩
   clear F a; intro a F
   refine sAs F rfl rfl rfl ?_
   clear F a; intro a F
   refine sNil ?_
   refine hK4 _ _ ?_; clear hK4
   refine wp_ret ?_
   simp only [Exit.then]
   refine bRet Tryd.results6 F rfl ?_
   exact ⟨rfl, H.below⟩
  ·
   replace h25 := bneF h25
   have hv : rightErr p = 0 := by omega
   have hV := valid hv
   have hV4 := hV.thr4
   refine wp_skip ?_
   refine hK2 _ _ ?_; clear hK2
   refine cSeq (fun K5 hK5 => ?_)
   refine cReg ?_
   refine sLr Tryd.underlying29 rfl ?si F rfl rfl rfl (H.whole 0 rfl) ?_
   case si => exact info_size Tryd.sizeOf29
   clear F a; intro a F
   refine sAl H Tryd.zeroValue29 F rfl rfl ?_
   clear F a H; intro b7 a w F H
   refine sSr H 0 ?si F rfl rfl rfl ?s1 rfl rfl ?_
   case si => exact info_size Tryd.sizeOf29
   case s1 => first | rfl | (repeat (first | exact one_nil | (apply one_cons; · first | rfl | assumption | exact one_bif rfl rfl)))
   clear H; intro w H
   refine sNil ?_
   refine hK5 _ _ ?_; clear hK5
   refine cSeq (fun K6 hK6 => ?_)
   refine cReg ?_
   refine sFa (f := 3) (k := 3) Tryd.underlying29 rfl Tryd.sizeOf24 rfl rfl F rfl rfl rfl ?_
   clear F a; intro a F
   refine sSt H 0 Tryd.sizeOf24 F rfl rfl rfl rfl rfl rfl ?_
   clear H; intro w H
   refine sNil ?_
   refine hK6 _ _ ?_; clear hK6
   refine cSeq (fun K7 hK7 => ?_)
   refine cSeq (fun K8 hK8 => ?_)
   refine cReg ?_
   refine sFa (f := 3) (k := 3) Tryd.underlying29 rfl Tryd.sizeOf24 rfl rfl F rfl rfl rfl ?_
   clear F a; intro a F
   refine sLd Tryd.isAgg24 F rfl rfl rfl (H.cell 1 rfl rfl) ?_
   clear F a; intro a F
   refine sLen Tryd.underlying24 F rfl rfl rfl ?_
   clear F a; intro a F
   refine sMv F rfl rfl rfl ?_
   clear F a; intro a F
   refine sNil ?_
   refine hK8 _ _ ?_; clear hK8
   refine wp_block ?_
   refine cLoopR [1, 2, 7, 30, 31] (fun m ups w => ∃ (j : Nat) (A3 : Option Addr) (c3' : Nat) (S : Nat → Prop) (rows : List (List Value)), m = p.threads.length - j ∧ ups = [(32, .int .i64 ((j : Nat) : Int))] ∧ rows.length = j ∧ j ≤ p.threads.length ∧ (∀ r ∈ rows, r.length = 1) ∧ Own w0 none w [.grove S rows (fencePr p).threads, .rws 59 1 (.slice A3 rows.length c3') rows, .blk b7 ([.string p.name, .slice LA p.locs.length LC, .slice IA p.init.length IC, .slice A3 rows.length c3', Go.Proofs.YtjephfjnohgcbaaDoor.b8 p.ask, Go.Proofs.YtjephfjnohgcbaaDoor.b8 c1, Go.Proofs.YtjephfjnohgcbaaDoor.b8 c2, Go.Proofs.YtjephfjnohgcbaaDoor.b8 c3, Go.Proofs.YtjephfjnohgcbaaDoor.b8 c4, .slice A9 m9 C9] : List Value) 29, .blk b3 ([.string p.name, .slice LA p.locs.length LC, .slice IA p.init.length IC, .slice TA p.threads.length TC, Go.Proofs.YtjephfjnohgcbaaDoor.b8 p.ask, Go.Proofs.YtjephfjnohgcbaaDoor.b8 c1, Go.Proofs.YtjephfjnohgcbaaDoor.b8 c2, Go.Proofs.YtjephfjnohgcbaaDoor.b8 c3, Go.Proofs.YtjephfjnohgcbaaDoor.b8 c4, .slice A9 m9 C9] : List Value) 29]) F (p.threads.length) [(32, .int .i64 ((0 : Nat) : Int))] (by repeat (first | exact SubR.nil | (apply SubR.cons; · rfl))) ?_ ?_ ?_
   · exact ⟨0, none, 0, fun _ => False, [], rfl, rfl, rfl, Nat.zero_le _, (by simp), ((H.sel [0, 1] rfl rfl).nilRws 59 1).void (.grove (fun _ => False) [] (fencePr p).threads) (show groveP (fun _ => False) _ [] (fencePr p).threads from fun j r t h1 => by simp at h1) (fun _ hb => hb)⟩
   · repeat (first | exact trivial | refine Le.cons rfl ?_)
   clear F
   clear H
   intro m ups a w hI F
   obtain ⟨j, A3, c3', S, rows, rfl, rfl, hrj, hj, hr1, H⟩ := hI
   refine cSeq (fun K9 hK9 => ?_)
   refine cReg ?_
   refine sBin F rfl rfl rfl rfl bLss ?_
   clear F a; intro a F
   refine sNil ?_
   refine hK9 _ _ ?_; clear hK9
   refine cSeq (fun K10 hK10 => ?_)
   refine cIf F rfl (fun h33 => ?_) (fun h33 => ?_)
   ·
    replace h33 := of_decide_eq_true h33
    have hjl : j < p.threads.length := by omega
    obtain ⟨l, hl⟩ : ∃ l, p.threads[j]? = some l := ⟨_, List.getElem?_eq_getElem hjl⟩
    have hl12 := hV.long j l hl
    obtain ⟨bT, oT, BT, CT, rfl, hT1, hT2, hT3, hT4⟩ := hTC j l hl
    refine wp_skip ?_
    refine hK10 _ _ ?_; clear hK10
    refine cSeq (fun K11 hK11 => ?_)
    refine wp_block ?_
    refine cSeq (fun K12 hK12 => ?_)
    refine cReg ?_
    refine sIx Tryd.underlying24 Tryd.sizeOf59 F rfl rfl rfl rfl ?_ ?_
    focus (first | omega | decide | (simp; omega))
    clear F a; intro a F
    refine sLd Tryd.isAgg59 F rfl rfl rfl (H.arg hT1) ?_
    clear F a; intro a F
    refine sAs F rfl rfl rfl ?_
    clear F a; intro a F
    refine sNil ?_
    refine hK12 _ _ ?_; clear hK12
    refine cSeq (fun K13 hK13 => ?_)
    refine cReg ?_
    refine sAs F rfl rfl rfl ?_
    clear F a; intro a F
    replace H := H.nilRws 58 10
    refine sNil ?_
    refine hK13 _ _ ?_; clear hK13
    refine cSeq (fun K14 hK14 => ?_)
    refine cSeq (fun K15 hK15 => ?_)
    refine cReg ?_
    refine sMv F rfl rfl rfl ?_
    clear F a; intro a F
    refine sMv F rfl rfl rfl ?_
    clear F a; intro a F
    refine sLen Tryd.underlying59 F rfl rfl rfl ?_
    clear F a; intro a F
    refine sMinN (j := 6) F rfl rfl rfl rfl ?_
    clear F a; intro a F
    refine sSlH Tryd.underlying59 (fun w => ⟨_, Tryd.sizeOf58 w⟩) F rfl rfl rfl rfl ?_ ?_
    focus (first | omega | decide | (simp; omega))
    clear F a; intro a F
    refine sLen Tryd.underlying59 F rfl rfl rfl ?_
    clear F a; intro a F
    refine sMv F rfl rfl rfl ?_
    clear F a; intro a F
    refine sNil ?_
    refine hK15 _ _ ?_; clear hK15
    refine wp_block ?_
    refine cLoopR [1, 2, 7, 30, 31, 32, 40, 41] (fun m ups w => ∃ (k : Nat) (A5 : Option Addr) (c5' : Nat), m = min l.length 6 - k ∧ ups = [(10, .slice A5 (fenceL (l.take k)).length c5'), (42, .int .i64 ((k : Nat) : Int))] ∧ k ≤ min l.length 6 ∧ Own w0 none w [.rws 58 10 (.slice A5 (fenceL (l.take k)).length c5') ((fenceL (l.take k)).map Ins.cells), .grove S rows (fencePr p).threads, .rws 59 1 (.slice A3 rows.length c3') rows, .blk b7 ([.string p.name, .slice LA p.locs.length LC, .slice IA p.init.length IC, .slice A3 rows.length c3', Go.Proofs.YtjephfjnohgcbaaDoor.b8 p.ask, Go.Proofs.YtjephfjnohgcbaaDoor.b8 c1, Go.Proofs.YtjephfjnohgcbaaDoor.b8 c2, Go.Proofs.YtjephfjnohgcbaaDoor.b8 c3, Go.Proofs.YtjephfjnohgcbaaDoor.b8 c4, .slice A9 m9 C9] : List Value) 29, .blk b3 ([.string p.name, .slice LA p.locs.length LC, .slice IA p.init.length IC, .slice (some ⟨bT, oT, none⟩) p.threads.length TC, Go.Proofs.YtjephfjnohgcbaaDoor.b8 p.ask, Go.Proofs.YtjephfjnohgcbaaDoor.b8 c1, Go.Proofs.YtjephfjnohgcbaaDoor.b8 c2, Go.Proofs.YtjephfjnohgcbaaDoor.b8 c3, Go.Proofs.YtjephfjnohgcbaaDoor.b8 c4, .slice A9 m9 C9] : List Value) 29]) F (min l.length 6) [(10, .slice none 0 0), (42, .int .i64 ((0 : Nat) : Int))] (by repeat (first | exact SubR.nil | (apply SubR.cons; · rfl))) ?_ ?_ ?_
    · exact ⟨0, none, 0, rfl, rfl, by omega, H.sel [0, 1, 2, 3, 4] rfl rfl⟩
    · repeat (first | exact trivial | refine Le.cons rfl ?_)
    clear F
    clear H
    intro m ups a w hI F
    obtain ⟨k, A5, c5', rfl, rfl, hk2, H⟩ := hI
    have hfl := fenceL_len (l.take k)
    rw [List.length_take] at hfl
    refine cSeq (fun K16 hK16 => ?_)
    refine cReg ?_
    refine sBin F rfl rfl rfl rfl bLss ?_
    clear F a; intro a F
    refine sNil ?_
    refine hK16 _ _ ?_; clear hK16
    refine cSeq (fun K17 hK17 => ?_)
    refine cIf F rfl (fun h43 => ?_) (fun h43 => ?_)
    ·
     replace h43 := of_decide_eq_true h43
     have hkl : k < l.length := by omega
     obtain ⟨x, hx⟩ : ∃ x, l[k]? = some x := ⟨_, List.getElem?_eq_getElem hkl⟩
     obtain ⟨bI, oI, rfl, hI⟩ := hT2 k x.cells (by rw [List.getElem?_map, hx]; rfl)
     refine wp_skip ?_
     refine hK17 _ _ ?_; clear hK17
     refine cSeq (fun K18 hK18 => ?_)
     refine wp_block ?_
     refine cSeq (fun K19 hK19 => ?_)
     refine cReg ?_
     refine sIx Tryd.underlying59 Tryd.sizeOf58 F rfl rfl rfl rfl ?_ ?_
     focus (first | omega | decide | (simp; omega))
     clear F a; intro a F
     refine sLr Tryd.underlying58 rfl ?si F rfl rfl rfl (H.argR hI) ?_
     case si => exact info_size Tryd.sizeOf58
     clear F a; intro a F
     refine sAl H Tryd.zeroValue58 F rfl rfl ?_
     clear F a H; intro b12 a w F H
     refine sSr H 0 ?si F rfl rfl rfl ?s1 rfl rfl ?_
     case si => exact info_size Tryd.sizeOf58
     case s1 => first | rfl | (repeat (first | exact one_nil | (apply one_cons; · first | rfl | assumption | exact one_bif rfl rfl)))
     clear H; intro w H
     refine sNil ?_
     refine hK19 _ _ ?_; clear hK19
     refine cSeq (fun K20 hK20 => ?_)
     refine cReg ?_
     refine sFa (f := 0) (k := 0) Tryd.underlying58 rfl Tryd.sizeOf5 rfl rfl F rfl rfl rfl ?_
     clear F a; intro a F
     refine sLd Tryd.isAgg5 F rfl rfl rfl (H.cell 0 rfl rfl) ?_
     clear F a; intro a F
     refine sNil ?_
     refine hK20 _ _ ?_; clear hK20
     refine wp_block ?_
     refine cSeq (fun K21 hK21 => ?_)
     refine cReg ?_
     refine sBin F rfl rfl rfl rfl (bEqlB (y := 8)) ?_
     clear F a; intro a F
     refine sAs F rfl rfl rfl ?_
     clear F a; intro a F
     refine sNil ?_
     refine hK21 _ _ ?_; clear hK21
     refine cIf F rfl (fun h52 => ?_) (fun h52 => ?_)
     ·
      replace h52 := beqT h52
      refine wp_skip ?_
      refine hK18 _ _ ?_; clear hK18
      refine cReg ?_
      refine sBin F rfl rfl rfl rfl (bAddN (j := 1) ?_) ?_
      focus omega
      clear F a; intro a F
      refine sMv F rfl rfl rfl ?_
      clear F a; intro a F
      refine sNil ?_
      have hf1 := fenceL_succ hx
      unfold fence1 at hf1
      first
      | (rw [if_pos h52, List.append_nil] at hf1
         refine ⟨_, by omega, _, ⟨k + 1, A5, c5', rfl, rfl, by omega, ?_⟩, ?_⟩
         · rw [hf1]; exact H.sel [1, 2, 3, 4, 5] rfl rfl
         · rw [hf1]; exact F.to (by repeat (first | exact trivial | refine Le.cons rfl ?_)))
      | (rw [if_neg h52, if_pos h54] at hf1
         have hf2 : (fenceL (l.take (k + 1))).map Ins.cells = (fenceL (l.take k)).map Ins.cells ++ [x.cells, fenceI.cells] := by rw [hf1, List.map_append]; rfl
         have hf3 : (fenceL (l.take (k + 1))).length = ((fenceL (l.take k)).map Ins.cells ++ [x.cells, fenceI.cells]).length := by rw [← hf2, List.length_map]
         refine ⟨_, by omega, _, ⟨k + 1, A60, c60, rfl, rfl, by omega, ?_⟩, ?_⟩
         · rw [hf2, hf3]; exact H.sel [1, 2, 3, 4, 5] rfl rfl
         · rw [hf3]; exact F.to (by repeat (first | exact trivial | refine Le.cons rfl ?_)))
      | (rw [if_neg h52, if_neg h54] at hf1
         have hf2 : (fenceL (l.take (k + 1))).map Ins.cells = (fenceL (l.take k)).map Ins.cells ++ [x.cells] := by rw [hf1, List.map_append]; rfl
         have hf3 : (fenceL (l.take (k + 1))).length = ((fenceL (l.take k)).map Ins.cells ++ [x.cells]).length := by rw [← hf2, List.length_map]
         refine ⟨_, by omega, _, ⟨k + 1, A51, c51, rfl, rfl, by omega, ?_⟩, ?_⟩
         · rw [hf2, hf3]; exact H.sel [1, 2, 3, 4, 5] rfl rfl
         · rw [hf3]; exact F.to (by repeat (first | exact trivial | refine Le.cons rfl ?_)))
     ·
      replace h52 := beqF h52
      refine cSeq (fun K22 hK22 => ?_)
      refine cReg ?_
      refine sBin F rfl rfl rfl rfl (bEqlB (y := 2)) ?_
      clear F a; intro a F
      refine sAs F rfl rfl rfl ?_
      clear F a; intro a F
      refine sNil ?_
      refine hK22 _ _ ?_; clear hK22
      refine cIf F rfl (fun h54 => ?_) (fun h54 => ?_)
      ·
       replace h54 := beqT h54
       refine cReg ?_
       refine sMv F rfl rfl rfl ?_
       clear F a; intro a F
       refine sLr Tryd.underlying58 rfl ?si F rfl rfl rfl (H.whole 0 rfl) ?_
       case si => exact info_size Tryd.sizeOf58
       clear F a; intro a F
       refine sBd (cs := fenceI.cells) (places := [(0, 1), (1, 1), (2, 1), (3, 2), (5, 2), (7, 1), (8, 1), (9, 1)]) Tryd.zeroValue58 Tryd.underlying58 (by kernel_rfl) F rfl rfl rfl rfl ?_
       clear F a; intro a F
       refine sBsR (rows := [x.cells, fenceI.cells]) H Tryd.underlying59 Tryd.sizeOf58 Tryd.zeroValue58 rfl F rfl rfl rfl rfl rfl ?_
       clear F a H; intro b59 a w F H
       refine sApp (bytes := 10) (sz := 10) (news := [x.cells, fenceI.cells]) H 2 Tryd.underlying59 Tryd.typeInfo58 rfl rfl rfl rfl rfl rfl F rfl rfl rfl rfl rfl rfl (H.whole 0 rfl) (by simp [Ins.cells]) (by simp [Ins.cells, Value.oneCell', Go.Proofs.YtjephfjnohgcbaaDoor.b8]) (Nat.succ_pos _) (by rw [List.length_map]; simp only [List.length_cons, List.length_nil]; omega) ?_
       clear F a H; intro A60 c60 a w F H
       refine sAs F rfl rfl rfl ?_
       clear F a; intro a F
       refine sNil ?_
       refine hK18 _ _ ?_; clear hK18
       refine cReg ?_
       refine sBin F rfl rfl rfl rfl (bAddN (j := 1) ?_) ?_
       focus omega
       clear F a; intro a F
       refine sMv F rfl rfl rfl ?_
       clear F a; intro a F
       refine sNil ?_
       have hf1 := fenceL_succ hx
       unfold fence1 at hf1
       first
       | (rw [if_pos h52, List.append_nil] at hf1
          refine ⟨_, by omega, _, ⟨k + 1, A5, c5', rfl, rfl, by omega, ?_⟩, ?_⟩
          · rw [hf1]; exact H.sel [2, 3, 4, 5, 6] rfl rfl
          · rw [hf1]; exact F.to (by repeat (first | exact trivial | refine Le.cons rfl ?_)))
       | (rw [if_neg h52, if_pos h54] at hf1
          have hf2 : (fenceL (l.take (k + 1))).map Ins.cells = (fenceL (l.take k)).map Ins.cells ++ [x.cells, fenceI.cells] := by rw [hf1, List.map_append]; rfl
          have hf3 : (fenceL (l.take (k + 1))).length = ((fenceL (l.take k)).map Ins.cells ++ [x.cells, fenceI.cells]).length := by rw [← hf2, List.length_map]
          refine ⟨_, by omega, _, ⟨k + 1, A60, c60, rfl, rfl, by omega, ?_⟩, ?_⟩
          · rw [hf2, hf3]; exact H.sel [2, 3, 4, 5, 6] rfl rfl
          · rw [hf3]; exact F.to (by repeat (first | exact trivial | refine Le.cons rfl ?_)))
       | (rw [if_neg h52, if_neg h54] at hf1
          have hf2 : (fenceL (l.take (k + 1))).map Ins.cells = (fenceL (l.take k)).map Ins.cells ++ [x.cells] := by rw [hf1, List.map_append]; rfl
          have hf3 : (fenceL (l.take (k + 1))).length = ((fenceL (l.take k)).map Ins.cells ++ [x.cells]).length := by rw [← hf2, List.length_map]
          refine ⟨_, by omega, _, ⟨k + 1, A51, c51, rfl, rfl, by omega, ?_⟩, ?_⟩
          · rw [hf2, hf3]; exact H.sel [2, 3, 4, 5, 6] rfl rfl
          · rw [hf3]; exact F.to (by repeat (first | exact trivial | refine Le.cons rfl ?_)))
      ·
       replace h54 := beqF h54
       refine cReg ?_
       refine sMv F rfl rfl rfl ?_
       clear F a; intro a F
       refine sLr Tryd.underlying58 rfl ?si F rfl rfl rfl (H.whole 0 rfl) ?_
       case si => exact info_size Tryd.sizeOf58
       clear F a; intro a F
       refine sBsA H Tryd.underlying59 Tryd.sizeOf58 Tryd.zeroValue58 rfl F rfl rfl rfl rfl rfl ?_
       clear F a H; intro b50 a w F H
       refine sApp1 (bytes := 10) H 2 Tryd.underlying59 Tryd.typeInfo58 rfl rfl rfl rfl rfl rfl F rfl rfl rfl rfl rfl (H.whole 0 rfl) rfl ?s1 ?s2 ?_
       case s1 => first | rfl | (repeat (first | exact one_nil | (apply one_cons; · first | rfl | assumption | exact one_bif rfl rfl)))
       case s2 => (rw [List.length_map]; omega)
       clear F a H; intro A51 c51 a w F H
       refine sAs F rfl rfl rfl ?_
       clear F a; intro a F
       refine sNil ?_
       refine hK18 _ _ ?_; clear hK18
       refine cReg ?_
       refine sBin F rfl rfl rfl rfl (bAddN (j := 1) ?_) ?_
       focus omega
       clear F a; intro a F
       refine sMv F rfl rfl rfl ?_
       clear F a; intro a F
       refine sNil ?_
       have hf1 := fenceL_succ hx
       unfold fence1 at hf1
       first
       | (rw [if_pos h52, List.append_nil] at hf1
          refine ⟨_, by omega, _, ⟨k + 1, A5, c5', rfl, rfl, by omega, ?_⟩, ?_⟩
          · rw [hf1]; exact H.sel [2, 3, 4, 5, 6] rfl rfl
          · rw [hf1]; exact F.to (by repeat (first | exact trivial | refine Le.cons rfl ?_)))
       | (rw [if_neg h52, if_pos h54] at hf1
          have hf2 : (fenceL (l.take (k + 1))).map Ins.cells = (fenceL (l.take k)).map Ins.cells ++ [x.cells, fenceI.cells] := by rw [hf1, List.map_append]; rfl
          have hf3 : (fenceL (l.take (k + 1))).length = ((fenceL (l.take k)).map Ins.cells ++ [x.cells, fenceI.cells]).length := by rw [← hf2, List.length_map]
          refine ⟨_, by omega, _, ⟨k + 1, A60, c60, rfl, rfl, by omega, ?_⟩, ?_⟩
          · rw [hf2, hf3]; exact H.sel [2, 3, 4, 5, 6] rfl rfl
          · rw [hf3]; exact F.to (by repeat (first | exact trivial | refine Le.cons rfl ?_)))
       | (rw [if_neg h52, if_neg h54] at hf1
          have hf2 : (fenceL (l.take (k + 1))).map Ins.cells = (fenceL (l.take k)).map Ins.cells ++ [x.cells] := by rw [hf1, List.map_append]; rfl
          have hf3 : (fenceL (l.take (k + 1))).length = ((fenceL (l.take k)).map Ins.cells ++ [x.cells]).length := by rw [← hf2, List.length_map]
          refine ⟨_, by omega, _, ⟨k + 1, A51, c51, rfl, rfl, by omega, ?_⟩, ?_⟩
          · rw [hf2, hf3]; exact H.sel [2, 3, 4, 5, 6] rfl rfl
          · rw [hf3]; exact F.to (by repeat (first | exact trivial | refine Le.cons rfl ?_)))
    ·
     replace h43 := of_decide_eq_false h43
     have hkl : k = min l.length 6 := by omega
     rw [take_min hkl] at H F
     refine wp_exit ?_
     refine hK14 _ _ ?_; clear hK14
     refine cReg ?_
     refine sFa (f := 3) (k := 3) Tryd.underlying29 rfl Tryd.sizeOf24 rfl rfl F rfl rfl rfl ?_
     clear F a; intro a F
     refine sLd Tryd.isAgg24 F rfl rfl rfl (H.cell 3 rfl rfl) ?_
     clear F a; intro a F
     refine sMv F rfl rfl rfl ?_
     clear F a; intro a F
     refine sBs1 H Tryd.underlying24 Tryd.sizeOf59 Tryd.zeroValue59 rfl F rfl rfl rfl rfl ?_
     clear F a H; intro b65 a w F H
     refine sApp1 (bytes := 24) H 3 Tryd.underlying24 Tryd.typeInfo59 rfl rfl rfl rfl rfl rfl F rfl rfl rfl rfl rfl (H.whole 0 rfl) rfl ?s1 ?s2 ?_
     case s1 => first | rfl | (repeat (first | exact one_nil | (apply one_cons; · first | rfl | assumption | exact one_bif rfl rfl)))
     case s2 => omega
     clear F a H; intro A66 c66 a w F H
     refine sFa (f := 3) (k := 3) Tryd.underlying29 rfl Tryd.sizeOf24 rfl rfl F rfl rfl rfl ?_
     clear F a; intro a F
     refine sSt H 4 Tryd.sizeOf24 F rfl rfl rfl rfl rfl rfl ?_
     clear H; intro w H
     refine sNil ?_
     refine hK11 _ _ ?_; clear hK11
     refine cReg ?_
     refine sBin F rfl rfl rfl rfl (bAddN (j := 1) ?_) ?_
     focus omega
     clear F a; intro a F
     refine sMv F rfl rfl rfl ?_
     clear F a; intro a F
     refine sNil ?_
     have hfj : (fencePr p).threads[rows.length]? = some (fenceL (l.take 6)) := by rw [hrj]; unfold fencePr; rw [List.getElem?_map, hl]; rfl
     refine ⟨_, ?_, _, ⟨j + 1, A66, c66, _, _, rfl, rfl, ?_, ?_, ?_, (((H.sel [1, 2, 3, 4, 5] rfl rfl).toHeld (by simp [Ins.cells]) (by decide)).plantG hfj rfl)⟩, F.to (by repeat (first | exact trivial | refine Le.cons rfl ?_))⟩
     · omega
     · simp; omega
     · omega
     · intro r hr
       rcases List.mem_append.1 hr with h1 | h1
       · exact hr1 r h1
       · simp at h1; subst h1; rfl
   ·
    replace h33 := of_decide_eq_false h33
    have hrl : rows.length = (fencePr p).threads.length := by unfold fencePr; rw [List.length_map]; omega
    rw [hrl] at H
    have hvq := fence_right hv
    have hFq := fence_fenced p
    have hVq := valid hvq
    have hpq : ∀ {w : World} {rs : List Res} (H : Own w0 none w rs) (i k : Nat), rs[i]? = some (.rws 59 1 (.slice A3 (fencePr p).threads.length c3') rows) → rs[k]? = some (.grove S rows (fencePr p).threads) → ProgAt w ([.string p.name, .slice LA p.locs.length LC, .slice IA p.init.length IC, .slice A3 (fencePr p).threads.length c3', Go.Proofs.YtjephfjnohgcbaaDoor.b8 p.ask, Go.Proofs.YtjephfjnohgcbaaDoor.b8 c1, Go.Proofs.YtjephfjnohgcbaaDoor.b8 c2, Go.Proofs.YtjephfjnohgcbaaDoor.b8 c3, Go.Proofs.YtjephfjnohgcbaaDoor.b8 c4, .slice A9 m9 C9] : List Value) (fencePr p) := fun H i k hi hk =>
     ⟨LA, LC, IA, IC, A3, c3', h, _, rfl, hp.name, RowsAt.own hp.locs H, hp.locsN, hp.locsC, hp.locsS, RowsAt.own hp.init H, hp.initN, H.threadsAt i k hi hk hrl hr1 (fun t ht => by
      obtain ⟨j', hj'⟩ := List.getElem?_of_mem ht
      have := hVq.long j' t hj'
      omega), (by have := hVq.thr4; omega), CondAt.grown H.grown rfl _ _ _ hp.cond⟩
    generalize fencePr p = q at H hvq hFq hVq hpq
    refine wp_exit ?_
    refine hK7 _ _ ?_; clear hK7
    refine cSeq (fun K23 hK23 => ?_)
    refine cReg ?_
    refine sAs F rfl rfl rfl ?_
    clear F a; intro a F
    refine sNil ?_
    refine hK23 _ _ ?_; clear hK23
    refine cSeqJ [2, 7] (fun ups w => ups = [(13, Go.Proofs.YtjephfjnohgcbaaDoor.b8 mc)] ∧ Own w0 none w [.grove S rows q.threads, .rws 59 1 (.slice A3 q.threads.length c3') rows, .blk b7 ([.string p.name, .slice LA p.locs.length LC, .slice IA p.init.length IC, .slice A3 q.threads.length c3', Go.Proofs.YtjephfjnohgcbaaDoor.b8 p.ask, Go.Proofs.YtjephfjnohgcbaaDoor.b8 c1, Go.Proofs.YtjephfjnohgcbaaDoor.b8 c2, Go.Proofs.YtjephfjnohgcbaaDoor.b8 c3, Go.Proofs.YtjephfjnohgcbaaDoor.b8 c4, .slice A9 m9 C9] : List Value) 29]) F (by repeat (first | exact SubR.nil | (apply SubR.cons; · rfl))) ?_ ?_
    ·
     refine cSeq (fun K24 hK24 => ?_)
     refine cReg ?_
     refine sMv F rfl rfl rfl ?_
     clear F a; intro a F
     refine sNil ?_
     refine hK24 _ _ ?_; clear hK24
     refine cIf F rfl (fun h69 => ?_) (fun h69 => ?_)
     ·
      refine cReg ?_
      refine sAs F rfl rfl rfl ?_
      clear F a; intro a F
      refine sNil ?_
      first
        | (rw [if_pos h69] at hmc
           subst hmc
           exact ⟨_, ⟨rfl, H.sel [0, 1, 2] rfl rfl⟩, F.to (by repeat (first | exact trivial | refine Le.cons rfl ?_))⟩)
        | (rw [if_neg (show ¬ pso = true by rw [h69]; simp)] at hmc
           subst hmc
           exact ⟨_, ⟨rfl, H.sel [0, 1, 2] rfl rfl⟩, F.to (by repeat (first | exact trivial | refine Le.cons rfl ?_))⟩)
     ·
      refine wp_skip ?_
      first
        | (rw [if_pos h69] at hmc
           subst hmc
           exact ⟨_, ⟨rfl, H.sel [0, 1, 2] rfl rfl⟩, F.to (by repeat (first | exact trivial | refine Le.cons rfl ?_))⟩)
        | (rw [if_neg (show ¬ pso = true by rw [h69]; simp)] at hmc
           subst hmc
           exact ⟨_, ⟨rfl, H.sel [0, 1, 2] rfl rfl⟩, F.to (by repeat (first | exact trivial | refine Le.cons rfl ?_))⟩)
    clear F H
    intro ups a w hI F
    obtain ⟨rfl, H⟩ := hI
    obtain ⟨r, z0, eF, eO, eEM, hruns, hz, hr0, hrz, hr96, hnu⟩ := play_runs hvq hk Q
    have eE : startE q = 0 := if_pos hvq
    have eS : startS q = startP q := if_pos hvq
    refine cSeq (fun K25 hK25 => ?_)
    refine cRegRO (by kernel_rfl) H ?_
    replace H := H.drew
    refine eTake (k := 0) (i := 0) rfl (by kernel_rfl) F rfl rfl rfl rfl (fun w H => rLr Tryd.underlying29 rfl ?si F rfl (H.whole 2 rfl)) (H.sel [0, 1, 2] rfl rfl) (fun _ _ _ h => h) ?_
    case si => exact info_size Tryd.sizeOf29
    clear F a; intro a F
    refine eTakeF (k := 1) (i := 1) rfl (by kernel_rfl) F rfl rfl rfl (fun w => rMv F rfl) (H.sel [0, 1, 2] rfl rfl) (fun _ _ _ h => h) ?_
    clear F a; intro a F
    refine eTakeF (k := 2) (i := 2) rfl (by kernel_rfl) F rfl rfl rfl (fun w => rMv F rfl) (H.sel [0, 1, 2] rfl rfl) (fun _ _ _ h => h) ?_
    clear F a; intro a F
    refine eTakeF (k := 3) (i := 3) rfl (by kernel_rfl) F rfl rfl rfl (fun w => rMv F rfl) (H.sel [0, 1, 2] rfl rfl) (fun _ _ _ h => h) ?_
    clear F a; intro a F
    refine eTake (k := 4) (i := 4) rfl (by kernel_rfl) F rfl rfl rfl rfl (fun w H => rLen Tryd.underlying23 F rfl) (H.sel [0, 1, 2] rfl rfl) (fun _ _ _ h => h) ?_
    clear F a; intro a F
    refine eTake (k := 5) (i := 5) rfl (by kernel_rfl) F rfl rfl rfl rfl (fun w H => rMinN (j := 100) F rfl rfl) (H.sel [0, 1, 2] rfl rfl) (fun _ _ _ h => h) ?_
    clear F a; intro a F
    refine eTake (k := 6) (i := 6) rfl (by kernel_rfl) F rfl rfl rfl rfl (fun w H => rSlH Tryd.underlying23 (fun w => ⟨_, Tryd.sizeOf5 w⟩) F rfl rfl ?_) (H.sel [0, 1, 2] rfl rfl) (fun _ _ _ h => h) ?_
    focus (first | omega | decide | (simp; omega))
    clear F a; intro a F
    refine eJoin F H [7, 13] 13 [true, true, true, true, true, true, true, true, true, true, true, true, true, false, false, false] (fun rs ups w => ∃ A c b14, ups = [(79, .agg (bs 38 (playFM q mc Q)).toArray), (80, .slice A (playOM q mc Q).length c), (81, .int .i64 (playEM q mc)), (14, .pointer (some ⟨b14, 0, none⟩))] ∧ Own w0 none w ((.rws 50 3 (.slice A (playOM q mc Q).length c) ((playOM q mc Q).map Pss.cells)) :: (.blk b14 (bs 38 zb) 64) :: rs)) (by repeat (first | exact SubR.nil | (apply SubR.cons; · rfl))) ?_ (fun hJ => ?_)
    rotate_left
    ·
     refine eTwo (k := 7) (i := 7) (j := 12) (by kernel_rfl) F rfl rfl rfl rfl ?_ ?_
     ·
      refine oCall Tryd.call17 F rfl rfl ((by have := playM_any _ q _ (hpq H 1 0 rfl rfl) (hN.own H) mc PA PC Q (RowsAt.own hBt H) (by omega); rw [hlen] at this; exact this)) ?_
      rintro e w ⟨A, c, rfl, H2⟩
      replace H := H.join H2; clear H2
      refine ⟨_, rfl, ?_⟩
      clear F a; intro a F
      refine eKeep (H.sel [1, 2, 3] rfl rfl) ?_
      refine eTakeF (k := 8) (i := 8) rfl (by kernel_rfl) F rfl rfl rfl (fun w => rMv F rfl) (H.sel [1, 2, 3] rfl rfl) (fun _ _ _ h => h) ?_
      clear F a; intro a F
      refine eTakeF (k := 9) (i := 9) rfl (by kernel_rfl) F rfl rfl rfl (fun w => rExt F rfl rfl) (H.sel [1, 2, 3] rfl rfl) (fun _ _ _ h => h) ?_
      clear F a; intro a F
      refine eTakeF (k := 10) (i := 10) rfl (by kernel_rfl) F rfl rfl rfl (fun w => rExt F rfl rfl) (H.sel [1, 2, 3] rfl rfl) (fun _ _ _ h => h) ?_
      clear F a; intro a F
      refine eTakeF (k := 11) (i := 11) rfl (by kernel_rfl) F rfl rfl rfl (fun w => rExt F rfl rfl) (H.sel [1, 2, 3] rfl rfl) (fun _ _ _ h => h) ?_
      clear F a; intro a F
      refine eOne (k := 12) (i := 12) rfl (by kernel_rfl) F rfl (oAlB H zB64 F rfl ?_)
      clear F a H; intro b14 a w F H
      refine eKeep (H.sel [2, 3, 4] rfl rfl) ?_
      exact eGo hJ (by kernel_rfl) _ ⟨A, c, b14, rfl, H.sel [1, 0, 2, 3, 4] rfl rfl⟩ (F.to (by repeat (first | exact trivial | refine Le.cons rfl ?_)))
     ·
      refine oAlB H zB64 F rfl ?_
      clear F a H; intro b14 a w F H
      refine eKeep (H.sel [1, 2, 3] rfl rfl) ?_
      refine eOne (k := 8) (i := 7) rfl (by kernel_rfl) F rfl (oCall Tryd.call17 F rfl rfl ((by have := playM_any _ q _ (hpq H 2 1 rfl rfl) (hN.own H) mc PA PC Q (RowsAt.own hBt H) (by omega); rw [hlen] at this; exact this)) ?_)
      rintro e w ⟨A, c, rfl, H2⟩
      replace H := H.join H2; clear H2
      refine ⟨_, rfl, ?_⟩
      clear F a; intro a F
      refine eKeep (H.sel [2, 3, 4] rfl rfl) ?_
      refine eTakeF (k := 9) (i := 8) rfl (by kernel_rfl) F rfl rfl rfl (fun w => rMv F rfl) (H.sel [2, 3, 4] rfl rfl) (fun _ _ _ h => h) ?_
      clear F a; intro a F
      refine eTakeF (k := 10) (i := 9) rfl (by kernel_rfl) F rfl rfl rfl (fun w => rExt F rfl rfl) (H.sel [2, 3, 4] rfl rfl) (fun _ _ _ h => h) ?_
      clear F a; intro a F
      refine eTakeF (k := 11) (i := 10) rfl (by kernel_rfl) F rfl rfl rfl (fun w => rExt F rfl rfl) (H.sel [2, 3, 4] rfl rfl) (fun _ _ _ h => h) ?_
      clear F a; intro a F
      refine eTakeF (k := 12) (i := 11) rfl (by kernel_rfl) F rfl rfl rfl (fun w => rExt F rfl rfl) (H.sel [2, 3, 4] rfl rfl) (fun _ _ _ h => h) ?_
      clear F a; intro a F
      exact eGo hJ (by kernel_rfl) _ ⟨A, c, b14, rfl, H.sel [0, 1, 2, 3, 4] rfl rfl⟩ (F.to (by repeat (first | exact trivial | refine Le.cons rfl ?_)))
    clear F H; intro ups a w hI F
    obtain ⟨A, c, b14, rfl, H⟩ := hI
    refine eOne (k := 13) (i := 13) rfl (by kernel_rfl) F rfl (oSrB H 1 Tryd.sizeOf64 F rfl rfl rfl (by omega) ?_)
    clear H; intro w H
    rw [lay_all] at H
    refine ePartO (by kernel_rfl) H ?_
    refine eTakeF (k := 14) (i := 14) rfl (by kernel_rfl) F rfl rfl rfl (fun w => rAs F rfl) (H.sel [0, 1, 2, 3, 4] rfl rfl) (fun _ _ _ h => h) ?_
    clear F a; intro a F
    refine eTakeF (k := 15) (i := 15) rfl (by kernel_rfl) F rfl rfl rfl (fun w => rAs F rfl) (H.sel [0, 1, 2, 3, 4] rfl rfl) (fun _ _ _ h => h) ?_
    clear F a; intro a F
    refine eNil (k := 16) (by kernel_rfl) ?_
    refine hK25 _ _ ?_; clear hK25
    refine cSeq (fun K26 hK26 => ?_)
    refine cReg ?_
    refine sLr Tryd.underlying29 rfl ?si F rfl rfl rfl (H.whole 4 rfl) ?_
    case si => exact info_size Tryd.sizeOf29
    clear F a; intro a F
    refine sCall Tryd.call18 F rfl rfl rfl (start_any _ q _ (hpq H 3 2 rfl rfl) (hN.own H)) ?_
    rintro e w ⟨rfl, hb⟩
    replace H := H.grow hb; clear hb
    refine ⟨_, rfl, ?_⟩
    clear F a; intro a F
    refine sMv F rfl rfl rfl ?_
    clear F a; intro a F
    refine sExt F rfl rfl rfl rfl ?_
    clear F a; intro a F
    refine sExt F rfl rfl rfl rfl ?_
    clear F a; intro a F
    refine sAlB H zB41 F rfl rfl ?_
    clear F a H; intro b17 a w F H
    refine sSrB H 0 Tryd.sizeOf41 F rfl rfl rfl rfl (by omega) ?_
    clear H; intro w H
    rw [lay_all] at H
    refine sAs F rfl rfl rfl ?_
    clear F a; intro a F
    refine sNil ?_
    refine hK26 _ _ ?_; clear hK26
    refine cSeq (fun K27 hK27 => ?_)
    refine cReg ?_
    refine sLrB Tryd.underlying41 rfl Tryd.sizeOf41 F rfl rfl rfl (H.whole 0 rfl) ?_
    clear F a; intro a F
    refine sAlB H zB41 F rfl rfl ?_
    clear F a H; intro b19 a w F H
    refine sSrB H 0 Tryd.sizeOf41 F rfl rfl rfl rfl (by omega) ?_
    clear H; intro w H
    rw [lay_all] at H
    refine sNil ?_
    refine hK27 _ _ ?_; clear hK27
    refine cSeq (fun K28 hK28 => ?_)
    refine cSeq (fun K29 hK29 => ?_)
    refine cReg ?_
    refine sMv F rfl rfl rfl ?_
    clear F a; intro a F
    refine sBin F rfl rfl rfl rfl bNeq ?_
    clear F a; intro a F
    refine sMv F rfl rfl rfl ?_
    clear F a; intro a F
    refine F.split 90 rfl ?_ ?_ <;> (clear F; intro h90 F)
    ·
     replace h90 := bneT h90
     exact absurd eEM h90
    ·
     replace h90 := bneF h90
     refine sMv F rfl rfl rfl ?_
     clear F a; intro a F
     refine sBin F rfl rfl rfl rfl bNeq ?_
     clear F a; intro a F
     refine sPk F rfl rfl rfl rfl ?_
     clear F a; intro a F
     refine sNil ?_
     refine hK29 _ _ ?_; clear hK29
     refine cIf F rfl (fun h93 => ?_) (fun h93 => ?_)
     ·
      replace h93 := bneT h93
      exact absurd eE h93
     ·
      replace h93 := bneF h93
      simp only [eO, eF, eE, eS] at H F
      refine wp_skip ?_
      refine hK28 _ _ ?_; clear hK28
      refine cSeq (fun K30 hK30 => ?_)
      refine cSeq (fun K31 hK31 => ?_)
      refine cReg ?_
      refine sMv F rfl rfl rfl ?_
      clear F a; intro a F
      refine sLen Tryd.underlying44 F rfl rfl rfl ?_
      clear F a; intro a F
      refine sMv F rfl rfl rfl ?_
      clear F a; intro a F
      refine sNil ?_
      refine hK31 _ _ ?_; clear hK31
      refine wp_block ?_
      refine cLoopR [7, 13, 14, 17, 19, 94, 95] (fun m ups w => ∃ (j : Nat) (s z : By), m = r.length - j ∧ ups = [(96, .int .i64 ((j : Nat) : Int))] ∧ j ≤ r.length ∧ SimF q mc s z ∧ RunM q mc s (r.drop j) z0 ∧ Own w0 none w [.blk b19 (bs 142 z) 41, .blk b17 (bs 142 s) 41, .blk b14 (bs 38 (finalP z0)) 64, .rws 50 3 (.slice A r.length c) (r.map Pss.cells), .grove S rows q.threads, .rws 59 1 (.slice A3 q.threads.length c3') rows, .blk b7 ([.string p.name, .slice LA p.locs.length LC, .slice IA p.init.length IC, .slice A3 q.threads.length c3', Go.Proofs.YtjephfjnohgcbaaDoor.b8 p.ask, Go.Proofs.YtjephfjnohgcbaaDoor.b8 c1, Go.Proofs.YtjephfjnohgcbaaDoor.b8 c2, Go.Proofs.YtjephfjnohgcbaaDoor.b8 c3, Go.Proofs.YtjephfjnohgcbaaDoor.b8 c4, .slice A9 m9 C9] : List Value) 29]) F (r.length) [(96, .int .i64 ((0 : Nat) : Int))] (by repeat (first | exact SubR.nil | (apply SubR.cons; · rfl))) ?_ ?_ ?_
      · exact ⟨0, startP q, startP q, rfl, rfl, by omega, sim_start hvq hk, hruns, H.sel [0, 1, 3, 2, 4, 5, 6] rfl rfl⟩
      · repeat (first | exact trivial | refine Le.cons rfl ?_)
      clear F
      clear H
      intro m ups a w hI F
      obtain ⟨j, s, z, rfl, rfl, hj, hsim, hrest, H⟩ := hI
      refine cSeq (fun K32 hK32 => ?_)
      refine cReg ?_
      refine sBin F rfl rfl rfl rfl bLss ?_
      clear F a; intro a F
      refine sNil ?_
      refine hK32 _ _ ?_; clear hK32
      refine cSeq (fun K33 hK33 => ?_)
      refine cIf F rfl (fun h97 => ?_) (fun h97 => ?_)
      ·
       replace h97 := of_decide_eq_true h97
       have hjl : j < r.length := by omega
       obtain ⟨x, hx⟩ : ∃ x, r[j]? = some x := ⟨_, List.getElem?_eq_getElem hjl⟩
       rw [drop_next hx] at hrest
       obtain ⟨hxm, hrest'⟩ := hrest.uncons
       have hxr : x ∈ movesR q mc s := by rw [movesR_eq hsim.r]; exact hxm
       have eS1 : moveSM q mc s x = stepM q mc s x := if_pos hxr
       have eE1 : moveEM q mc s x = 0 := if_pos hxr
       have ht4 := moves_t4 hsim.r hxm
       have hsim2 := sim_step hFq hm1 hsim hxm
       obtain ⟨bL, oL, rfl, _⟩ := H.rowsAt 3 rfl (rowX _) (by decide) _ _ (by rw [List.getElem?_map, hx]; rfl)
       refine wp_skip ?_
       refine hK33 _ _ ?_; clear hK33
       refine cSeq (fun K34 hK34 => ?_)
       refine wp_block ?_
       refine cSeq (fun K35 hK35 => ?_)
       refine cReg ?_
       refine sIx Tryd.underlying44 Tryd.sizeOf50 F rfl rfl rfl rfl ?_ ?_
       focus (first | omega | decide | (simp; omega))
       clear F a; intro a F
       refine sLr Tryd.underlying50 rfl ?si F rfl rfl rfl (by obtain ⟨b', o', h1, h2⟩ := H.rowsAt 3 rfl (rowX _) (by decide) _ _ (by rw [List.getElem?_map, hx]; rfl); cases h1; exact h2) ?_
       case si => exact info_size Tryd.sizeOf50
       clear F a; intro a F
       refine sAl H Tryd.zeroValue50 F rfl rfl ?_
       clear F a H; intro b21 a w F H
       refine sSr H 0 ?si F rfl rfl rfl ?s1 rfl rfl ?_
       case si => exact info_size Tryd.sizeOf50
       case s1 => first | rfl | (repeat (first | exact one_nil | (apply one_cons; · first | rfl | assumption | exact one_bif rfl rfl)))
       clear H; intro w H
       refine sNil ?_
       refine hK35 _ _ ?_; clear hK35
       refine cSeq (fun K36 hK36 => ?_)
       refine cReg ?_
       refine sLr Tryd.underlying29 rfl ?si F rfl rfl rfl (H.whole 7 rfl) ?_
       case si => exact info_size Tryd.sizeOf29
       clear F a; intro a F
       refine sLrB Tryd.underlying41 rfl Tryd.sizeOf41 F rfl rfl rfl (H.whole 2 rfl) ?_
       clear F a; intro a F
       refine sFa (f := 0) (k := 0) Tryd.underlying50 rfl Tryd.sizeOf5 rfl rfl F rfl rfl rfl ?_
       clear F a; intro a F
       refine sLd Tryd.isAgg5 F rfl rfl rfl (H.cell 0 rfl rfl) ?_
       clear F a; intro a F
       refine sCv Tryd.underlying5 Tryd.underlying3 F rfl rfl rfl (wrapB _) ?_
       clear F a; intro a F
       refine sCall Tryd.call14 F rfl rfl rfl (store14_any _ q _ (hpq H 6 5 rfl rfl) s x.t.toNat ht4) ?_
       rintro e w ⟨rfl, hb⟩
       replace H := H.grow hb; clear hb
       refine ⟨_, rfl, ?_⟩
       clear F a; intro a F
       refine sMv F rfl rfl rfl ?_
       clear F a; intro a F
       refine F.split 106 rfl ?_ ?_ <;> (clear F; intro h106 F)
       ·
        refine sFa (f := 1) (k := 1) Tryd.underlying50 rfl Tryd.sizeOf4 rfl rfl F rfl rfl rfl ?_
        clear F a; intro a F
        refine sLd Tryd.isAgg4 F rfl rfl rfl (H.cell 0 rfl rfl) ?_
        clear F a; intro a F
        refine sNot F rfl rfl rfl ?_
        clear F a; intro a F
        refine sPk F rfl rfl rfl rfl ?_
        clear F a; intro a F
        refine sAs F rfl rfl rfl ?_
        clear F a; intro a F
        refine sNil ?_
        refine hK36 _ _ ?_; clear hK36
        refine cSeq (fun K37 hK37 => ?_)
        refine cSeq (fun K38 hK38 => ?_)
        refine cReg ?_
        refine sLr Tryd.underlying29 rfl ?si F rfl rfl rfl (H.whole 7 rfl) ?_
        case si => exact info_size Tryd.sizeOf29
        clear F a; intro a F
        refine sMv F rfl rfl rfl ?_
        clear F a; intro a F
        refine sLrB Tryd.underlying41 rfl Tryd.sizeOf41 F rfl rfl rfl (H.whole 2 rfl) ?_
        clear F a; intro a F
        refine sLr Tryd.underlying50 rfl ?si F rfl rfl rfl (H.whole 0 rfl) ?_
        case si => exact info_size Tryd.sizeOf50
        clear F a; intro a F
        refine sCall Tryd.call13 F rfl rfl rfl (moveM_any _ q _ (hpq H 6 5 rfl rfl) (hN.own H) mc s x) ?_
        rintro e w ⟨rfl, hb⟩
        replace H := H.grow hb; clear hb
        refine ⟨_, rfl, ?_⟩
        clear F a; intro a F
        refine sMv F rfl rfl rfl ?_
        clear F a; intro a F
        refine sExt F rfl rfl rfl rfl ?_
        clear F a; intro a F
        refine sExt F rfl rfl rfl rfl ?_
        clear F a; intro a F
        refine sSrB H 2 Tryd.sizeOf41 F rfl rfl rfl rfl (by omega) ?_
        clear H; intro w H
        rw [lay_all] at H
        refine sAs F rfl rfl rfl ?_
        clear F a; intro a F
        refine sNil ?_
        refine hK38 _ _ ?_; clear hK38
        refine cSeq (fun K39 hK39 => ?_)
        refine cReg ?_
        refine sMv F rfl rfl rfl ?_
        clear F a; intro a F
        refine sBin F rfl rfl rfl rfl bNeq ?_
        clear F a; intro a F
        refine sNil ?_
        refine hK39 _ _ ?_; clear hK39
        refine cIf F rfl (fun h120 => ?_) (fun h120 => ?_)
        ·
         replace h120 := bneT h120
         exact absurd eE1 h120
        ·
         replace h120 := bneF h120
         rw [eS1] at H
         refine wp_skip ?_
         refine hK37 _ _ ?_; clear hK37
         refine cSeq (fun K40 hK40 => ?_)
         refine cSeq (fun K41 hK41 => ?_)
         refine cReg ?_
         refine sMv F rfl rfl rfl ?_
         clear F a; intro a F
         refine sNil ?_
         refine hK41 _ _ ?_; clear hK41
         refine cIf F rfl (fun h121 => ?_) (fun h121 => ?_)
         ·
          replace h121 := notT h121
          refine wp_exit ?_
          refine hK34 _ _ ?_; clear hK34
          refine cReg ?_
          refine sBin F rfl rfl rfl rfl (bAddN (j := 1) ?_) ?_
          focus omega
          clear F a; intro a F
          refine sMv F rfl rfl rfl ?_
          clear F a; intro a F
          refine sNil ?_
          first
          | exact ⟨_, by omega, _, ⟨j + 1, stepM q mc s x, stepP q z x.t.toNat, rfl, rfl, by omega, hmv.2.2, hrest', H.sel [1, 2, 3, 4, 5, 6, 7] rfl rfl⟩, F.to (by repeat (first | exact trivial | refine Le.cons rfl ?_))⟩
          | exact ⟨_, by omega, _, ⟨j + 1, stepM q mc s x, z, rfl, rfl, by omega, sim_held hsim2 h106 h121, hrest', H.sel [1, 2, 3, 4, 5, 6, 7] rfl rfl⟩, F.to (by repeat (first | exact trivial | refine Le.cons rfl ?_))⟩
         ·
          replace h121 := notF h121
          refine wp_skip ?_
          refine hK40 _ _ ?_; clear hK40
          refine cSeq (fun K42 hK42 => ?_)
          refine cReg ?_
          refine sLr Tryd.underlying29 rfl ?si F rfl rfl rfl (H.whole 7 rfl) ?_
          case si => exact info_size Tryd.sizeOf29
          clear F a; intro a F
          refine sLrB Tryd.underlying41 rfl Tryd.sizeOf41 F rfl rfl rfl (H.whole 1 rfl) ?_
          clear F a; intro a F
          refine sFa (f := 0) (k := 0) Tryd.underlying50 rfl Tryd.sizeOf5 rfl rfl F rfl rfl rfl ?_
          clear F a; intro a F
          refine sLd Tryd.isAgg5 F rfl rfl rfl (H.cell 0 rfl rfl) ?_
          clear F a; intro a F
          refine sCv Tryd.underlying5 Tryd.underlying3 F rfl rfl rfl (wrapB _) ?_
          clear F a; intro a F
          refine sCall Tryd.call21 F rfl rfl rfl (move_any _ q _ (hpq H 6 5 rfl rfl) (hN.own H) z (x.t.toNat : Int)) ?_
          rintro e w ⟨rfl, hb⟩
          replace H := H.grow hb; clear hb
          refine ⟨_, rfl, ?_⟩
          clear F a; intro a F
          refine sMv F rfl rfl rfl ?_
          clear F a; intro a F
          refine sExt F rfl rfl rfl rfl ?_
          clear F a; intro a F
          refine sExt F rfl rfl rfl rfl ?_
          clear F a; intro a F
          refine sSrB H 1 Tryd.sizeOf41 F rfl rfl rfl rfl (by omega) ?_
          clear H; intro w H
          rw [lay_all] at H
          refine sAs F rfl rfl rfl ?_
          clear F a; intro a F
          refine sNil ?_
          refine hK42 _ _ ?_; clear hK42
          refine cSeq (fun K43 hK43 => ?_)
          refine cReg ?_
          refine sMv F rfl rfl rfl ?_
          clear F a; intro a F
          refine sBin F rfl rfl rfl rfl bNeq ?_
          clear F a; intro a F
          refine sNil ?_
          refine hK43 _ _ ?_; clear hK43
          refine cIf F rfl (fun h132 => ?_) (fun h132 => ?_)
          ·
           replace h132 := bneT h132
           first
           | exact absurd (sim_move hsim hsim2 (noA h106)).1 h132
           | exact absurd (sim_move hsim hsim2 (noC h121)).1 h132
          ·
           replace h132 := bneF h132
           have hmv : moveE q z (x.t.toNat : Int) = 0 ∧ moveS q z (x.t.toNat : Int) = stepP q z x.t.toNat ∧ SimF q mc (stepM q mc s x) (stepP q z x.t.toNat) := by
            first
            | exact sim_move hsim hsim2 (noA h106)
            | exact sim_move hsim hsim2 (noC h121)
           rw [hmv.2.1] at H
           refine wp_skip ?_
           refine hK34 _ _ ?_; clear hK34
           refine cReg ?_
           refine sBin F rfl rfl rfl rfl (bAddN (j := 1) ?_) ?_
           focus omega
           clear F a; intro a F
           refine sMv F rfl rfl rfl ?_
           clear F a; intro a F
           refine sNil ?_
           first
           | exact ⟨_, by omega, _, ⟨j + 1, stepM q mc s x, stepP q z x.t.toNat, rfl, rfl, by omega, hmv.2.2, hrest', H.sel [1, 2, 3, 4, 5, 6, 7] rfl rfl⟩, F.to (by repeat (first | exact trivial | refine Le.cons rfl ?_))⟩
           | exact ⟨_, by omega, _, ⟨j + 1, stepM q mc s x, z, rfl, rfl, by omega, sim_held hsim2 h106 h121, hrest', H.sel [1, 2, 3, 4, 5, 6, 7] rfl rfl⟩, F.to (by repeat (first | exact trivial | refine Le.cons rfl ?_))⟩
       ·
        refine sSk F rfl rfl ?_
        clear F a; intro a F
        refine sSk F rfl rfl ?_
        clear F a; intro a F
        refine sSk F rfl rfl ?_
        clear F a; intro a F
        refine sPk F rfl rfl rfl rfl ?_
        clear F a; intro a F
        refine sAs F rfl rfl rfl ?_
        clear F a; intro a F
        refine sNil ?_
        refine hK36 _ _ ?_; clear hK36
        refine cSeq (fun K44 hK44 => ?_)
        refine cSeq (fun K45 hK45 => ?_)
        refine cReg ?_
        refine sLr Tryd.underlying29 rfl ?si F rfl rfl rfl (H.whole 7 rfl) ?_
        case si => exact info_size Tryd.sizeOf29
        clear F a; intro a F
        refine sMv F rfl rfl rfl ?_
        clear F a; intro a F
        refine sLrB Tryd.underlying41 rfl Tryd.sizeOf41 F rfl rfl rfl (H.whole 2 rfl) ?_
        clear F a; intro a F
        refine sLr Tryd.underlying50 rfl ?si F rfl rfl rfl (H.whole 0 rfl) ?_
        case si => exact info_size Tryd.sizeOf50
        clear F a; intro a F
        refine sCall Tryd.call13 F rfl rfl rfl (moveM_any _ q _ (hpq H 6 5 rfl rfl) (hN.own H) mc s x) ?_
        rintro e w ⟨rfl, hb⟩
        replace H := H.grow hb; clear hb
        refine ⟨_, rfl, ?_⟩
        clear F a; intro a F
        refine sMv F rfl rfl rfl ?_
        clear F a; intro a F
        refine sExt F rfl rfl rfl rfl ?_
        clear F a; intro a F
        refine sExt F rfl rfl rfl rfl ?_
        clear F a; intro a F
        refine sSrB H 2 Tryd.sizeOf41 F rfl rfl rfl rfl (by omega) ?_
        clear H; intro w H
        rw [lay_all] at H
        refine sAs F rfl rfl rfl ?_
        clear F a; intro a F
        refine sNil ?_
        refine hK45 _ _ ?_; clear hK45
        refine cSeq (fun K46 hK46 => ?_)
        refine cReg ?_
        refine sMv F rfl rfl rfl ?_
        clear F a; intro a F
        refine sBin F rfl rfl rfl rfl bNeq ?_
        clear F a; intro a F
        refine sNil ?_
        refine hK46 _ _ ?_; clear hK46
        refine cIf F rfl (fun h120 => ?_) (fun h120 => ?_)
        ·
         replace h120 := bneT h120
         exact absurd eE1 h120
        ·
         replace h120 := bneF h120
         rw [eS1] at H
         refine wp_skip ?_
         refine hK44 _ _ ?_; clear hK44
         refine cSeq (fun K47 hK47 => ?_)
         refine cSeq (fun K48 hK48 => ?_)
         refine cReg ?_
         refine sMv F rfl rfl rfl ?_
         clear F a; intro a F
         refine sNil ?_
         refine hK48 _ _ ?_; clear hK48
         refine cIfF F rfl ?_
         refine wp_skip ?_
         refine hK47 _ _ ?_; clear hK47
         refine cSeq (fun K49 hK49 => ?_)
         refine cReg ?_
         refine sLr Tryd.underlying29 rfl ?si F rfl rfl rfl (H.whole 7 rfl) ?_
         case si => exact info_size Tryd.sizeOf29
         clear F a; intro a F
         refine sLrB Tryd.underlying41 rfl Tryd.sizeOf41 F rfl rfl rfl (H.whole 1 rfl) ?_
         clear F a; intro a F
         refine sFa (f := 0) (k := 0) Tryd.underlying50 rfl Tryd.sizeOf5 rfl rfl F rfl rfl rfl ?_
         clear F a; intro a F
         refine sLd Tryd.isAgg5 F rfl rfl rfl (H.cell 0 rfl rfl) ?_
         clear F a; intro a F
         refine sCv Tryd.underlying5 Tryd.underlying3 F rfl rfl rfl (wrapB _) ?_
         clear F a; intro a F
         refine sCall Tryd.call21 F rfl rfl rfl (move_any _ q _ (hpq H 6 5 rfl rfl) (hN.own H) z (x.t.toNat : Int)) ?_
         rintro e w ⟨rfl, hb⟩
         replace H := H.grow hb; clear hb
         refine ⟨_, rfl, ?_⟩
         clear F a; intro a F
         refine sMv F rfl rfl rfl ?_
         clear F a; intro a F
         refine sExt F rfl rfl rfl rfl ?_
         clear F a; intro a F
         refine sExt F rfl rfl rfl rfl ?_
         clear F a; intro a F
         refine sSrB H 1 Tryd.sizeOf41 F rfl rfl rfl rfl (by omega) ?_
         clear H; intro w H
         rw [lay_all] at H
         refine sAs F rfl rfl rfl ?_
         clear F a; intro a F
         refine sNil ?_
         refine hK49 _ _ ?_; clear hK49
         refine cSeq (fun K50 hK50 => ?_)
         refine cReg ?_
         refine sMv F rfl rfl rfl ?_
         clear F a; intro a F
         refine sBin F rfl rfl rfl rfl bNeq ?_
         clear F a; intro a F
         refine sNil ?_
         refine hK50 _ _ ?_; clear hK50
         refine cIf F rfl (fun h132 => ?_) (fun h132 => ?_)
         ·
          replace h132 := bneT h132
          first
          | exact absurd (sim_move hsim hsim2 (noA h106)).1 h132
          | exact absurd (sim_move hsim hsim2 (noC h121)).1 h132
         ·
          replace h132 := bneF h132
          have hmv : moveE q z (x.t.toNat : Int) = 0 ∧ moveS q z (x.t.toNat : Int) = stepP q z x.t.toNat ∧ SimF q mc (stepM q mc s x) (stepP q z x.t.toNat) := by
           first
           | exact sim_move hsim hsim2 (noA h106)
           | exact sim_move hsim hsim2 (noC h121)
          rw [hmv.2.1] at H
          refine wp_skip ?_
          refine hK34 _ _ ?_; clear hK34
          refine cReg ?_
          refine sBin F rfl rfl rfl rfl (bAddN (j := 1) ?_) ?_
          focus omega
          clear F a; intro a F
          refine sMv F rfl rfl rfl ?_
          clear F a; intro a F
          refine sNil ?_
          first
          | exact ⟨_, by omega, _, ⟨j + 1, stepM q mc s x, stepP q z x.t.toNat, rfl, rfl, by omega, hmv.2.2, hrest', H.sel [1, 2, 3, 4, 5, 6, 7] rfl rfl⟩, F.to (by repeat (first | exact trivial | refine Le.cons rfl ?_))⟩
          | exact ⟨_, by omega, _, ⟨j + 1, stepM q mc s x, z, rfl, rfl, by omega, sim_held hsim2 h106 h121, hrest', H.sel [1, 2, 3, 4, 5, 6, 7] rfl rfl⟩, F.to (by repeat (first | exact trivial | refine Le.cons rfl ?_))⟩
      ·
       replace h97 := of_decide_eq_false h97
       obtain rfl : j = r.length := by omega
       rw [List.drop_length] at hrest
       obtain rfl := hrest.nil
       obtain ⟨hez, hfin⟩ := sim_end hsim hz
       have hO : (rightS q z && (enabledP q z).isEmpty) = true := by rw [hsim.rz, hez]; rfl
       refine wp_exit ?_
       refine hK30 _ _ ?_; clear hK30
       refine cSeq (fun K51 hK51 => ?_)
       refine cRegRO (by kernel_rfl) H ?_
       replace H := H.drew
       refine eTake (k := 0) (i := 0) rfl (by kernel_rfl) F rfl rfl rfl rfl (fun w H => rLr Tryd.underlying29 rfl ?si F rfl (H.whole 6 rfl)) (H.sel [0, 1, 2, 3, 4, 5, 6] rfl rfl) (fun _ _ _ h => h) ?_
       case si => exact info_size Tryd.sizeOf29
       clear F a; intro a F
       refine eTake (k := 1) (i := 1) rfl (by kernel_rfl) F rfl rfl rfl rfl (fun w H => rLrB Tryd.underlying41 rfl Tryd.sizeOf41 F rfl (H.whole 0 rfl)) (H.sel [0, 1, 2, 3, 4, 5, 6] rfl rfl) (fun _ _ _ h => h) ?_
       clear F a; intro a F
       refine eOne (k := 2) (i := 2) rfl (by kernel_rfl) F rfl (oCall Tryd.call22 F rfl rfl (overA_any _ q _ (hpq H 5 4 rfl rfl) (hN.own H) z) ?_)
       rintro e w ⟨rfl, hb⟩
       replace H := H.grow hb; clear hb
       refine ⟨_, rfl, ?_⟩
       clear F a; intro a F
       refine ePartO (by kernel_rfl) H ?_
       refine eTakeF (k := 3) (i := 3) rfl (by kernel_rfl) F rfl rfl rfl (fun w => rMv F rfl) (H.sel [0, 1, 2, 3, 4, 5, 6] rfl rfl) (fun _ _ _ h => h) ?_
       clear F a; intro a F
       refine F.split 137 rfl ?_ ?_ <;> (clear F; intro h137 F)
       ·
        refine eTake (k := 4) (i := 4) rfl (by kernel_rfl) F rfl rfl rfl rfl (fun w H => rLrB Tryd.underlying41 rfl Tryd.sizeOf41 F rfl (H.whole 0 rfl)) (H.sel [0, 1, 2, 3, 4, 5, 6] rfl rfl) (fun _ _ _ h => h) ?_
        clear F a; intro a F
        refine eTake (k := 5) (i := 6) rfl (by kernel_rfl) F rfl rfl rfl rfl (fun w H => rLrB Tryd.underlying64 rfl Tryd.sizeOf64 F rfl (H.whole 2 rfl)) (H.sel [0, 1, 2, 3, 4, 5, 6] rfl rfl) (fun _ _ _ h => h) ?_
        clear F a; intro a F
        refine eOne (k := 6) (i := 5) rfl (by kernel_rfl) F rfl (oCall Tryd.call20 F rfl rfl (final_any z _) ?_)
        rintro e w ⟨rfl, hb⟩
        replace H := H.grow hb; clear hb
        refine ⟨_, rfl, ?_⟩
        clear F a; intro a F
        refine eKeep (H.sel [0, 1, 2, 3, 4, 5, 6] rfl rfl) ?_
        refine eTakeF (k := 7) (i := 7) rfl (by kernel_rfl) F rfl rfl rfl (fun w => rBin F rfl rfl (bEqY eT64 gT64 rfl)) (H.sel [0, 1, 2, 3, 4, 5, 6] rfl rfl) (fun _ _ _ h => h) ?_
        clear F a; intro a F
        refine eTakeF (k := 8) (i := 8) rfl (by kernel_rfl) F rfl rfl rfl (fun w => rPk F rfl rfl) (H.sel [0, 1, 2, 3, 4, 5, 6] rfl rfl) (fun _ _ _ h => h) ?_
        clear F a; intro a F
        refine eTakeF (k := 9) (i := 9) rfl (by kernel_rfl) F rfl rfl rfl (fun w => rMv F rfl) (H.sel [0, 1, 2, 3, 4, 5, 6] rfl rfl) (fun _ _ _ h => h) ?_
        clear F a; intro a F
        refine F.split 143 rfl ?_ ?_ <;> (clear F; intro h143 F)
        ·
         refine eOne (k := 10) (i := 10) rfl (by kernel_rfl) F rfl (oCall Tryd.call12 F rfl rfl (awake14_any _ (hN.own H)) ?_)
         rintro e w ⟨rfl, hb⟩
         replace H := H.grow hb; clear hb
         refine ⟨_, rfl, ?_⟩
         clear F a; intro a F
         refine ePartO (by kernel_rfl) H ?_
         refine eTakeF (k := 11) (i := 11) rfl (by kernel_rfl) F rfl rfl rfl (fun w => rPk F rfl rfl) (H.sel [0, 1, 2, 3, 4, 5, 6] rfl rfl) (fun _ _ _ h => h) ?_
         clear F a; intro a F
         refine eTakeF (k := 12) (i := 12) rfl (by kernel_rfl) F rfl rfl rfl (fun w => rAs F rfl) (H.sel [0, 1, 2, 3, 4, 5, 6] rfl rfl) (fun _ _ _ h => h) ?_
         clear F a; intro a F
         refine eNil (k := 13) (by kernel_rfl) ?_
         refine hK51 _ _ ?_; clear hK51
         refine wp_ret ?_
         refine bRet Tryd.results6 F rfl ?_
         exact ⟨rfl, H.below⟩
        ·
         exact notEq hfin h143
       ·
        exact notEq hO h137
end Go.Proofs.YtjephfjnohgcbaaDoor
