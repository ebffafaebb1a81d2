/-
  WALK2. Package path: writes. Conditions: the thread lies in memory and is valid; the domain lies in memory.
-/
import Derived.Test.YtklpiodciblabaaGreatDoorSqF
set_option linter.unusedSimpArgs false
set_option linter.unusedVariables false
namespace Go.Proofs.YtklpiodciblabaaGreatDoor
open Go.Proofs.Tryz
open Go.RowKit
set_option maxRecDepth 100000
/-! ### What is marked -/
def wCells (W : Nat → Bool) : List Value := (List.range 256).map fun v => .bool (W v)
theorem wc_at {W : Nat → Bool} {k : Nat} (h : k < 256) : (wCells W)[k]? = some (.bool (W k)) := by
  unfold wCells; rw [List.getElem?_map, List.getElem?_range h]; rfl
theorem wc_set {W : Nat → Bool} {k : Nat} (h : k < 256) : (wCells W).set k (.bool true) = wCells fun v => W v || v == k := by
  refine List.ext_getElem? fun i => ?_
  rcases Nat.lt_or_ge i 256 with hi | hi
  · rw [List.getElem?_set, wc_at hi]
    by_cases he : k = i
    · subst he
      rw [if_pos rfl, if_pos (by simp [wCells, h]), wc_at hi, beq_self_eq_true, Bool.or_true]
    · rw [if_neg he, wc_at hi]
      have : (i == k) = false := by simpa using fun e : i = k => he e.symm
      rw [this, Bool.or_false]
  · rw [List.getElem?_eq_none (by simp [wCells]; omega), List.getElem?_eq_none (by simp [wCells]; omega)]
def evW (e : Ev) (v : Nat) : Bool := e.kind == 2 && v == e.val.toNat
def wrote (r : RunP) (j v : Nat) : Bool := (List.range j).any fun k => evW (r.ev k) v
def wroteL (rs : List RunP) (v : Nat) : Bool := rs.any fun r => wrote r r.many v
theorem wrote_succ (r : RunP) (j v : Nat) : wrote r (j + 1) v = (wrote r j v || evW (r.ev j) v) := by
  unfold wrote; rw [List.range_succ, List.any_append]; simp
theorem wroteL_snoc (rs : List RunP) (r : RunP) (v : Nat) : wroteL (rs ++ [r]) v = (wroteL rs v || wrote r r.many v) := by
  unfold wroteL; rw [List.any_append]; simp
def byW (k : Nat) (W : Nat → Bool) : List UInt8 := ((List.range k).filter W).map UInt8.ofNat
theorem byW_T {k : Nat} {W : Nat → Bool} (h : W k = true) : byW (k + 1) W = byW k W ++ [UInt8.ofNat k] := by
  unfold byW; rw [List.range_succ, List.filter_append]; simp [h]
theorem byW_F {k : Nat} {W : Nat → Bool} (h : W k = false) : byW (k + 1) W = byW k W := by
  unfold byW; rw [List.range_succ, List.filter_append]; simp [h]
theorem byW_le (k : Nat) (W : Nat → Bool) : (byW k W).length ≤ k := by
  unfold byW; rw [List.length_map]
  exact Nat.le_trans (List.length_filter_le _ _) (by simp)
def writesR (l : List Ins) (dom : List UInt8) : List UInt8 × Bool := if 4096 < (endsL l dom).length then ([], false) else (byW 256 (wroteL (endsL l dom)), true)
theorem ev_range {w : World} {b : Nat} {r : RunP} (hB : RunAt w b r) (hm : r.many ≤ 24) {j : Nat} (hj : j < r.many) : w.rangeAt b (19 + j * 7) (r.ev j).cells := fun i v hv => by
  have hi : i < 7 := (List.getElem?_eq_some_iff.1 hv).1
  rw [Ev.cells_at _ hi] at hv
  obtain rfl := Option.some.inj hv
  exact hB.cell _ (cell_ev r (by omega) hi)
theorem w_zero : (Value.agg Tryz.zeroCells113).cells.toList = wCells fun _ => false := by kernel_rfl
def WritesPost (q : List UInt8 × Bool) (w0 : World) (e : Ending) (w' : World) : Prop :=
  ∃ (A : Option Addr) (C : Nat), e = .returned (.tuple #[.slice A q.1.length C, .bool q.2]) ∧ Own w0 none w' [.rws 5 1 (.slice A q.1.length C) (q.1.map fun x => [b8 x])]
namespace Md
set_option maxHeartbeats 4000000 in
theorem writes_any (l : List Ins) (dom : List UInt8) (hl : threadOk 6 l = true) (A : Option Addr) (C : Nat) (DA : Option Addr) (DC : Nat) (w0 : World) (hA : RowsAt w0 A 10 (l.map Ins.cells)) (hD : BytesAt w0 DA dom) (hdn : dom.length ≤ 1000000) :
    Calls Tryz.prog 33 #[.slice A l.length C, .slice DA dom.length DC] w0 (WritesPost (writesR l dom) w0) := by
  have H := Own.start w0 none
  have hl12 := thr_len hl
  refine enterM func33 rfl ntmps33 rfl (fun a F => ?_);refine cSeq (fun K1 hK1 => ?_);refine cReg ?_;refine sAl H zeroValue23 F rfl rfl ?_;clear F a H; intro b4 a w F H;refine sAl H zeroValue4 F rfl rfl ?_;clear F a H; intro b5 a w F H;refine sNil ?_;refine hK1 _ _ ?_; clear hK1;refine cSeq (fun K2 hK2 => ?_);refine cReg ?_;refine sAl H zeroValue113 F rfl rfl ?_;clear F a H; intro b6 a w F H;rw [w_zero] at H;refine sNil ?_;refine hK2 _ _ ?_; clear hK2;refine cSeq (fun K3 hK3 => ?_);refine cReg ?_;refine sAl H zeroValue3 F rfl rfl ?_;clear F a H; intro b7 a w F H;refine sSt H 0 sizeOf3 F rfl rfl rfl rfl rfl rfl ?_;clear H; intro w H;refine sNil ?_;refine hK3 _ _ ?_; clear hK3;refine cSeq (fun K4 hK4 => ?_);refine cSeq (fun K5 hK5 => ?_);refine cReg ?_;refine sMv F rfl rfl rfl (qMv rfl rfl rfl ?_);clear F a;intro a F;refine sCall call35 F rfl rfl rfl (ends_any A l.length C DA dom.length DC _) ?_;rintro e w ⟨b2, b3, rfl, H2⟩;replace H := H.join H2; clear H2;refine ⟨_, rfl, ?_⟩;clear F a; intro a F;refine sNil ?_;refine hK5 _ _ ?_; clear hK5;refine wp_block ?_
  have HU := (H.sel [2, 3, 5, 4, 1, 0] rfl rfl)
  refine rfOwnK 4 F rfl rfl (enters_of func59 (by kernel_rfl) rfl) HU (ends_iter l dom hl A C DA DC w0 hA hdn _ b2 b3 (fun w H => H.cell 0 rfl rfl) (fun w H => H.cell 1 rfl rfl) (fun w H => hD.own H)) (fun pre us' => us' = [.blk b7 [.int .i64 (pre.length : Int)] 3, .blk b6 (wCells (wroteL pre)) 113, .blk b4 [.slice none 0 0] 23, .blk b5 [.bool false] 4] ∧ pre.length ≤ 4096) (fun c pre us' => c = .ret ∧ us' = [.blk b7 [.int .i64 ((pre.length - 1 : Nat) : Int)] 3, .blk b6 (wCells (wroteL (pre.take (pre.length - 1)))) 113, .blk b4 [.slice none 0 0] 23, .blk b5 [.bool false] 4] ∧ 4096 < pre.length) (⟨rfl, Nat.zero_le _⟩) (fun v => [(8, v)]) ?_ ?_ ?_ ?_
  ·
   clear HU H F a; intro lp9 a w v K hF hK;refine Md.cReg ?_;refine sAs hF rfl rfl rfl ?_;clear hF; intro a hF
   refine Md.sNil ?_ hF
   exact hK _ hF
  ·
   clear HU H F a; intro lp9 pre x bx w ps1 qs a hi hpx hox H F
   obtain ⟨rfl, hpm⟩ := hi
   have hm24 : x.many ≤ 24 := by have := hox.many; have := hox.pc; omega
   refine wp_block ?_;refine cSeq (fun K6 hK6 => ?_);refine cSeq (fun K7 hK7 => ?_);refine cReg ?_;refine sLd isAgg3 F rfl rfl rfl (H.cell 1 rfl rfl) (qBin rfl rfl rfl rfl bEql ?_);clear F a;intro a F;refine sNil ?_;refine hK7 _ _ ?_; clear hK7
   refine cIf F rfl (fun h19 => ?_) (fun h19 => ?_)
   ·
    replace h19 := beqT h19;refine cSeq (fun K8 hK8 => ?_);refine cReg ?_;refine sSt H 3 sizeOf23 F rfl rfl rfl rfl rfl rfl ?_;clear H; intro w H;refine sSt H 4 sizeOf4 F rfl rfl rfl rfl rfl rfl ?_;clear H; intro w H;refine sNil ?_;refine hK8 _ _ ?_; clear hK8;refine wp_ret ?_
    try simp only [Exit.inBlock, Exit.then]
    exact rRet _ ⟨rfl, rfl, by rw [List.length_append, List.length_singleton]; omega⟩ (by rw [List.length_append, List.length_singleton, Nat.add_sub_cancel, List.take_left' rfl]; exact H)
   replace h19 := beqF h19;refine wp_skip ?_;refine hK6 _ _ ?_; clear hK6;refine cSeq (fun K9 hK9 => ?_);refine cReg ?_;refine sLd isAgg3 F rfl rfl rfl (H.cell 1 rfl rfl) ?_;clear F a;intro a F
   refine sBin F rfl rfl rfl rfl (bAddI ?_) ?_
   focus omega
   clear F a; intro a F;refine sSt H 1 sizeOf3 F rfl rfl rfl rfl rfl rfl ?_;clear H; intro w H;refine sNil ?_;refine hK9 _ _ ?_; clear hK9;refine cSeq (fun K10 hK10 => ?_);refine cRegRO (by kernel_rfl) H ?_;replace H := H.drew;refine eTF 0 rfl (by kernel_rfl) F rfl rfl rfl (fun w=>rMv F rfl) H qq0 (qT 1 rfl (by kernel_rfl) rfl rfl rfl rfl (fun a F w H=>rNc F rfl) H qq0 (qTF 2 rfl (by kernel_rfl) rfl rfl rfl (fun a F w=>rFa (f := 5) (k := 19) underlying81 rfl sizeOf78 rfl rfl F rfl) H qq0 (qTF 3 rfl (by kernel_rfl) rfl rfl rfl (fun a F w=>rMv F rfl) H qq0 (qT 4 rfl (by kernel_rfl) rfl rfl rfl rfl (fun a F w H=>rNc F rfl) H qq0 (qTF 5 rfl (by kernel_rfl) rfl rfl rfl (fun a F w=>rFa (f := 4) (k := 18) underlying81 rfl sizeOf3 rfl rfl F rfl) H qq0 (qT 6 rfl (by kernel_rfl) rfl rfl rfl rfl (fun a F w H=>rLd isAgg3 F rfl (show _ = some (Value.int .i64 (x.many : Int)) from H.cell 0 rfl (cell_many x))) H qq0 ?_))))));clear F a;intro a F
   refine eTake (k := 7) (i := 7) rfl (by kernel_rfl) F rfl rfl rfl rfl (fun w H => rSlAH underlying78 sizeOf34 F rfl rfl ?_) H (fun _ _ _ h => h) ?_
   focus (first | omega | decide | (simp; omega))
   clear F a; intro a F;refine eT 8 rfl (by kernel_rfl) F rfl rfl rfl rfl (fun w H=>rLen underlying24 F rfl) H qq0 (qTF 9 rfl (by kernel_rfl) rfl rfl rfl (fun a F w=>rMv F rfl) H qq0 ?_);clear F a;intro a F;refine eNil (k := 10) (by kernel_rfl) ?_;refine hK10 _ _ ?_; clear hK10;refine wp_block ?_
   refine cLoopR [4, 5, 6, 29, 30] (fun m ups w => ∃ j : Nat, m = x.many - j ∧ ups = [(31, .int .i64 ((j : Nat) : Int))] ∧ j ≤ x.many ∧ Own w0 none w (.blk bx x.cells 81 :: .blk b7 [.int .i64 ((pre.length + 1 : Nat) : Int)] 3 :: .blk b6 (wCells fun v => wroteL pre v || wrote x j v) 113 :: .blk b4 [.slice none 0 0] 23 :: .blk b5 [.bool false] 4 :: qs)) F (x.many) [(31, .int .i64 ((0 : Nat) : Int))] (by repeat (first | exact SubR.nil | (apply SubR.cons; · rfl))) ?_ ?_ ?_
   · have e0 : (fun v => wroteL pre v || wrote x 0 v) = wroteL pre := funext fun v => by simp [wrote]
     refine ⟨0, rfl, rfl, Nat.zero_le _, ?_⟩
     rw [e0]
     exact H
   · repeat (first | exact trivial | refine Le.cons rfl ?_)
   clear F
   clear H
   intro m ups a w hI F
   obtain ⟨j, rfl, rfl, hj, H⟩ := hI
   refine cSeq (fun K11 hK11 => ?_);refine cReg ?_;refine sBin F rfl rfl rfl rfl bLss ?_;clear F a;intro a F;refine sNil ?_;refine hK11 _ _ ?_; clear hK11;refine cSeq (fun K12 hK12 => ?_)
   refine cIf F rfl (fun h32 => ?_) (fun h32 => ?_)
   ·
    replace h32 := of_decide_eq_true h32;refine wp_skip ?_;refine hK12 _ _ ?_; clear hK12;refine cSeq (fun K13 hK13 => ?_);refine wp_block ?_;refine cSeq (fun K14 hK14 => ?_);refine cReg ?_
    refine sIx underlying24 sizeOf34 F rfl rfl rfl rfl ?_ ?_
    focus (first | omega | decide | (simp; omega))
    clear F a; intro a F
    refine sLr underlying34 rfl ?si F rfl rfl rfl (ev_range (H.blk 0 rfl) hm24 (by omega)) ?_
    case si => exact info_size sizeOf34
    clear F a; intro a F;refine sAl H zeroValue34 F rfl rfl ?_;clear F a H; intro b10 a w F H
    refine sSr H 0 ?si F rfl rfl rfl ?s1 rfl rfl ?_
    case si => exact info_size sizeOf34
    case s1 => first | rfl | (repeat (first | exact one_nil | (apply one_cons; · first | rfl | assumption | exact one_bif rfl rfl)))
    clear H; intro w H;refine sNil ?_;refine hK14 _ _ ?_; clear hK14;refine cSeq (fun K15 hK15 => ?_);refine cReg ?_;refine sFa (f := 1) (k := 1) underlying34 rfl sizeOf5 rfl rfl F rfl rfl rfl (qLd isAgg5 rfl rfl rfl (H.cell 0 rfl rfl) (qBin rfl rfl rfl rfl (bEqlB (y := 2)) ?_));clear F a;intro a F;refine sNil ?_;refine hK15 _ _ ?_; clear hK15
    refine cIf F rfl (fun h37 => ?_) (fun h37 => ?_)
    ·
     replace h37 := beqT h37
     have ej : (fun v => (wroteL pre v || wrote x j v) || v == (x.ev j).val.toNat) = fun v => wroteL pre v || wrote x (j + 1) v := funext fun v => by
       rw [wrote_succ, Bool.or_assoc, evW, h37]; rfl
     refine cReg ?_;refine sFa (f := 3) (k := 3) underlying34 rfl sizeOf5 rfl rfl F rfl rfl rfl (qLd isAgg5 rfl rfl rfl (H.cell 0 rfl rfl) ?_);clear F a;intro a F
     refine sIaZ1 underlying113 sizeOf4 F rfl rfl rfl rfl ?_ ?_
     focus exact UInt8.toNat_lt _
     clear F a; intro a F;refine sSt H 3 sizeOf4 F rfl rfl rfl rfl rfl (wc_at (UInt8.toNat_lt _)) ?_;clear H; intro w H;rw [wc_set (UInt8.toNat_lt _)] at H;refine sNil ?_;refine hK13 _ _ ?_; clear hK13;refine cReg ?_
     refine sBin F rfl rfl rfl rfl (bAddN (j := 1) ?_) ?_
     focus omega
     clear F a; intro a F;refine sMv F rfl rfl rfl ?_;clear F a;intro a F;refine sNil ?_;rw [ej] at H
     exact ⟨_, by omega, _, ⟨j + 1, rfl, rfl, by omega, H.tail⟩, F.toD (by repeat (first | exact trivial | refine Le.cons rfl ?_))⟩
    replace h37 := beqF h37
    have ej : (fun v => wroteL pre v || wrote x j v) = fun v => wroteL pre v || wrote x (j + 1) v := funext fun v => by
      have : ((x.ev j).kind == 2) = false := by simpa using h37
      rw [wrote_succ, evW, this]; simp
    refine wp_skip ?_;refine hK13 _ _ ?_; clear hK13;refine cReg ?_
    refine sBin F rfl rfl rfl rfl (bAddN (j := 1) ?_) ?_
    focus omega
    clear F a; intro a F;refine sMv F rfl rfl rfl ?_;clear F a;intro a F;refine sNil ?_;rw [ej] at H
    exact ⟨_, by omega, _, ⟨j + 1, rfl, rfl, by omega, H.tail⟩, F.toD (by repeat (first | exact trivial | refine Le.cons rfl ?_))⟩
   replace h32 := of_decide_eq_false h32;refine wp_exit ?_
   try simp only [Exit.inBlock, Exit.then, if_true]
   repeat (first | rw [if_pos rfl] | rw [if_neg (by decide)])
   obtain rfl : j = x.many := by omega
   have el : (fun v => wroteL pre v || wrote x x.many v) = wroteL (pre ++ [x]) := funext fun v => (wroteL_snoc pre x v).symm
   rw [el] at H
   exact rNext _ ⟨rfl, by rw [List.length_append, List.length_singleton]; omega⟩ (by rw [List.length_append, List.length_singleton]; exact H)
  ·
   intro D w us' hi H
   obtain ⟨rfl, hpm⟩ := hi
   refine hK4 _ _ ?_; clear hK4;refine cSeq (fun K16 hK16 => ?_);refine cReg ?_;refine sAs F rfl rfl rfl ?_;clear F a;intro a F
   replace H := H.nilRws 5 1
   refine sNil ?_;refine hK16 _ _ ?_; clear hK16;refine cSeq (fun K17 hK17 => ?_);refine cSeq (fun K18 hK18 => ?_);refine cReg ?_
   refine sLr underlying113 rfl ?si F rfl rfl rfl (H.whole 3 rfl) ?_
   case si => exact info_size sizeOf113
   clear F a; intro a F;refine sMv F rfl rfl rfl ?_;clear F a;intro a F;refine sNil ?_;refine hK18 _ _ ?_; clear hK18;refine wp_block ?_
   refine cLoopR [4, 5, 42] (fun m ups w => ∃ (k : Nat) (A4 : Option Addr) (c4 : Nat), m = 256 - k ∧ ups = [(11, .slice A4 (byW k (wroteL (endsL l dom))).length c4), (43, .int .i64 ((k : Nat) : Int))] ∧ k ≤ 256 ∧ Own w0 none w [.rws 5 1 (.slice A4 (byW k (wroteL (endsL l dom))).length c4) ((byW k (wroteL (endsL l dom))).map fun x => [Go.Proofs.YtklpiodciblabaaGreatDoor.b8 x]), .obj D (.deferred (some [])), .blk b4 [.slice none 0 0] 23, .blk b5 [.bool false] 4]) F (256) [(11, .slice none 0 0), (43, .int .i64 ((0 : Nat) : Int))] (by repeat (first | exact SubR.nil | (apply SubR.cons; · rfl))) ?_ ?_ ?_
   · exact ⟨0, none, 0, rfl, rfl, Nat.zero_le _, H.sel [0, 1, 4, 5] rfl rfl⟩
   · repeat (first | exact trivial | refine Le.cons rfl ?_)
   clear F
   clear H
   intro m ups a w hI F
   obtain ⟨k, A4, c4, rfl, rfl, hk, H⟩ := hI
   refine cSeq (fun K19 hK19 => ?_);refine cReg ?_;refine sBin F rfl rfl rfl rfl bLss ?_;clear F a;intro a F;refine sNil ?_;refine hK19 _ _ ?_; clear hK19;refine cSeq (fun K20 hK20 => ?_)
   refine cIf F rfl (fun h44 => ?_) (fun h44 => ?_)
   ·
    replace h44 := of_decide_eq_true h44;refine wp_skip ?_;refine hK20 _ _ ?_; clear hK20;refine cSeq (fun K21 hK21 => ?_);refine wp_block ?_;refine cSeq (fun K22 hK22 => ?_);refine cReg ?_;refine sMv F rfl rfl rfl (qIdG underlying113 sizeOf4 isAgg4 rfl rfl rfl rfl (by omega) (wc_at (by omega)) (qAs rfl rfl rfl (qAs rfl rfl rfl ?_)));clear F a;intro a F;refine sNil ?_;refine hK22 _ _ ?_; clear hK22;refine cSeq (fun K23 hK23 => ?_);refine cReg ?_;refine sMv F rfl rfl rfl ?_;clear F a;intro a F;refine sNil ?_;refine hK23 _ _ ?_; clear hK23
    refine cIf F rfl (fun h47 => ?_) (fun h47 => ?_)
    ·
     refine cReg ?_;refine sMv F rfl rfl rfl (qMv rfl rfl rfl (qCv underlying3 underlying5 rfl rfl rfl (wrap8 _) ?_));clear F a;intro a F;refine sBs1 H underlying23 sizeOf5 zeroValue5 rfl F rfl rfl rfl rfl ?_;clear F a H; intro b51 a w F H
     refine sApp1 (bytes := 1) H 1 underlying23 typeInfo5 rfl rfl rfl rfl rfl rfl F rfl rfl rfl rfl rfl (H.whole 0 rfl) rfl ?s1 ?s2 ?_
     case s1 => first | rfl | (repeat (first | exact one_nil | (apply one_cons; · first | rfl | assumption | exact one_bif rfl rfl)))
     case s2 => (rw [List.length_map]; have := byW_le k (wroteL (endsL l dom)); omega)
     clear F a H; intro A52 c52 a w F H;refine sAs F rfl rfl rfl ?_;clear F a;intro a F;refine sNil ?_;refine hK21 _ _ ?_; clear hK21;refine cReg ?_
     refine sBin F rfl rfl rfl rfl (bAddN (j := 1) ?_) ?_
     focus omega
     clear F a; intro a F;refine sMv F rfl rfl rfl ?_;clear F a;intro a F;refine sNil ?_
     first
     | (have hT2 : wroteL (endsL l dom) k = true := h47
        have e9 : ((byW k (wroteL (endsL l dom))).map fun x => [Go.Proofs.YtklpiodciblabaaGreatDoor.b8 x]) ++ [[Value.int .u8 ((UInt8.ofNat k).toNat : Int)]] = (byW (k + 1) (wroteL (endsL l dom))).map fun x => [Go.Proofs.YtklpiodciblabaaGreatDoor.b8 x] := by rw [byW_T hT2, List.map_append]; rfl
        have e8 : ((byW (k + 1) (wroteL (endsL l dom))).map fun x => [Go.Proofs.YtklpiodciblabaaGreatDoor.b8 x]).length = (byW (k + 1) (wroteL (endsL l dom))).length := List.length_map _
        rw [e9, e8] at H F
        exact ⟨_, by omega, _, ⟨k + 1, _, _, rfl, rfl, by omega, H.tail.sel [0, 1, 2, 3] rfl rfl⟩, F.toD (by repeat (first | exact trivial | refine Le.cons rfl ?_))⟩)
     | (have hF2 : wroteL (endsL l dom) k = false := h47
        refine ⟨_, ?_, _, ⟨k + 1, A4, c4, rfl, rfl, by omega, ?_⟩, ?_⟩
        · omega
        · rw [byW_F hF2]; exact H.tail
        · rw [byW_F hF2]; exact F.toD (by repeat (first | exact trivial | refine Le.cons rfl ?_)))
    refine wp_skip ?_;refine hK21 _ _ ?_; clear hK21;refine cReg ?_
    refine sBin F rfl rfl rfl rfl (bAddN (j := 1) ?_) ?_
    focus omega
    clear F a; intro a F;refine sMv F rfl rfl rfl ?_;clear F a;intro a F;refine sNil ?_
    first
    | (have hT2 : wroteL (endsL l dom) k = true := h47
       have e9 : ((byW k (wroteL (endsL l dom))).map fun x => [Go.Proofs.YtklpiodciblabaaGreatDoor.b8 x]) ++ [[Value.int .u8 ((UInt8.ofNat k).toNat : Int)]] = (byW (k + 1) (wroteL (endsL l dom))).map fun x => [Go.Proofs.YtklpiodciblabaaGreatDoor.b8 x] := by rw [byW_T hT2, List.map_append]; rfl
       have e8 : ((byW (k + 1) (wroteL (endsL l dom))).map fun x => [Go.Proofs.YtklpiodciblabaaGreatDoor.b8 x]).length = (byW (k + 1) (wroteL (endsL l dom))).length := List.length_map _
       rw [e9, e8] at H F
       exact ⟨_, by omega, _, ⟨k + 1, _, _, rfl, rfl, by omega, H.sel [0, 1, 2, 3] rfl rfl⟩, F.toD (by repeat (first | exact trivial | refine Le.cons rfl ?_))⟩)
    | (have hF2 : wroteL (endsL l dom) k = false := h47
       refine ⟨_, ?_, _, ⟨k + 1, A4, c4, rfl, rfl, by omega, ?_⟩, ?_⟩
       · omega
       · rw [byW_F hF2]; exact H
       · rw [byW_F hF2]; exact F.toD (by repeat (first | exact trivial | refine Le.cons rfl ?_)))
   replace h44 := of_decide_eq_false h44;refine wp_exit ?_;refine hK17 _ _ ?_; clear hK17;refine cSeq (fun K24 hK24 => ?_);refine cReg ?_;refine sMv F rfl rfl rfl ?_;clear F a;intro a F;refine sSt H 2 sizeOf23 F rfl rfl rfl rfl rfl rfl ?_;clear H; intro w H;refine sSt H 3 sizeOf4 F rfl rfl rfl rfl rfl rfl ?_;clear H; intro w H;refine sNil ?_;refine hK24 _ _ ?_; clear hK24;refine wp_ret ?_;refine retM ?_;refine markM H 1 rfl ?_;clear H; intro w H;refine retM2 results33 F rfl rfl isAgg23 isAgg4 H 2 3 rfl rfl ?_
   first
   | (have e : writesR l dom = ([], false) := by unfold writesR; rw [if_pos (by omega)]
      rw [e]
      exact ⟨none, 0, rfl, (H.nilRws 5 1).sel [0] rfl rfl⟩)
   | (obtain rfl : k = 256 := by omega
      have e : writesR l dom = (byW 256 (wroteL (endsL l dom)), true) := by unfold writesR; rw [if_neg (by omega)]
      rw [e]
      exact ⟨A4, c4, rfl, H.sel [0] rfl rfl⟩)
  ·
   intro D c pre w us' hpx hi H
   obtain ⟨rfl, rfl, hpm⟩ := hi
   have hlen := hpx.length_le
   refine wp_ret ?_;simp only [Exit.inBlock, Exit.then];refine retM ?_;refine markM H 0 rfl ?_;clear H; intro w H;refine retM2 results33 F rfl rfl isAgg23 isAgg4 H 3 4 rfl rfl ?_
   first
   | (have e : writesR l dom = ([], false) := by unfold writesR; rw [if_pos (by omega)]
      rw [e]
      exact ⟨none, 0, rfl, (H.nilRws 5 1).sel [0] rfl rfl⟩)
   | (obtain rfl : k = 256 := by omega
      have e : writesR l dom = (byW 256 (wroteL (endsL l dom)), true) := by unfold writesR; rw [if_neg (by omega)]
      rw [e]
      exact ⟨A4, c4, rfl, H.sel [0] rfl rfl⟩)
end Md
end Go.Proofs.YtklpiodciblabaaGreatDoor
