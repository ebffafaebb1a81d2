/-
  WALK2. The law PathReads. Conditions: the slices lie in memory; the tables.
-/
import Derived.Test.YtklpiodciblabaaGreatDoorPl1
set_option linter.unusedSimpArgs false
set_option linter.unusedVariables false
namespace Go.Proofs.YtklpiodciblabaaGreatDoor
open Go.Proofs.Tryz
open Go.RowKit
set_option maxRecDepth 100000
theorem Bytes_n (A B : Option Addr) (CA CB n m : Nat) (l q : List UInt8) (w0 : World) (hA : RowsAt w0 A 1 (l.map fun x => [b8 x])) (hB : RowsAt w0 B 1 (q.map fun x => [b8 x])) (hn : n = l.length) (hm : m = q.length) :
    Calls Tryz.prog 22 #[.slice A n CA, .slice B m CB] w0 fun e w' => e = .returned (.bool (l == q)) ∧ Below w0.heap.size w0 w' := by
  subst hn hm
  exact Bytes_any A B CA CB l q w0 hA hB
theorem rows_take8 {w : World} {A : Option Addr} {l : List UInt8} (h : RowsAt w A 1 (l.map fun x => [b8 x])) (n : Nat) : RowsAt w A 1 ((l.take n).map fun x => [b8 x]) := fun j c hj => h j c (by
  rw [List.map_take, List.getElem?_take] at hj
  split at hj
  · exact hj
  · cases hj)
theorem take_len {l : List UInt8} {k : Nat} (h : k ≤ l.length) : k = (l.take k).length := by rw [List.length_take]; omega
set_option maxHeartbeats 8000000 in
theorem pathReads_any (A : Option Addr) (C : Nat) (l : List Ins) (RA : Option Addr) (RC : Nat) (reads : List UInt8) (mv : UInt8) (w0 : World) (hA : RowsAt w0 A 10 (l.map Ins.cells)) (hn : l.length ≤ 9223372036854775807) (hR : RowsAt w0 RA 1 (reads.map fun x => [b8 x])) (hrc : reads.length ≤ RC) (hrn : reads.length ≤ 140737488351232) (hN : NeedsAt w0) (hT : TabAt w0) :
    Calls Tryz.prog 9 #[.slice A l.length C, .slice RA reads.length RC, b8 mv] w0 fun e w' => e = .returned (.bool true) ∧ Below w0.heap.size w0 w' := by
  have H := Own.start w0 none
  refine enterF func9 rfl ntmps9 rfl (fun a F => ?_);refine cSR fun K1 hK1=>sAs F rfl rfl rfl (qNK hK1 (qSR fun K2 hK2=>qMv rfl rfl rfl (qMv rfl rfl rfl ?_)));clear hK1;clear F a;intro a F;refine sCall call11 F rfl rfl rfl (Follow_pl A C l.length l RA RC reads.length reads _ (hA.own H) rfl hn (RowsAt.own hR H) rfl (by omega) (hN.own H) (hT.own H)) ?_;rintro e w ⟨qp, hqp, rfl, H2⟩;replace H := H.join H2
  clear H2
  have hqs : smallP qp.path = true := by rw [hqp]; exact small_fol _ _
  refine ⟨_, rfl, ?_⟩;clear F a; intro a F;refine sMv F rfl rfl rfl (qExt rfl rfl rfl rfl (qExt rfl rfl rfl rfl (qExt rfl rfl rfl rfl ?_)));clear F a;intro a F;refine sAl H zeroValue28 F rfl rfl ?_;clear F a H; intro b7 a w F H
  refine sSr H 0 ?si F rfl rfl rfl ?s1 rfl rfl ?_
  case si => exact info_size sizeOf28
  case s1 => first | rfl | (repeat (first | exact one_nil | (apply one_cons; · first | rfl | assumption | exact one_bif rfl rfl)))
  clear H; intro w H;refine sAs F rfl rfl rfl (qAs rfl rfl rfl (qNK hK2 ?_));clear hK2;clear F a;intro a F;refine cSeq (fun K3 hK3 => ?_);refine cSR fun K4 hK4=>sMv F rfl rfl rfl ?_;clear F a;intro a F;refine sCall call26 F rfl rfl rfl (thread_any A C l 6 _ (hA.own H) (hN.own H) hn) ?_;rintro e w ⟨rfl, hb⟩;replace H := H.grow hb; clear hb;refine ⟨_, rfl, ?_⟩;clear F a; intro a F;refine sNot F rfl rfl rfl (qNK hK4 ?_);clear hK4;clear F a;intro a F
  refine cIf F rfl (fun h30 => ?_) (fun h30 => ?_)
  ·
   replace h30 := notT h30
   have hfb := followR_bad (show threadOk 6 l = false from h30) (reads := reads)
   refine cSR fun K5 hK5=>sMv F rfl rfl rfl (qBin rfl rfl rfl rfl bEql (qMv rfl rfl rfl ?_));clear F a;intro a F
   refine F.split 33 rfl ?_ ?_ <;> (clear F; intro h33 F)
   ·
    replace h33 := beqT h33;refine sMv F rfl rfl rfl (qNot rfl rfl rfl (qPk rfl rfl rfl rfl (qMv rfl rfl rfl ?_)));clear F a;intro a F
    refine F.split 37 rfl ?_ ?_ <;> (clear F; intro h37 F)
    ·
     replace h37 := notT h37
     refine sLr underlying28 rfl ?si F rfl rfl rfl (H.whole 0 rfl) ?_
     case si => exact info_size sizeOf28
     clear F a; intro a F;refine sBd (cs := zPl.cells) (places := [(0, 1), (1, 1), (2, 1), (3, 1), (4, 8)]) zeroValue28 underlying28 (by kernel_rfl) F rfl rfl rfl rfl ?_;clear F a;intro a F;refine sCall call13 F rfl rfl rfl (Same_any qp zPl _ (small_at (H.sel [1, 2, 3, 4] rfl rfl) hqs) (zPl_at _)) ?_;rintro e w ⟨rfl, hb⟩;replace H := H.grow hb; clear hb;refine ⟨_, rfl, ?_⟩;clear F a; intro a F;refine sPk F rfl rfl rfl rfl (qMv rfl rfl rfl ?_);clear F a;intro a F
     refine F.split 42 rfl ?_ ?_ <;> (clear F; intro h42 F)
     ·
      refine sCall call12 F rfl rfl rfl (awake8_any _ (hN.own H) (hT.own H)) ?_;rintro e w ⟨rfl, hb⟩;replace H := H.grow hb; clear hb;refine ⟨_, rfl, ?_⟩;clear F a; intro a F;refine sPk F rfl rfl rfl rfl (qAs rfl rfl rfl (qNK hK5 ?_));clear hK5;clear F a;intro a F;refine wp_ret ?_;simp only [Exit.then];refine bRet results9 F rfl ?_
      exact ⟨rfl, H.below⟩
     exact notEq8 (by rw [hqp, hfb]; exact same_self _) h42
    replace h37 := notF h37
    rw [hfb] at h37; cases h37
   replace h33 := beqF h33
   exact absurd (by rw [hfb]; rfl) h33
  replace h30 := notF h30
  have hl : threadOk 6 l = true := h30
  refine wp_skip (hK3 _ _ ?_);clear hK3;refine cSeq (fun K6 hK6 => ?_);refine cSR fun K7 hK7=>sMv F rfl rfl rfl (qBin rfl rfl rfl rfl bNeq (qMv rfl rfl rfl ?_));clear F a;intro a F
  refine F.split 47 rfl ?_ ?_ <;> (clear F; intro h47 F)
  ·
   replace h47 := bneT h47
   have hz := zero_of hl (reads := reads) (.inl (fun e => h47 (by rw [e]; rfl)))
   refine sSk F rfl rfl (qPk rfl rfl rfl rfl (qNK hK7 ?_));clear hK7;clear F a;intro a F;refine cIfT F rfl ?_;refine cSeq (fun K8 hK8 => ?_);refine cSR fun K9 hK9=>sMv F rfl rfl rfl (qBin rfl rfl rfl rfl bNeq (qMv rfl rfl rfl ?_));clear F a;intro a F
   refine F.split 52 rfl ?_ ?_ <;> (clear F; intro h52 F)
   ·
    replace h52 := bneT h52;refine sMv F rfl rfl rfl (qBin rfl rfl rfl rfl bNeq (qMv rfl rfl rfl ?_));clear F a;intro a F
    refine F.split 55 rfl ?_ ?_ <;> (clear F; intro h55 F)
    ·
     replace h55 := bneT h55
     exfalso
     rcases hz with h | h
     · rw [h] at h52; exact h52 rfl
     · rw [h] at h55; exact h55 rfl
    replace h55 := bneF h55;refine sMv F rfl rfl rfl (qPk rfl rfl rfl rfl (qPk rfl rfl rfl rfl (qMv rfl rfl rfl ?_)));clear F a;intro a F
    refine F.split 59 rfl ?_ ?_ <;> (clear F; intro h59 F)
    ·
     exfalso
     rcases hz with h | h
     · rw [h] at h52; exact h52 rfl
     · rw [h] at h59; cases h59
    refine sLr underlying28 rfl ?si F rfl rfl rfl (H.whole 0 rfl) ?_
    case si => exact info_size sizeOf28
    clear F a; intro a F;refine sBd (cs := zPl.cells) (places := [(0, 1), (1, 1), (2, 1), (3, 1), (4, 8)]) zeroValue28 underlying28 (by kernel_rfl) F rfl rfl rfl rfl ?_;clear F a;intro a F;refine sCall call13 F rfl rfl rfl (Same_any qp zPl _ (small_at (H.sel [1, 2, 3, 4] rfl rfl) hqs) (zPl_at _)) ?_;rintro e w ⟨rfl, hb⟩;replace H := H.grow hb; clear hb;refine ⟨_, rfl, ?_⟩;clear F a; intro a F;refine sNot F rfl rfl rfl (qPk rfl rfl rfl rfl (qNK hK9 ?_));clear hK9;clear F a;intro a F
    refine cIf F rfl (fun h64 => ?_) (fun h64 => ?_)
    ·
     replace h64 := notT h64
     exact notEq8 (by rw [hqp]; rcases hz with h | h <;> rw [h] <;> exact same_self _) h64
    replace h64 := notF h64;refine wp_skip (hK8 _ _ (cSR fun K10 hK10=>?_));clear hK8;refine sBs (cs := []) H underlying23 sizeOf5 zeroValue5 rfl F rfl rfl rfl rfl rfl ?_;clear F a H; intro b65 a w F H
    replace H := H.emptyRws 1
    refine sMv F rfl rfl rfl ?_;clear F a;intro a F;refine sAppO (bytes := 1) (sz := 1) H 0 underlying23 typeInfo5 rfl rfl rfl rfl rfl rfl F rfl rfl rfl rfl rfl ?hm ((RowsAt.own hR H)) ((fun r hr => b8_one hr)) (bRows_cell) ?hb ?_
    case hm => first | rfl | (simp; done) | omega | (simp only [List.length_take, List.length_map]; omega) | (simp; omega)
    case hb => exact ((by simp only [List.length_nil]; omega))
    clear F a H; intro A67 c67 a w F H;refine sAs F rfl rfl rfl (qNK hK10 ?_);clear hK10;clear F a;intro a F;refine cSeq (fun K11 hK11 => ?_);refine cSR fun K12 hK12=>sMv F rfl rfl rfl (qNK hK12 ?_);clear hK12;clear F a;intro a F;refine wp_block ?_
    simp only [List.nil_append, List.length_map] at H F
    refine cLoopR [0, 2] (fun m ups w => ∃ (j : Nat) (A3 : Option Addr) (c3 : Nat), m = 12 - j ∧ ups = [(10, .slice A3 (reads.length + j) c3), (68, .int .i64 ((j : Nat) : Int))] ∧ j ≤ 12 ∧ Own w0 none w [.rws 5 1 (.slice A3 (reads.length + j) c3) (bRows (reads ++ List.replicate j mv))]) F (12) [(10, .slice A67 reads.length c67), (68, .int .i64 ((0 : Nat) : Int))] (by repeat (first | exact SubR.nil | (apply SubR.cons; · rfl))) ?_ ?_ ?_
    · exact ⟨0, A67, c67, rfl, rfl, by omega, by simpa [bRows] using H.sel [0] rfl rfl⟩
    · repeat (first | exact trivial | refine Le.cons rfl ?_)
    clear F
    clear H
    intro m ups a w hI F
    obtain ⟨j, A3, c3, rfl, rfl, hj, H⟩ := hI
    refine cSR fun K13 hK13=>sBin F rfl rfl rfl rfl bLss (qNK hK13 ?_);clear hK13;clear F a;intro a F;refine cSeq (fun K14 hK14 => ?_)
    refine cIf F rfl (fun h69 => ?_) (fun h69 => ?_)
    ·
     replace h69 := of_decide_eq_true h69;refine wp_skip (hK14 _ _ ?_);clear hK14;refine cSeq (fun K15 hK15 => ?_);refine wp_block ?_;refine cReg (sMv F rfl rfl rfl (qMv rfl rfl rfl ?_));clear F a;intro a F;refine sBs1 H underlying23 sizeOf5 zeroValue5 rfl F rfl rfl rfl rfl ?_;clear F a H; intro b72 a w F H
     refine sApp1 (bytes := 1) H 1 underlying23 typeInfo5 rfl rfl rfl rfl rfl rfl F rfl rfl rfl rfl rfl (H.whole 0 rfl) rfl ?s1 ?s2 ?_
     case s1 => first | rfl | (repeat (first | exact one_nil | (apply one_cons; · first | rfl | assumption | exact one_bif rfl rfl)))
     case s2 => (rw [List.length_map, List.length_append, List.length_replicate]; omega)
     clear F a H; intro A73 c73 a w F H;refine sAs F rfl rfl rfl (qNK hK15 (qReg ?_));clear hK15;clear F a;intro a F
     refine sBin F rfl rfl rfl rfl (bAddN (j := 1) ?_) ?_
     focus omega
     clear F a; intro a F;refine sMv F rfl rfl rfl ?_;clear F a;intro a F;refine sNil ?_
     have e9 : bRows (reads ++ List.replicate j mv) ++ [[Go.Proofs.YtklpiodciblabaaGreatDoor.b8 mv]] = bRows (reads ++ List.replicate (j + 1) mv) := by rw [List.replicate_succ']; simp [bRows]
     have e8 : (bRows (reads ++ List.replicate (j + 1) mv)).length = reads.length + (j + 1) := by simp
     rw [e9, e8] at H F
     exact ⟨_, by omega, _, ⟨j + 1, _, _, rfl, rfl, by omega, H.sel [1] rfl rfl⟩, F.to (by repeat (first | exact trivial | refine Le.cons rfl ?_))⟩
    replace h69 := of_decide_eq_false h69
    obtain rfl : j = 12 := by omega
    obtain ⟨ws, hws⟩ : ∃ ws, ws = reads ++ List.replicate 12 mv := ⟨_, rfl⟩
    have hwl : ws.length = reads.length + 12 := by rw [hws, List.length_append, List.length_replicate]
    rw [← hws, ← hwl] at H;rw [← hwl] at F
    have hcap : ws.length ≤ c3 := (H.rwsLen 0 rfl).2.1
    refine wp_exit ?_;refine hK11 _ _ ?_;clear hK11;refine cSeq (fun K16 hK16 => ?_);refine cSR fun K17 hK17=>sMv F rfl rfl rfl (qLen underlying23 rfl rfl rfl ?_);clear F a;intro a F
    refine sBin F rfl rfl rfl rfl (bAddN (j := 1) ?_) ?_
    focus omega
    clear F a; intro a F;refine sMv F rfl rfl rfl (qNK hK17 ?_);clear hK17;clear F a;intro a F;refine wp_block ?_
    refine cLoopR [0, 10, 77] (fun m ups w => ∃ k : Nat, m = (ws.length + 1) - k ∧ ups = [(78, .int .i64 ((k : Nat) : Int))] ∧ k ≤ ws.length + 1 ∧ (∀ j, j < k → ¬ ∃ z, Done8 l (ws.take j) z) ∧ Own w0 none w [.rws 5 1 (.slice A3 ws.length c3) (bRows ws)]) F (ws.length + 1) [(78, .int .i64 ((0 : Nat) : Int))] (by repeat (first | exact SubR.nil | (apply SubR.cons; · rfl))) ?_ ?_ ?_
    · exact ⟨0, rfl, rfl, by omega, fun j hj => by omega, H.sel [0] rfl rfl⟩
    · repeat (first | exact trivial | refine Le.cons rfl ?_)
    clear F
    clear H
    intro m ups a w hI F
    obtain ⟨k, rfl, rfl, hk, hnd, H⟩ := hI
    refine cSR fun K18 hK18=>sBin F rfl rfl rfl rfl bLss (qNK hK18 ?_);clear hK18;clear F a;intro a F;refine cSeq (fun K19 hK19 => ?_)
    refine cIf F rfl (fun h79 => ?_) (fun h79 => ?_)
    ·
     replace h79 := of_decide_eq_true h79;refine wp_skip (hK19 _ _ ?_);clear hK19;refine cSeq (fun K20 hK20 => ?_);refine wp_block ?_;refine cSR fun K21 hK21=>sMv F rfl rfl rfl (qAs rfl rfl rfl (qNK hK21 (qSR fun K22 hK22=>qMv rfl rfl rfl (qMv rfl rfl rfl (qMv rfl rfl rfl ?_)))));clear hK21;clear F a;intro a F
     refine sSlH underlying23 (fun w => ⟨_, sizeOf5 w⟩) F rfl rfl rfl rfl ?_ ?_
     focus omega
     clear F a; intro a F;refine sCall call11 F rfl rfl rfl (Follow_pl A C l.length l A3 c3 k (ws.take k) _ (hA.own H) rfl hn (rows_take8 (H.rowsAt 0 rfl bRows_one (by omega)) k) (take_len (by omega)) (by rw [List.length_take]; omega) (hN.own H) (hT.own H)) ?_;rintro e w ⟨qq, hqq, rfl, H2⟩;replace H := H.join H2
     clear H2
     have hqqs : smallP qq.path = true := by rw [hqq]; exact small_fol _ _
     refine ⟨_, rfl, ?_⟩;clear F a; intro a F;refine sMv F rfl rfl rfl (qExt rfl rfl rfl rfl (qExt rfl rfl rfl rfl (qExt rfl rfl rfl rfl ?_)));clear F a;intro a F;refine sAl H zeroValue28 F rfl rfl ?_;clear F a H; intro b12 a w F H
     refine sSr H 0 ?si F rfl rfl rfl ?s1 rfl rfl ?_
     case si => exact info_size sizeOf28
     case s1 => first | rfl | (repeat (first | exact one_nil | (apply one_cons; · first | rfl | assumption | exact one_bif rfl rfl)))
     clear H; intro w H;refine sAs F rfl rfl rfl (qAs rfl rfl rfl (qNK hK22 (qSR fun K23 hK23=>qMv rfl rfl rfl (qBin rfl rfl rfl rfl bEql (qMv rfl rfl rfl ?_)))));clear hK22;clear F a;intro a F
     refine F.split 92 rfl ?_ ?_ <;> (clear F; intro h92 F)
     ·
      replace h92 := beqT h92;refine sMv F rfl rfl rfl (qNot rfl rfl rfl (qPk rfl rfl rfl rfl (qNK hK23 ?_)));clear hK23;clear F a;intro a F
      refine cIf F rfl (fun h95 => ?_) (fun h95 => ?_)
      ·
       replace h95 := notT h95
       obtain ⟨z8, hz8⟩ := done_of hl (reads := ws.take k) (by omega) h95
       refine cSeq (fun K24 hK24 => ?_);refine cRegRO (by kernel_rfl) H ?_;replace H := H.drew
       refine eTake (k := 0) (i := 0) rfl (by kernel_rfl) F rfl rfl rfl rfl (fun w H => rLr underlying28 rfl ?si F rfl (H.whole 0 rfl)) H (fun _ _ _ h => h) ?_
       case si => exact info_size sizeOf28
       clear F a; intro a F;refine eTF 2 rfl (by kernel_rfl) F rfl rfl rfl (fun w=>rMv F rfl) H qq0 (qTF 3 rfl (by kernel_rfl) rfl rfl rfl (fun a F w=>rMv F rfl) H qq0 ?_);clear F a;intro a F
       refine eTake (k := 3) (i := 4) rfl (by kernel_rfl) F rfl rfl rfl rfl (fun w H => rSlH underlying23 (fun w => ⟨_, sizeOf5 w⟩) F rfl rfl ?_) H (fun _ _ _ h => h) ?_
       focus omega
       clear F a; intro a F;refine eOne (k := 4) (i := 1) rfl (by kernel_rfl) F rfl (oCall call23 F rfl rfl (Reads_any qq _ (H.rowsAt 1 rfl ev7 (by omega)) (by simp only [smallP, Bool.and_eq_true, decide_eq_true_eq] at hqqs; exact hqqs.1.1.1)) ?_);rintro e w ⟨A7, c7, rfl, H2⟩;replace H := H.join H2; clear H2;refine ⟨_, rfl, ?_⟩;clear F a; intro a F;refine eKeep H.tail ?_;refine eOne (k := 5) (i := 5) rfl (by kernel_rfl) F rfl (oCall call22 F rfl rfl (Bytes_n A7 A3 c7 c3 _ k (readsL qq.path.evs) (ws.take k) _ (H.rowsAt 0 rfl bRows_one (by omega)) (rows_take8 (H.rowsAt 6 rfl bRows_one (by omega)) k) rfl (take_len (by omega))) ?_);rintro e w ⟨rfl, hb⟩;replace H := H.grow hb; clear hb;refine ⟨_, rfl, ?_⟩;clear F a; intro a F;refine ePartO (by kernel_rfl) H ?_;refine eTF 6 rfl (by kernel_rfl) F rfl rfl rfl (fun w=>rMv F rfl) H qq0 ?_;clear F a;intro a F
       refine F.split 102 rfl ?_ ?_ <;> (clear F; intro h102 F)
       ·
        refine eOne (k := 7) (i := 7) rfl (by kernel_rfl) F rfl (oCall call12 F rfl rfl (awake8_any _ (hN.own H) (hT.own H)) ?_);rintro e w ⟨rfl, hb⟩;replace H := H.grow hb; clear hb;refine ⟨_, rfl, ?_⟩;clear F a; intro a F;refine ePartO (by kernel_rfl) H ?_;refine eTF 8 rfl (by kernel_rfl) F rfl rfl rfl (fun w=>rPk F rfl rfl) H qq0 (qTF 9 rfl (by kernel_rfl) rfl rfl rfl (fun a F w=>rAs F rfl) H qq0 ?_);clear F a;intro a F;refine eNil (k := 10) (by kernel_rfl) ?_;refine hK24 _ _ ?_;clear hK24;refine wp_ret ?_;simp only [Exit.inBlock, Exit.then];refine bRet results9 F rfl ?_
        exact ⟨rfl, H.below⟩
       exact notEq8 (by rw [hqq, hz8.reads]; exact beq_self_eq_true _) h102
      replace h95 := notF h95;refine wp_skip (hK20 _ _ (cReg ?_));clear hK20
      refine sBin F rfl rfl rfl rfl (bAddN (j := 1) ?_) ?_
      focus omega
      clear F a; intro a F;refine sMv F rfl rfl rfl ?_;clear F a;intro a F;refine sNil ?_
      refine ⟨_, ?_, _, ⟨k + 1, rfl, rfl, by omega, fun j hj => ?_, H.sel [5] rfl rfl⟩, F.to (by repeat (first | exact trivial | refine Le.cons rfl ?_))⟩
      · omega
      rcases Nat.lt_or_ge j k with h | h
      · exact hnd j h
      · obtain rfl : j = k := by omega
        rintro ⟨z8, hz8⟩
        first
        | (rw [hz8.fol] at h92; exact h92 rfl)
        | (rw [hz8.fol] at h95; cases h95)
     replace h92 := beqF h92;refine sSk F rfl rfl (qSk rfl rfl (qPk rfl rfl rfl rfl (qNK hK23 ?_)));clear hK23;clear F a;intro a F;refine cIfF F rfl ?_;refine wp_skip (hK20 _ _ (cReg ?_));clear hK20
     refine sBin F rfl rfl rfl rfl (bAddN (j := 1) ?_) ?_
     focus omega
     clear F a; intro a F;refine sMv F rfl rfl rfl ?_;clear F a;intro a F;refine sNil ?_
     refine ⟨_, ?_, _, ⟨k + 1, rfl, rfl, by omega, fun j hj => ?_, H.sel [5] rfl rfl⟩, F.to (by repeat (first | exact trivial | refine Le.cons rfl ?_))⟩
     · omega
     rcases Nat.lt_or_ge j k with h | h
     · exact hnd j h
     · obtain rfl : j = k := by omega
       rintro ⟨z8, hz8⟩
       first
       | (rw [hz8.fol] at h92; exact h92 rfl)
       | (rw [hz8.fol] at h95; cases h95)
    replace h79 := of_decide_eq_false h79
    exfalso
    obtain ⟨j, z8, hj, hz8⟩ := done_ex hl (ws := ws) (by omega)
    exact hnd j (by omega) ⟨z8, hz8⟩
   replace h52 := bneF h52
   exact (h47 h52).elim
  replace h47 := bneF h47;refine sMv F rfl rfl rfl (qPk rfl rfl rfl rfl (qNK hK7 ?_));clear hK7;clear F a;intro a F
  refine cIf F rfl (fun h49 => ?_) (fun h49 => ?_)
  ·
   have hz := zero_of hl (reads := reads) (.inr h49)
   refine cSeq (fun K25 hK25 => ?_);refine cSR fun K26 hK26=>sMv F rfl rfl rfl (qBin rfl rfl rfl rfl bNeq (qMv rfl rfl rfl ?_));clear F a;intro a F
   refine F.split 52 rfl ?_ ?_ <;> (clear F; intro h52 F)
   ·
    replace h52 := bneT h52
    exact (h52 h47).elim
   replace h52 := bneF h52;refine sSk F rfl rfl (qSk rfl rfl (qSk rfl rfl (qSk rfl rfl (qSk rfl rfl (qPk rfl rfl rfl rfl (qMv rfl rfl rfl ?_))))));clear F a;intro a F
   refine sLr underlying28 rfl ?si F rfl rfl rfl (H.whole 0 rfl) ?_
   case si => exact info_size sizeOf28
   clear F a; intro a F;refine sBd (cs := zPl.cells) (places := [(0, 1), (1, 1), (2, 1), (3, 1), (4, 8)]) zeroValue28 underlying28 (by kernel_rfl) F rfl rfl rfl rfl ?_;clear F a;intro a F;refine sCall call13 F rfl rfl rfl (Same_any qp zPl _ (small_at (H.sel [1, 2, 3, 4] rfl rfl) hqs) (zPl_at _)) ?_;rintro e w ⟨rfl, hb⟩;replace H := H.grow hb; clear hb;refine ⟨_, rfl, ?_⟩;clear F a; intro a F;refine sNot F rfl rfl rfl (qPk rfl rfl rfl rfl (qNK hK26 ?_));clear hK26;clear F a;intro a F
   refine cIf F rfl (fun h64 => ?_) (fun h64 => ?_)
   ·
    replace h64 := notT h64
    exact notEq8 (by rw [hqp]; rcases hz with h | h <;> rw [h] <;> exact same_self _) h64
   replace h64 := notF h64;refine wp_skip (hK25 _ _ (cSR fun K27 hK27=>?_));clear hK25;refine sBs (cs := []) H underlying23 sizeOf5 zeroValue5 rfl F rfl rfl rfl rfl rfl ?_;clear F a H; intro b65 a w F H
   replace H := H.emptyRws 1
   refine sMv F rfl rfl rfl ?_;clear F a;intro a F;refine sAppO (bytes := 1) (sz := 1) H 0 underlying23 typeInfo5 rfl rfl rfl rfl rfl rfl F rfl rfl rfl rfl rfl ?hm ((RowsAt.own hR H)) ((fun r hr => b8_one hr)) (bRows_cell) ?hb ?_
   case hm => first | rfl | (simp; done) | omega | (simp only [List.length_take, List.length_map]; omega) | (simp; omega)
   case hb => exact ((by simp only [List.length_nil]; omega))
   clear F a H; intro A67 c67 a w F H;refine sAs F rfl rfl rfl (qNK hK27 ?_);clear hK27;clear F a;intro a F;refine cSeq (fun K28 hK28 => ?_);refine cSR fun K29 hK29=>sMv F rfl rfl rfl (qNK hK29 ?_);clear hK29;clear F a;intro a F;refine wp_block ?_
   simp only [List.nil_append, List.length_map] at H F
   refine cLoopR [0, 2] (fun m ups w => ∃ (j : Nat) (A3 : Option Addr) (c3 : Nat), m = 12 - j ∧ ups = [(10, .slice A3 (reads.length + j) c3), (68, .int .i64 ((j : Nat) : Int))] ∧ j ≤ 12 ∧ Own w0 none w [.rws 5 1 (.slice A3 (reads.length + j) c3) (bRows (reads ++ List.replicate j mv))]) F (12) [(10, .slice A67 reads.length c67), (68, .int .i64 ((0 : Nat) : Int))] (by repeat (first | exact SubR.nil | (apply SubR.cons; · rfl))) ?_ ?_ ?_
   · exact ⟨0, A67, c67, rfl, rfl, by omega, by simpa [bRows] using H.sel [0] rfl rfl⟩
   · repeat (first | exact trivial | refine Le.cons rfl ?_)
   clear F
   clear H
   intro m ups a w hI F
   obtain ⟨j, A3, c3, rfl, rfl, hj, H⟩ := hI
   refine cSR fun K30 hK30=>sBin F rfl rfl rfl rfl bLss (qNK hK30 ?_);clear hK30;clear F a;intro a F;refine cSeq (fun K31 hK31 => ?_)
   refine cIf F rfl (fun h69 => ?_) (fun h69 => ?_)
   ·
    replace h69 := of_decide_eq_true h69;refine wp_skip (hK31 _ _ ?_);clear hK31;refine cSeq (fun K32 hK32 => ?_);refine wp_block ?_;refine cReg (sMv F rfl rfl rfl (qMv rfl rfl rfl ?_));clear F a;intro a F;refine sBs1 H underlying23 sizeOf5 zeroValue5 rfl F rfl rfl rfl rfl ?_;clear F a H; intro b72 a w F H
    refine sApp1 (bytes := 1) H 1 underlying23 typeInfo5 rfl rfl rfl rfl rfl rfl F rfl rfl rfl rfl rfl (H.whole 0 rfl) rfl ?s1 ?s2 ?_
    case s1 => first | rfl | (repeat (first | exact one_nil | (apply one_cons; · first | rfl | assumption | exact one_bif rfl rfl)))
    case s2 => (rw [List.length_map, List.length_append, List.length_replicate]; omega)
    clear F a H; intro A73 c73 a w F H;refine sAs F rfl rfl rfl (qNK hK32 (qReg ?_));clear hK32;clear F a;intro a F
    refine sBin F rfl rfl rfl rfl (bAddN (j := 1) ?_) ?_
    focus omega
    clear F a; intro a F;refine sMv F rfl rfl rfl ?_;clear F a;intro a F;refine sNil ?_
    have e9 : bRows (reads ++ List.replicate j mv) ++ [[Go.Proofs.YtklpiodciblabaaGreatDoor.b8 mv]] = bRows (reads ++ List.replicate (j + 1) mv) := by rw [List.replicate_succ']; simp [bRows]
    have e8 : (bRows (reads ++ List.replicate (j + 1) mv)).length = reads.length + (j + 1) := by simp
    rw [e9, e8] at H F
    exact ⟨_, by omega, _, ⟨j + 1, _, _, rfl, rfl, by omega, H.sel [1] rfl rfl⟩, F.to (by repeat (first | exact trivial | refine Le.cons rfl ?_))⟩
   replace h69 := of_decide_eq_false h69
   obtain rfl : j = 12 := by omega
   obtain ⟨ws, hws⟩ : ∃ ws, ws = reads ++ List.replicate 12 mv := ⟨_, rfl⟩
   have hwl : ws.length = reads.length + 12 := by rw [hws, List.length_append, List.length_replicate]
   rw [← hws, ← hwl] at H;rw [← hwl] at F
   have hcap : ws.length ≤ c3 := (H.rwsLen 0 rfl).2.1
   refine wp_exit ?_;refine hK28 _ _ ?_;clear hK28;refine cSeq (fun K33 hK33 => ?_);refine cSR fun K34 hK34=>sMv F rfl rfl rfl (qLen underlying23 rfl rfl rfl ?_);clear F a;intro a F
   refine sBin F rfl rfl rfl rfl (bAddN (j := 1) ?_) ?_
   focus omega
   clear F a; intro a F;refine sMv F rfl rfl rfl (qNK hK34 ?_);clear hK34;clear F a;intro a F;refine wp_block ?_
   refine cLoopR [0, 10, 77] (fun m ups w => ∃ k : Nat, m = (ws.length + 1) - k ∧ ups = [(78, .int .i64 ((k : Nat) : Int))] ∧ k ≤ ws.length + 1 ∧ (∀ j, j < k → ¬ ∃ z, Done8 l (ws.take j) z) ∧ Own w0 none w [.rws 5 1 (.slice A3 ws.length c3) (bRows ws)]) F (ws.length + 1) [(78, .int .i64 ((0 : Nat) : Int))] (by repeat (first | exact SubR.nil | (apply SubR.cons; · rfl))) ?_ ?_ ?_
   · exact ⟨0, rfl, rfl, by omega, fun j hj => by omega, H.sel [0] rfl rfl⟩
   · repeat (first | exact trivial | refine Le.cons rfl ?_)
   clear F
   clear H
   intro m ups a w hI F
   obtain ⟨k, rfl, rfl, hk, hnd, H⟩ := hI
   refine cSR fun K35 hK35=>sBin F rfl rfl rfl rfl bLss (qNK hK35 ?_);clear hK35;clear F a;intro a F;refine cSeq (fun K36 hK36 => ?_)
   refine cIf F rfl (fun h79 => ?_) (fun h79 => ?_)
   ·
    replace h79 := of_decide_eq_true h79;refine wp_skip (hK36 _ _ ?_);clear hK36;refine cSeq (fun K37 hK37 => ?_);refine wp_block ?_;refine cSR fun K38 hK38=>sMv F rfl rfl rfl (qAs rfl rfl rfl (qNK hK38 (qSR fun K39 hK39=>qMv rfl rfl rfl (qMv rfl rfl rfl (qMv rfl rfl rfl ?_)))));clear hK38;clear F a;intro a F
    refine sSlH underlying23 (fun w => ⟨_, sizeOf5 w⟩) F rfl rfl rfl rfl ?_ ?_
    focus omega
    clear F a; intro a F;refine sCall call11 F rfl rfl rfl (Follow_pl A C l.length l A3 c3 k (ws.take k) _ (hA.own H) rfl hn (rows_take8 (H.rowsAt 0 rfl bRows_one (by omega)) k) (take_len (by omega)) (by rw [List.length_take]; omega) (hN.own H) (hT.own H)) ?_;rintro e w ⟨qq, hqq, rfl, H2⟩;replace H := H.join H2
    clear H2
    have hqqs : smallP qq.path = true := by rw [hqq]; exact small_fol _ _
    refine ⟨_, rfl, ?_⟩;clear F a; intro a F;refine sMv F rfl rfl rfl (qExt rfl rfl rfl rfl (qExt rfl rfl rfl rfl (qExt rfl rfl rfl rfl ?_)));clear F a;intro a F;refine sAl H zeroValue28 F rfl rfl ?_;clear F a H; intro b12 a w F H
    refine sSr H 0 ?si F rfl rfl rfl ?s1 rfl rfl ?_
    case si => exact info_size sizeOf28
    case s1 => first | rfl | (repeat (first | exact one_nil | (apply one_cons; · first | rfl | assumption | exact one_bif rfl rfl)))
    clear H; intro w H;refine sAs F rfl rfl rfl (qAs rfl rfl rfl (qNK hK39 (qSR fun K40 hK40=>qMv rfl rfl rfl (qBin rfl rfl rfl rfl bEql (qMv rfl rfl rfl ?_)))));clear hK39;clear F a;intro a F
    refine F.split 92 rfl ?_ ?_ <;> (clear F; intro h92 F)
    ·
     replace h92 := beqT h92;refine sMv F rfl rfl rfl (qNot rfl rfl rfl (qPk rfl rfl rfl rfl (qNK hK40 ?_)));clear hK40;clear F a;intro a F
     refine cIf F rfl (fun h95 => ?_) (fun h95 => ?_)
     ·
      replace h95 := notT h95
      obtain ⟨z8, hz8⟩ := done_of hl (reads := ws.take k) (by omega) h95
      refine cSeq (fun K41 hK41 => ?_);refine cRegRO (by kernel_rfl) H ?_;replace H := H.drew
      refine eTake (k := 0) (i := 0) rfl (by kernel_rfl) F rfl rfl rfl rfl (fun w H => rLr underlying28 rfl ?si F rfl (H.whole 0 rfl)) H (fun _ _ _ h => h) ?_
      case si => exact info_size sizeOf28
      clear F a; intro a F;refine eTF 2 rfl (by kernel_rfl) F rfl rfl rfl (fun w=>rMv F rfl) H qq0 (qTF 3 rfl (by kernel_rfl) rfl rfl rfl (fun a F w=>rMv F rfl) H qq0 ?_);clear F a;intro a F
      refine eTake (k := 3) (i := 4) rfl (by kernel_rfl) F rfl rfl rfl rfl (fun w H => rSlH underlying23 (fun w => ⟨_, sizeOf5 w⟩) F rfl rfl ?_) H (fun _ _ _ h => h) ?_
      focus omega
      clear F a; intro a F;refine eOne (k := 4) (i := 1) rfl (by kernel_rfl) F rfl (oCall call23 F rfl rfl (Reads_any qq _ (H.rowsAt 1 rfl ev7 (by omega)) (by simp only [smallP, Bool.and_eq_true, decide_eq_true_eq] at hqqs; exact hqqs.1.1.1)) ?_);rintro e w ⟨A7, c7, rfl, H2⟩;replace H := H.join H2; clear H2;refine ⟨_, rfl, ?_⟩;clear F a; intro a F;refine eKeep H.tail ?_;refine eOne (k := 5) (i := 5) rfl (by kernel_rfl) F rfl (oCall call22 F rfl rfl (Bytes_n A7 A3 c7 c3 _ k (readsL qq.path.evs) (ws.take k) _ (H.rowsAt 0 rfl bRows_one (by omega)) (rows_take8 (H.rowsAt 6 rfl bRows_one (by omega)) k) rfl (take_len (by omega))) ?_);rintro e w ⟨rfl, hb⟩;replace H := H.grow hb; clear hb;refine ⟨_, rfl, ?_⟩;clear F a; intro a F;refine ePartO (by kernel_rfl) H ?_;refine eTF 6 rfl (by kernel_rfl) F rfl rfl rfl (fun w=>rMv F rfl) H qq0 ?_;clear F a;intro a F
      refine F.split 102 rfl ?_ ?_ <;> (clear F; intro h102 F)
      ·
       refine eOne (k := 7) (i := 7) rfl (by kernel_rfl) F rfl (oCall call12 F rfl rfl (awake8_any _ (hN.own H) (hT.own H)) ?_);rintro e w ⟨rfl, hb⟩;replace H := H.grow hb; clear hb;refine ⟨_, rfl, ?_⟩;clear F a; intro a F;refine ePartO (by kernel_rfl) H ?_;refine eTF 8 rfl (by kernel_rfl) F rfl rfl rfl (fun w=>rPk F rfl rfl) H qq0 (qTF 9 rfl (by kernel_rfl) rfl rfl rfl (fun a F w=>rAs F rfl) H qq0 ?_);clear F a;intro a F;refine eNil (k := 10) (by kernel_rfl) ?_;refine hK41 _ _ ?_;clear hK41;refine wp_ret ?_;simp only [Exit.inBlock, Exit.then];refine bRet results9 F rfl ?_
       exact ⟨rfl, H.below⟩
      exact notEq8 (by rw [hqq, hz8.reads]; exact beq_self_eq_true _) h102
     replace h95 := notF h95;refine wp_skip (hK37 _ _ (cReg ?_));clear hK37
     refine sBin F rfl rfl rfl rfl (bAddN (j := 1) ?_) ?_
     focus omega
     clear F a; intro a F;refine sMv F rfl rfl rfl ?_;clear F a;intro a F;refine sNil ?_
     refine ⟨_, ?_, _, ⟨k + 1, rfl, rfl, by omega, fun j hj => ?_, H.sel [5] rfl rfl⟩, F.to (by repeat (first | exact trivial | refine Le.cons rfl ?_))⟩
     · omega
     rcases Nat.lt_or_ge j k with h | h
     · exact hnd j h
     · obtain rfl : j = k := by omega
       rintro ⟨z8, hz8⟩
       first
       | (rw [hz8.fol] at h92; exact h92 rfl)
       | (rw [hz8.fol] at h95; cases h95)
    replace h92 := beqF h92;refine sSk F rfl rfl (qSk rfl rfl (qPk rfl rfl rfl rfl (qNK hK40 ?_)));clear hK40;clear F a;intro a F;refine cIfF F rfl ?_;refine wp_skip (hK37 _ _ (cReg ?_));clear hK37
    refine sBin F rfl rfl rfl rfl (bAddN (j := 1) ?_) ?_
    focus omega
    clear F a; intro a F;refine sMv F rfl rfl rfl ?_;clear F a;intro a F;refine sNil ?_
    refine ⟨_, ?_, _, ⟨k + 1, rfl, rfl, by omega, fun j hj => ?_, H.sel [5] rfl rfl⟩, F.to (by repeat (first | exact trivial | refine Le.cons rfl ?_))⟩
    · omega
    rcases Nat.lt_or_ge j k with h | h
    · exact hnd j h
    · obtain rfl : j = k := by omega
      rintro ⟨z8, hz8⟩
      first
      | (rw [hz8.fol] at h92; exact h92 rfl)
      | (rw [hz8.fol] at h95; cases h95)
   replace h79 := of_decide_eq_false h79
   exfalso
   obtain ⟨j, z8, hj, hz8⟩ := done_ex hl (ws := ws) (by omega)
   exact hnd j (by omega) ⟨z8, hz8⟩
  obtain ⟨z9, hz9⟩ := done_of hl (reads := reads) (by omega) h49
  refine wp_skip (hK6 _ _ ?_);clear hK6;refine cSeq (fun K42 hK42 => ?_);refine cSR fun K43 hK43=>?_
  refine sLr underlying28 rfl ?si F rfl rfl rfl (H.whole 0 rfl) ?_
  case si => exact info_size sizeOf28
  clear F a; intro a F;refine sCall call23 F rfl rfl rfl (Reads_any qp _ (H.rowsAt 1 rfl ev7 (by omega)) (by simp only [smallP, Bool.and_eq_true, decide_eq_true_eq] at hqs; exact hqs.1.1.1)) ?_;rintro e w ⟨A7, c7, rfl, H2⟩;replace H := H.join H2; clear H2;refine ⟨_, rfl, ?_⟩;clear F a; intro a F;refine sMv F rfl rfl rfl ?_;clear F a;intro a F;refine sCall call22 F rfl rfl rfl (Bytes_n A7 RA c7 RC _ reads.length (readsL qp.path.evs) reads _ (H.rowsAt 0 rfl bRows_one (by omega)) (RowsAt.own hR H) rfl rfl) ?_;rintro e w ⟨rfl, hb⟩;replace H := H.grow hb; clear hb;refine ⟨_, rfl, ?_⟩;clear F a; intro a F;refine sNot F rfl rfl rfl (qNK hK43 ?_);clear hK43;clear F a;intro a F
  refine cIf F rfl (fun h110 => ?_) (fun h110 => ?_)
  ·
   replace h110 := notT h110
   exact notEq8 (by rw [hqp, hz9.reads]; exact beq_self_eq_true _) h110
  replace h110 := notF h110;refine wp_skip (hK42 _ _ (cSR fun K44 hK44=>sMv F rfl rfl rfl ?_));clear hK42;clear F a;intro a F;refine sBs (cs := []) H underlying23 sizeOf5 zeroValue5 rfl F rfl rfl rfl rfl rfl ?_;clear F a H; intro b113 a w F H
  replace H := H.emptyRws 1
  refine sMv F rfl rfl rfl ?_;clear F a;intro a F;refine sAppO (bytes := 1) (sz := 1) H 0 underlying23 typeInfo5 rfl rfl rfl rfl rfl rfl F rfl rfl rfl rfl rfl ?hm ((RowsAt.own hR H)) ((fun r hr => b8_one hr)) (bRows_cell) ?hb ?_
  case hm => first | rfl | (simp; done) | omega | (simp only [List.length_take, List.length_map]; omega) | (simp; omega)
  case hb => exact ((by simp only [List.length_nil]; omega))
  clear F a H; intro A115 c115 a w F H;refine sMv F rfl rfl rfl ?_;clear F a;intro a F;refine sBs1 H underlying23 sizeOf5 zeroValue5 rfl F rfl rfl rfl rfl ?_;clear F a H; intro b117 a w F H
  refine sApp1 (bytes := 1) H 1 underlying23 typeInfo5 rfl rfl rfl rfl rfl rfl F rfl rfl rfl rfl rfl (H.whole 0 rfl) rfl ?s1 ?s2 ?_
  case s1 => first | rfl | (repeat (first | exact one_nil | (apply one_cons; · first | rfl | assumption | exact one_bif rfl rfl)))
  case s2 => (simp only [List.length_append, List.length_nil, List.length_map]; omega)
  clear F a H; intro A118 c118 a w F H;refine sCall call11 F rfl rfl rfl (Follow_pl A C l.length l A118 c118 _ (reads ++ [mv]) _ (hA.own H) rfl hn (by have := H.rowsAt (sz := 1) 1 rfl (by intro r hr; simp at hr; rcases hr with ⟨x, _, rfl⟩ | rfl <;> rfl) (by decide); simpa using this) (by simp) (by rw [List.length_append, List.length_singleton]; omega) (hN.own H) (hT.own H)) ?_;rintro e w ⟨qm, hqm, rfl, H2⟩;replace H := H.join H2
  clear H2
  have hqmf := hz9.more hl mv
  have hqms : smallP qm.path = true := by rw [hqm]; exact small_fol _ _
  refine ⟨_, rfl, ?_⟩;clear F a; intro a F;refine sMv F rfl rfl rfl (qExt rfl rfl rfl rfl (qExt rfl rfl rfl rfl (qExt rfl rfl rfl rfl ?_)));clear F a;intro a F;refine sAl H zeroValue28 F rfl rfl ?_;clear F a H; intro b15 a w F H
  refine sSr H 0 ?si F rfl rfl rfl ?s1 rfl rfl ?_
  case si => exact info_size sizeOf28
  case s1 => first | rfl | (repeat (first | exact one_nil | (apply one_cons; · first | rfl | assumption | exact one_bif rfl rfl)))
  clear H; intro w H;refine sAs F rfl rfl rfl (qAs rfl rfl rfl (qNK hK44 ?_));clear hK44;clear F a;intro a F;refine cSeq (fun K45 hK45 => ?_);refine cSR fun K46 hK46=>sMv F rfl rfl rfl (qBin rfl rfl rfl rfl bNeq (qMv rfl rfl rfl ?_));clear F a;intro a F
  refine F.split 125 rfl ?_ ?_ <;> (clear F; intro h125 F)
  ·
   replace h125 := bneT h125
   exact absurd (by rw [hqmf]; rfl) h125
  replace h125 := bneF h125;refine sMv F rfl rfl rfl (qPk rfl rfl rfl rfl (qMv rfl rfl rfl ?_));clear F a;intro a F
  refine F.split 128 rfl ?_ ?_ <;> (clear F; intro h128 F)
  ·
   rw [hqmf] at h128; cases h128
  refine sLr underlying28 rfl ?si F rfl rfl rfl (H.whole 0 rfl) ?_
  case si => exact info_size sizeOf28
  clear F a; intro a F;refine sBd (cs := zPl.cells) (places := [(0, 1), (1, 1), (2, 1), (3, 1), (4, 8)]) zeroValue28 underlying28 (by kernel_rfl) F rfl rfl rfl rfl ?_;clear F a;intro a F;refine sCall call13 F rfl rfl rfl (Same_any qm zPl _ (small_at (H.sel [1, 2, 3, 4] rfl rfl) hqms) (zPl_at _)) ?_;rintro e w ⟨rfl, hb⟩;replace H := H.grow hb; clear hb;refine ⟨_, rfl, ?_⟩;clear F a; intro a F;refine sNot F rfl rfl rfl (qPk rfl rfl rfl rfl (qNK hK46 ?_));clear hK46;clear F a;intro a F
  refine cIf F rfl (fun h133 => ?_) (fun h133 => ?_)
  ·
   replace h133 := notT h133
   exact notEq8 (by rw [hqm, hqmf]; exact same_self _) h133
  replace h133 := notF h133;refine wp_skip (hK45 _ _ ?_);clear hK45;refine cSeq (fun K47 hK47 => ?_);refine cSR fun K48 hK48=>sMv F rfl rfl rfl (qLen underlying23 rfl rfl rfl (qBin rfl rfl rfl rfl bGtr (qNK hK48 ?_)));clear hK48;clear F a;intro a F
  refine cIf F rfl (fun h136 => ?_) (fun h136 => ?_)
  ·
   replace h136 := of_decide_eq_true h136;refine cSR fun K49 hK49=>sMv F rfl rfl rfl (qMv rfl rfl rfl (qMv rfl rfl rfl (qLen underlying23 rfl rfl rfl ?_)));clear F a;intro a F
   refine sBin F rfl rfl rfl rfl (bSubN (j := 1) ?_ ?_) ?_
   focus omega
   focus omega
   clear F a; intro a F
   refine sSlH underlying23 (fun w => ⟨_, sizeOf5 w⟩) F rfl rfl rfl rfl ?_ ?_
   focus omega
   clear F a; intro a F;refine sCall call11 F rfl rfl rfl (Follow_pl A C l.length l RA RC (reads.length - 1) (reads.take (reads.length - 1)) _ (hA.own H) rfl hn (rows_take8 (RowsAt.own hR H) _) (take_len (by omega)) (by rw [List.length_take]; omega) (hN.own H) (hT.own H)) ?_;rintro e w ⟨qf, hqf, rfl, H2⟩;replace H := H.join H2
   clear H2
   have hqff := hz9.less hl (k := reads.length - 1) (by omega)
   have hqfs : smallP qf.path = true := by rw [hqf]; exact small_fol _ _
   refine ⟨_, rfl, ?_⟩;clear F a; intro a F;refine sMv F rfl rfl rfl (qExt rfl rfl rfl rfl (qExt rfl rfl rfl rfl (qExt rfl rfl rfl rfl ?_)));clear F a;intro a F;refine sAl H zeroValue28 F rfl rfl ?_;clear F a H; intro b18 a w F H
   refine sSr H 0 ?si F rfl rfl rfl ?s1 rfl rfl ?_
   case si => exact info_size sizeOf28
   case s1 => first | rfl | (repeat (first | exact one_nil | (apply one_cons; · first | rfl | assumption | exact one_bif rfl rfl)))
   clear H; intro w H;refine sAs F rfl rfl rfl (qAs rfl rfl rfl (qNK hK49 (qSR fun K50 hK50=>qMv rfl rfl rfl (qNot rfl rfl rfl (qMv rfl rfl rfl ?_)))));clear hK49;clear F a;intro a F
   refine F.split 150 rfl ?_ ?_ <;> (clear F; intro h150 F)
   ·
    replace h150 := notT h150
    rw [hqff] at h150; cases h150
   replace h150 := notF h150;refine sMv F rfl rfl rfl (qBin rfl rfl rfl rfl bNeq (qPk rfl rfl rfl rfl (qMv rfl rfl rfl ?_)));clear F a;intro a F
   refine F.split 154 rfl ?_ ?_ <;> (clear F; intro h154 F)
   ·
    replace h154 := bneT h154
    exact absurd (by rw [hqff]; rfl) h154
   replace h154 := bneF h154
   refine sLr underlying28 rfl ?si F rfl rfl rfl (H.whole 0 rfl) ?_
   case si => exact info_size sizeOf28
   clear F a; intro a F;refine sBd (cs := zPl.cells) (places := [(0, 1), (1, 1), (2, 1), (3, 1), (4, 8)]) zeroValue28 underlying28 (by kernel_rfl) F rfl rfl rfl rfl ?_;clear F a;intro a F;refine sCall call13 F rfl rfl rfl (Same_any qf zPl _ (small_at (H.sel [1, 2, 3, 4] rfl rfl) hqfs) (zPl_at _)) ?_;rintro e w ⟨rfl, hb⟩;replace H := H.grow hb; clear hb;refine ⟨_, rfl, ?_⟩;clear F a; intro a F;refine sNot F rfl rfl rfl (qPk rfl rfl rfl rfl (qNK hK50 ?_));clear hK50;clear F a;intro a F
   refine cIf F rfl (fun h159 => ?_) (fun h159 => ?_)
   ·
    replace h159 := notT h159
    exact notEq8 (by rw [hqf, hqff]; exact same_self _) h159
   replace h159 := notF h159;refine wp_skip (hK47 _ _ (cSR fun K51 hK51=>?_));clear hK47;refine sCall call12 F rfl rfl rfl (awake8_any _ (hN.own H) (hT.own H)) ?_;rintro e w ⟨rfl, hb⟩;replace H := H.grow hb; clear hb;refine ⟨_, rfl, ?_⟩;clear F a; intro a F;refine sAs F rfl rfl rfl (qNK hK51 ?_);clear hK51;clear F a;intro a F;refine wp_ret ?_;refine bRet results9 F rfl ?_
   exact ⟨rfl, H.below⟩
  replace h136 := of_decide_eq_false h136;refine wp_skip (hK47 _ _ (cSR fun K52 hK52=>?_));clear hK47;refine sCall call12 F rfl rfl rfl (awake8_any _ (hN.own H) (hT.own H)) ?_;rintro e w ⟨rfl, hb⟩;replace H := H.grow hb; clear hb;refine ⟨_, rfl, ?_⟩;clear F a; intro a F;refine sAs F rfl rfl rfl (qNK hK52 ?_);clear hK52;clear F a;intro a F;refine wp_ret ?_;refine bRet results9 F rfl ?_
  exact ⟨rfl, H.below⟩
end Go.Proofs.YtklpiodciblabaaGreatDoor
