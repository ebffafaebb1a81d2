/-
  WALK2. The law PathHangs. Conditions: the slices lie in memory; the tables.
-/
import Derived.Test.YtklpiodciblabaaGreatDoorSq3
import Derived.Test.YtklpiodciblabaaGreatDoorSqO
set_option linter.unusedSimpArgs false
set_option linter.unusedVariables false
namespace Go.Proofs.YtklpiodciblabaaGreatDoor
open Go.Proofs.Tryz
open Go.RowKit
set_option maxRecDepth 100000
theorem pr_one {l : List Pr} : ∀ r ∈ l.map prC, r.all (·.oneCell') = true := fun r hr => by obtain ⟨x, _, rfl⟩ := List.mem_map.1 hr; rfl
theorem ok_of8 {l : List Ins} {reads : List UInt8} (he : (followR l reads).err = 0) : threadOk 6 l = true := by
  cases hl : threadOk 6 l with
  | true => rfl
  | false => rw [followR_bad hl] at he; cases he
def PlP.pA (q : PlP) (j : Nat) : Option Addr := if j = 0 then q.A2 else if j = 1 then q.A3 else q.A4
def PlP.pC (q : PlP) (j : Nat) : Nat := if j = 0 then q.c2 else if j = 1 then q.c3 else q.c4
def PlP.pL (q : PlP) (j : Nat) : List Pr := if j = 0 then q.path.data else if j = 1 then q.path.ctrl else q.path.rmw
theorem pA_at {w : World} {q : PlP} (h : PathAt w q) (j : Nat) : RowsAt w (q.pA j) 2 ((q.pL j).map prC) := by
  unfold PlP.pA PlP.pL
  by_cases h0 : j = 0
  · rw [if_pos h0, if_pos h0]; exact h.data
  · rw [if_neg h0, if_neg h0]
    by_cases h1 : j = 1
    · rw [if_pos h1, if_pos h1]; exact h.ctrl
    · rw [if_neg h1, if_neg h1]; exact h.rmw
theorem pN_at {w : World} {q : PlP} (h : PathAt w q) (j : Nat) : (q.pL j).length ≤ 1000000000000 := by
  unfold PlP.pL
  by_cases h0 : j = 0
  · rw [if_pos h0]; exact h.dataN
  · rw [if_neg h0]
    by_cases h1 : j = 1
    · rw [if_pos h1]; exact h.ctrlN
    · rw [if_neg h1]; exact h.rmwN
def headC (q : PlP) : List Value := [.slice q.A2 q.path.data.length q.c2, .slice q.A3 q.path.ctrl.length q.c3, .slice q.A4 q.path.rmw.length q.c4]
theorem head_at (q : PlP) {j : Nat} (h : j < 3) : (headC q)[j]? = some (.slice (q.pA j) (q.pL j).length (q.pC j)) := by
  have : j = 0 ∨ j = 1 ∨ j = 2 := by omega
  rcases this with rfl | rfl | rfl <;> rfl
theorem pK_at {q : PlP} (h0 : PairsOk 0 q.path.evs q.path.data) (h1 : PairsOk 1 q.path.evs q.path.ctrl) (h2 : PairsOk 2 q.path.evs q.path.rmw) {j : Nat} (h : j < 3) : PairsOk j q.path.evs (q.pL j) := by
  have : j = 0 ∨ j = 1 ∨ j = 2 := by omega
  rcases this with rfl | rfl | rfl
  · exact h0
  · exact h1
  · exact h2
theorem set_split {l : List UInt8} {k : Nat} {u : UInt8} (h : l[k]? = some u) : l = l.take k ++ u :: l.drop (k + 1) := by
  obtain ⟨h1, rfl⟩ := List.getElem?_eq_some_iff.1 h
  rw [← List.drop_eq_getElem_cons h1, List.take_append_drop]
theorem set_put {l : List UInt8} {k : Nat} (h : k < l.length) (v : UInt8) : l.set k v = l.take k ++ v :: l.drop (k + 1) := by
  rw [List.set_eq_take_append_cons_drop, if_pos h]
theorem done12 {l : List Ins} (hl : threadOk 6 l = true) {ws : List UInt8} (hw : 12 ≤ ws.length) : ∃ k z, k ≤ 12 ∧ Done8 l (ws.take k) z := by
  obtain ⟨k, z, hk, h⟩ := path_ex 12 zRun ws (Nat.le_trans (Nat.sub_le _ _) (thr_len hl)) hw
  exact ⟨k, z, hk, .of hl h⟩
def hgs (a b : UInt8) (L : List Pr) (t : Nat) : Bool := (L.take t).any fun x => x.1 == a && x.2 == b
theorem hgs_succ {a b : UInt8} {L : List Pr} {t : Nat} {x : Pr} (h : L[t]? = some x) : hgs a b L (t + 1) = (hgs a b L t || (x.1 == a && x.2 == b)) := by
  unfold hgs
  rw [List.take_add_one, h, List.any_append]
  simp
theorem hgs_all {a b : UInt8} {L : List Pr} (h : hgs a b L L.length = false) : (a, b) ∉ L := fun hm => by
  unfold hgs at h
  rw [List.take_length] at h
  have := List.any_eq_false.1 h _ hm
  simp at this
def swB (w x : Ev) : Bool := x.kind == 2 && x.ins == w.ins && x.loc == w.loc && x.val == w.val && x.mode == w.mode
def mts (w : Ev) (E : List Ev) (t : Nat) : Bool := (E.take t).any (swB w)
theorem mts_succ {w : Ev} {E : List Ev} {t : Nat} {x : Ev} (h : E[t]? = some x) : mts w E (t + 1) = (mts w E t || swB w x) := by
  unfold mts
  rw [List.take_add_one, h, List.any_append]
  simp
theorem mts_all {w e : Ev} {E : List Ev} (he : e ∈ E) (h : SameW w e) : mts w E E.length = true := by
  unfold mts
  rw [List.take_length]
  refine List.any_eq_true.2 ⟨e, he, ?_⟩
  obtain ⟨h1, h2, h3, h4, h5⟩ := h
  unfold swB
  rw [h1, h2, h3, h4, h5]
  simp
theorem evs_tk {l : List Ev} {i : Nat} {x : Ev} (h : l[i]? = some x) : l.take (i + 1) = l.take i ++ [x] := by rw [List.take_add_one, h]; rfl
theorem set_rows {l : List UInt8} {k : Nat} {u v : UInt8} : (l.map fun x => [b8 x]).set k ([b8 u].set 0 (b8 v)) = bRows (l.set k v) := by
  unfold bRows
  rw [List.map_set]; rfl
theorem zero_bytes {w : World} {A : Option Addr} {n : Nat} {l : List UInt8} (h : RowsAt w A 1 (([] ++ bRows l) ++ List.replicate n [b8 0])) : RowsAt w A 1 ((l ++ List.replicate n 0).map fun x => [b8 x]) := by
  have e : ([] ++ bRows l) ++ List.replicate n [b8 0] = (l ++ List.replicate n 0).map fun x => [b8 x] := by simp [bRows]
  rw [← e]; exact h
theorem zero_one {n : Nat} {l : List UInt8} : ∀ r ∈ ([] ++ bRows l) ++ List.replicate n [b8 0], r.length = 1 := fun r hr => by
  simp only [List.nil_append, List.mem_append, List.mem_replicate] at hr
  rcases hr with hr | ⟨_, rfl⟩
  · exact bRows_one r hr
  · rfl
theorem zero_one' {l : List UInt8} : ∀ r ∈ ([] : List (List Value)) ++ bRows l, r.length = 1 := fun r hr => bRows_one r (by rw [List.nil_append] at hr; exact hr)
set_option maxHeartbeats 16000000 in
theorem pathHangs_any (A : Option Addr) (C : Nat) (l : List Ins) (RA : Option Addr) (RC : Nat) (reads : List UInt8) (which v : UInt8) (w0 : World) (hA : RowsAt w0 A 10 (l.map Ins.cells)) (hn : l.length ≤ 9223372036854775807) (hR : RowsAt w0 RA 1 (reads.map fun x => [b8 x])) (hrn : reads.length ≤ 140737488351232) (hN : NeedsAt w0) (hT : TabAt w0) :
    Calls Tryz.prog 4 #[.slice A l.length C, .slice RA reads.length RC, b8 which, b8 v] w0 fun e w' => e = .returned (.bool true) ∧ Below w0.heap.size w0 w' := by
  have H := Own.start w0 none
  refine enterF func4 rfl ntmps4 rfl (fun a F => ?_);refine cSR fun K1 hK1=>sAs F rfl rfl rfl (qNK hK1 (qSR fun K2 hK2=>qMv rfl rfl rfl (qMv rfl rfl rfl ?_)));clear hK1;clear F a;intro a F;refine sCall call11 F rfl rfl rfl (Follow_pl A C l.length l RA RC reads.length reads _ (hA.own H) rfl hn (RowsAt.own hR H) rfl (by omega) (hN.own H) (hT.own H)) ?_;rintro e w ⟨qp, hqp, rfl, H2⟩;replace H := H.join H2
  clear H2
  have hqs : smallP qp.path = true := by rw [hqp]; exact small_fol _ _
  obtain ⟨W1, rfl⟩ : ∃ W1, W1 = w := ⟨_, rfl⟩
  have H1 := H
  have hP : PathAt W1 qp := small_at (H.sel [0, 1, 2, 3] rfl rfl) hqs
  replace hA := hA.own H1
  replace hR := RowsAt.own hR H1
  replace hN := hN.own H1
  replace hT := hT.own H1
  replace H := Own.start W1 none
  have hpl := hP.evsN
  refine ⟨_, rfl, ?_⟩;clear F a; intro a F;refine sMv F rfl rfl rfl (qExt rfl rfl rfl rfl (qExt rfl rfl rfl rfl (qExt rfl rfl rfl rfl ?_)));clear F a;intro a F;refine sAl H zeroValue28 F rfl rfl ?_;clear F a H; intro b9 a w F H
  refine sSr H 0 ?si F rfl rfl rfl ?s1 rfl rfl ?_
  case si => exact info_size sizeOf28
  case s1 => first | rfl | (repeat (first | exact one_nil | (apply one_cons; · first | rfl | assumption | exact one_bif rfl rfl)))
  clear H; intro w H;refine sAs F rfl rfl rfl (qAs rfl rfl rfl (qNK hK2 ?_));clear hK2;clear F a;intro a F;refine cSeq (fun K3 hK3 => ?_);refine cSR fun K4 hK4=>sMv F rfl rfl rfl (qBin rfl rfl rfl rfl bNeq (qMv rfl rfl rfl ?_));clear F a;intro a F
  refine F.split 46 rfl ?_ ?_ <;> (clear F; intro h46 F)
  ·
   replace h46 := bneT h46;refine sSk F rfl rfl (qPk rfl rfl rfl rfl (qNK hK4 ?_));clear hK4;clear F a;intro a F;refine cIfT F rfl ?_;refine cSR fun K5 hK5=>?_;refine sCall call12 F rfl rfl rfl (awake8_any _ (hN.own H) (hT.own H)) ?_;rintro e w ⟨rfl, hb⟩;replace H := H.grow hb; clear hb;refine ⟨_, rfl, ?_⟩;clear F a; intro a F;refine sAs F rfl rfl rfl (qNK hK5 ?_);clear hK5;clear F a;intro a F;refine wp_ret ?_;simp only [Exit.then];refine bRet results4 F rfl ?_
   first | exact ⟨rfl, H.below⟩ | exact ⟨rfl, (H1.grow H.below).below⟩
  replace h46 := bneF h46;refine sMv F rfl rfl rfl (qPk rfl rfl rfl rfl (qNK hK4 ?_));clear hK4;clear F a;intro a F
  refine cIf F rfl (fun h48 => ?_) (fun h48 => ?_)
  ·
   refine cSR fun K6 hK6=>?_;refine sCall call12 F rfl rfl rfl (awake8_any _ (hN.own H) (hT.own H)) ?_;rintro e w ⟨rfl, hb⟩;replace H := H.grow hb; clear hb;refine ⟨_, rfl, ?_⟩;clear F a; intro a F;refine sAs F rfl rfl rfl (qNK hK6 ?_);clear hK6;clear F a;intro a F;refine wp_ret ?_;simp only [Exit.then];refine bRet results4 F rfl ?_
   first | exact ⟨rfl, H.below⟩ | exact ⟨rfl, (H1.grow H.below).below⟩
  have hl := ok_of8 (l := l) (reads := reads) (by omega)
  obtain ⟨zp, hzp⟩ := done_of hl (reads := reads) (by omega) h48
  have hpp : qp.path = runPath zp := by rw [hqp, hzp.fol]
  have hInv := hzp.path.inv hl (inv_zero l)
  have hm24 : zp.many ≤ 24 := by have := hInv.many; have := hInv.pc; have := thr_len hl; omega
  have hpe : qp.path.evs.length ≤ 24 := by rw [hpp]; show (evsP zp).length ≤ 24; rw [evs_len]; exact hm24
  obtain ⟨hk0, hk1, hk2⟩ := (hzp.path.invH invH_zero).pairs hm24 hInv.sets
  rw [← hpp] at hk0 hk1 hk2;refine wp_skip (hK3 _ _ ?_);clear hK3;refine cSeq (fun K7 hK7 => ?_);refine cSR fun K8 hK8=>sFa (f := 1) (k := 1) underlying28 rfl sizeOf25 rfl rfl F rfl rfl rfl (qLd isAgg25 rfl rfl rfl (H.cell 0 rfl rfl) (qFa (f := 2) (k := 2) underlying28 rfl sizeOf25 rfl rfl rfl rfl rfl (qLd isAgg25 rfl rfl rfl (H.cell 0 rfl rfl) (qFa (f := 3) (k := 3) underlying28 rfl sizeOf25 rfl rfl rfl rfl rfl (qLd isAgg25 rfl rfl rfl (H.cell 0 rfl rfl) ?_)))));clear F a;intro a F;refine sBs H underlying37 sizeOf25 zeroValue25 rfl F rfl rfl rfl rfl rfl ?_;clear F a H; intro b56 a w F H;refine sLen underlying37 F rfl rfl rfl (qMv rfl rfl rfl (qNK hK8 ?_));clear hK8;clear F a;intro a F;refine wp_block ?_
  refine cLoopR [0, 1, 2, 3, 9, 56, 57] (fun m ups w => ∃ j : Nat, m = 3 - j ∧ ups = [(58, .int .i64 ((j : Nat) : Int))] ∧ j ≤ 3 ∧ Own W1 none w [.blk b56 (headC qp) 25, .blk b9 qp.cells 28]) F (3) [(58, .int .i64 ((0 : Nat) : Int))] (by repeat (first | exact SubR.nil | (apply SubR.cons; · rfl))) ?_ ?_ ?_
  · exact ⟨0, rfl, rfl, by omega, H.sel [0, 1] rfl rfl⟩
  · repeat (first | exact trivial | refine Le.cons rfl ?_)
  clear F
  clear H
  intro m ups a w hI F
  obtain ⟨j, rfl, rfl, hj, H⟩ := hI
  refine cSR fun K9 hK9=>sBin F rfl rfl rfl rfl bLss (qNK hK9 ?_);clear hK9;clear F a;intro a F;refine cSeq (fun K10 hK10 => ?_)
  refine cIf F rfl (fun h59 => ?_) (fun h59 => ?_)
  ·
   replace h59 := of_decide_eq_true h59
   have hj3 : j < 3 := by omega
   have hJc := head_at qp hj3
   have hJr := pA_at hP j
   have hJk := pK_at hk0 hk1 hk2 hj3
   have hJn := pN_at hP j
   obtain ⟨AJ, hAJ⟩ : ∃ a, a = qp.pA j := ⟨_, rfl⟩
   obtain ⟨lJ, hlJ⟩ : ∃ a, a = qp.pL j := ⟨_, rfl⟩
   obtain ⟨cJ, hcJ⟩ : ∃ a, a = qp.pC j := ⟨_, rfl⟩
   rw [← hAJ, ← hlJ, ← hcJ] at hJc;rw [← hAJ, ← hlJ] at hJr;rw [← hlJ] at hJk hJn
   clear hAJ hlJ hcJ
   refine wp_skip (hK10 _ _ ?_);clear hK10;refine cSeq (fun K11 hK11 => ?_);refine wp_block ?_;refine cSR fun K12 hK12=>sMv F rfl rfl rfl ?_;clear F a;intro a F
   refine sIx underlying37 sizeOf25 F rfl rfl rfl rfl ?_ ?_
   focus exact hj3
   clear F a; intro a F;refine sLd isAgg25 F rfl rfl rfl (show World.cell? _ ⟨b56, 0 + j * 1, none⟩ = some (.slice AJ lJ.length cJ) by rw [Nat.zero_add, Nat.mul_one]; exact H.cell 0 rfl hJc) (qAs rfl rfl rfl (qAs rfl rfl rfl (qNK hK12 (qSR fun K13 hK13=>qMv rfl rfl rfl (qLen underlying25 rfl rfl rfl (qMv rfl rfl rfl (qNK hK13 ?_)))))));clear hK12 hK13;clear F a;intro a F;refine wp_block ?_
   refine cLoopR [0, 1, 2, 3, 9, 12, 13, 56, 57, 58, 63, 64] (fun m ups w => ∃ i : Nat, m = lJ.length - i ∧ ups = [(65, .int .i64 ((i : Nat) : Int))] ∧ i ≤ lJ.length ∧ Own W1 none w [.blk b56 (headC qp) 25, .blk b9 qp.cells 28]) F (lJ.length) [(65, .int .i64 ((0 : Nat) : Int))] (by repeat (first | exact SubR.nil | (apply SubR.cons; · rfl))) ?_ ?_ ?_
   · exact ⟨0, rfl, rfl, by omega, H.sel [0, 1] rfl rfl⟩
   · repeat (first | exact trivial | refine Le.cons rfl ?_)
   clear F
   clear H
   intro m ups a w hI F
   obtain ⟨i, rfl, rfl, hi, H⟩ := hI
   refine cSR fun K14 hK14=>sBin F rfl rfl rfl rfl bLss (qNK hK14 ?_);clear hK14;clear F a;intro a F;refine cSeq (fun K15 hK15 => ?_)
   refine cIf F rfl (fun h66 => ?_) (fun h66 => ?_)
   ·
    replace h66 := of_decide_eq_true h66
    have hil : i < lJ.length := by omega
    obtain ⟨x, hx⟩ : ∃ x, lJ[i]? = some x := ⟨_, List.getElem?_eq_getElem hil⟩
    obtain ⟨bJ, oJ, rfl, hRJ⟩ := hJr i (bs 2 (prF x)) (by rw [List.getElem?_map, hx]; rfl)
    have hok := hJk.at hx
    have hhi := hok.hi
    have hlt := hok.lt
    obtain ⟨e0, he0⟩ : ∃ e, qp.path.evs[x.1.toNat]? = some e := ⟨_, List.getElem?_eq_getElem (by omega)⟩
    obtain ⟨e1, he1⟩ : ∃ e, qp.path.evs[x.2.toNat]? = some e := ⟨_, List.getElem?_eq_getElem hhi⟩
    have hr0 := hok.rd e0 he0
    obtain ⟨bE, oE, hA1, hRE0⟩ := hP.evs x.1.toNat _ (evAt he0)
    have hRE1 : World.rangeAt W1 bE (oE + x.2.toNat * 7) e1.cells := by
      obtain ⟨b', o', he, hr⟩ := hP.evs x.2.toNat _ (evAt he1)
      rw [hA1] at he; cases he; exact hr
    have hp1 : prF x 1 = x.2 := rfl
    have hp0 : prF x 0 = x.1 := rfl
    refine wp_skip (hK15 _ _ ?_);clear hK15;refine cSeq (fun K16 hK16 => ?_);refine wp_block ?_;refine cSR fun K17 hK17=>sMv F rfl rfl rfl ?_;clear F a;intro a F
    refine sIx underlying25 sizeOf38 F rfl rfl rfl rfl ?_ ?_
    focus exact hil
    clear F a; intro a F;refine sLrB underlying38 rfl sizeOf38 F rfl rfl rfl (H.argR hRJ) ?_;clear F a;intro a F;refine sAlB H zB38 F rfl rfl ?_;clear F a H; intro b15 a w F H;refine sAs F rfl rfl rfl ?_;clear F a;intro a F;refine sSrB H 0 sizeOf38 F rfl rfl rfl rfl (by omega) ?_;clear H; intro w H;rw [lay_all] at H;refine nK hK17 ?_;clear hK17
    refine cSeqJ [0, 1, 2, 3, 9, 12, 13, 14, 15, 56, 57, 58, 63, 64, 65] (fun ups w => ups = [] ∧ Own W1 none w [.blk b15 (bs 2 (prF x)) 38, .blk b56 (headC qp) 25, .blk b9 qp.cells 28]) F (by repeat (first | exact SubR.nil | (apply SubR.cons; · rfl))) ?_ ?_
    ·
     refine cSeq (fun K18 hK18 => ?_);refine cRegRO (by kernel_rfl) H ?_;replace H := H.drew
     refine eTakeF (k := 0) (i := 0) rfl (by kernel_rfl) F rfl rfl rfl (fun w => rIa (j := 1) underlying38 sizeOf5 F rfl rfl ?_) H (fun _ _ _ h => h) ?_
     focus (first | omega | decide | (simp; omega))
     clear F a; intro a F;refine eT 1 rfl (by kernel_rfl) F rfl rfl rfl rfl (fun w H=>rLd isAgg5 F rfl (H.cellB 0 rfl (by omega))) H qq0 (qTF 2 rfl (by kernel_rfl) rfl rfl rfl (fun a F w=>rCv underlying5 underlying3 F rfl (wrapB _)) H qq0 (qTF 3 rfl (by kernel_rfl) rfl rfl rfl (fun a F w=>rFa (f := 0) (k := 0) underlying28 rfl sizeOf24 rfl rfl F rfl) H qq0 (qT 4 rfl (by kernel_rfl) rfl rfl rfl rfl (fun a F w H=>rLd isAgg24 F rfl (H.cell 2 rfl rfl)) H qq0 (qT 5 rfl (by kernel_rfl) rfl rfl rfl rfl (fun a F w H=>rLen underlying24 F rfl) H qq0 (qTF 6 rfl (by kernel_rfl) rfl rfl rfl (fun a F w=>rBin F rfl rfl bGeq) H qq0 (qTF 7 rfl (by kernel_rfl) rfl rfl rfl (fun a F w=>rMv F rfl) H qq0 ?_))))));clear F a;intro a F
     refine F.split 77 rfl ?_ ?_ <;> (clear F; intro h77 F)
     ·
      replace h77 := of_decide_eq_true h77
      rw [hp1] at h77; omega
     replace h77 := of_decide_eq_false h77
     refine eTakeF (k := 8) (i := 8) rfl (by kernel_rfl) F rfl rfl rfl (fun w => rIa (j := 0) underlying38 sizeOf5 F rfl rfl ?_) H (fun _ _ _ h => h) ?_
     focus (first | omega | decide | (simp; omega))
     clear F a; intro a F;refine eT 9 rfl (by kernel_rfl) F rfl rfl rfl rfl (fun w H=>rLd isAgg5 F rfl (H.cellB 0 rfl (by omega))) H qq0 ?_;clear F a;intro a F
     refine eTakeF (k := 10) (i := 10) rfl (by kernel_rfl) F rfl rfl rfl (fun w => rIa (j := 1) underlying38 sizeOf5 F rfl rfl ?_) H (fun _ _ _ h => h) ?_
     focus (first | omega | decide | (simp; omega))
     clear F a; intro a F;refine eT 11 rfl (by kernel_rfl) F rfl rfl rfl rfl (fun w H=>rLd isAgg5 F rfl (H.cellB 0 rfl (by omega))) H qq0 (qTF 12 rfl (by kernel_rfl) rfl rfl rfl (fun a F w=>rBin F rfl rfl bGeqB) H qq0 (qTF 13 rfl (by kernel_rfl) rfl rfl rfl (fun a F w=>rPk F rfl rfl) H qq0 (qTF 14 rfl (by kernel_rfl) rfl rfl rfl (fun a F w=>rMv F rfl) H qq0 ?_)));clear F a;intro a F
     refine F.split 84 rfl ?_ ?_ <;> (clear F; intro h84 F)
     ·
      replace h84 := of_decide_eq_true h84
      rw [hp0, hp1] at h84; exact absurd hlt (Nat.not_lt.2 h84)
     replace h84 := of_decide_eq_false h84;refine eTF 15 rfl (by kernel_rfl) F rfl rfl rfl (fun w=>rFa (f := 0) (k := 0) underlying28 rfl sizeOf24 rfl rfl F rfl) H qq0 ?_;clear F a;intro a F;refine eTake (k := 16) (i := 16) rfl (by kernel_rfl) F rfl rfl rfl rfl (fun w H => rLd isAgg24 F rfl (show World.cell? _ ⟨b9, 0, none⟩ = some (.slice (some ⟨bE, oE, none⟩) qp.path.evs.length qp.c1) by rw [← hA1]; exact H.cell 2 rfl rfl)) H (fun _ _ _ h => h) ?_;clear F a;intro a F
     refine eTakeF (k := 17) (i := 17) rfl (by kernel_rfl) F rfl rfl rfl (fun w => rIa (j := 0) underlying38 sizeOf5 F rfl rfl ?_) H (fun _ _ _ h => h) ?_
     focus (first | omega | decide | (simp; omega))
     clear F a; intro a F;refine eT 18 rfl (by kernel_rfl) F rfl rfl rfl rfl (fun w H=>rLd isAgg5 F rfl (H.cellB 0 rfl (by omega))) H qq0 ?_;clear F a;intro a F
     refine eTakeF (k := 19) (i := 19) rfl (by kernel_rfl) F rfl rfl rfl (fun w => rIx underlying24 sizeOf34 F rfl rfl ?_) H (fun _ _ _ h => h) ?_
     focus (show x.1.toNat < qp.path.evs.length; omega)
     clear F a; intro a F;refine eTF 20 rfl (by kernel_rfl) F rfl rfl rfl (fun w=>rFa (f := 1) underlying34 rfl sizeOf5 rfl rfl F rfl) H qq0 (qT 21 rfl (by kernel_rfl) rfl rfl rfl rfl (fun a F w H=>rLd isAgg5 F rfl (H.arg (hRE0 1 _ rfl))) H qq0 (qTF 22 rfl (by kernel_rfl) rfl rfl rfl (fun a F w=>rBin F rfl rfl (bNeqB (y := 1))) H qq0 (qTF 23 rfl (by kernel_rfl) rfl rfl rfl (fun a F w=>rPk F rfl rfl) H qq0 (qTF 24 rfl (by kernel_rfl) rfl rfl rfl (fun a F w=>rMv F rfl) H qq0 ?_))));clear F a;intro a F
     refine F.split 94 rfl ?_ ?_ <;> (clear F; intro h94 F)
     ·
      replace h94 := bneT h94
      exact (h94 hr0).elim
     replace h94 := bneF h94;refine eTF 25 rfl (by kernel_rfl) F rfl rfl rfl (fun w=>rMv F rfl) H qq0 (qTF 26 rfl (by kernel_rfl) rfl rfl rfl (fun a F w=>rBin F rfl rfl bNeq) H qq0 (qTF 27 rfl (by kernel_rfl) rfl rfl rfl (fun a F w=>rMv F rfl) H qq0 ?_));clear F a;intro a F
     refine F.split 97 rfl ?_ ?_ <;> (clear F; intro h97 F)
     ·
      replace h97 := bneT h97;refine eTF 28 rfl (by kernel_rfl) F rfl rfl rfl (fun w=>rFa (f := 0) (k := 0) underlying28 rfl sizeOf24 rfl rfl F rfl) H qq0 ?_;clear F a;intro a F;refine eTake (k := 29) (i := 29) rfl (by kernel_rfl) F rfl rfl rfl rfl (fun w H => rLd isAgg24 F rfl (show World.cell? _ ⟨b9, 0, none⟩ = some (.slice (some ⟨bE, oE, none⟩) qp.path.evs.length qp.c1) by rw [← hA1]; exact H.cell 2 rfl rfl)) H (fun _ _ _ h => h) ?_;clear F a;intro a F
      refine eTakeF (k := 30) (i := 30) rfl (by kernel_rfl) F rfl rfl rfl (fun w => rIa (j := 1) underlying38 sizeOf5 F rfl rfl ?_) H (fun _ _ _ h => h) ?_
      focus (first | omega | decide | (simp; omega))
      clear F a; intro a F;refine eT 31 rfl (by kernel_rfl) F rfl rfl rfl rfl (fun w H=>rLd isAgg5 F rfl (H.cellB 0 rfl (by omega))) H qq0 ?_;clear F a;intro a F
      refine eTakeF (k := 32) (i := 32) rfl (by kernel_rfl) F rfl rfl rfl (fun w => rIx underlying24 sizeOf34 F rfl rfl ?_) H (fun _ _ _ h => h) ?_
      focus exact hhi
      clear F a; intro a F;refine eTF 33 rfl (by kernel_rfl) F rfl rfl rfl (fun w=>rFa (f := 1) underlying34 rfl sizeOf5 rfl rfl F rfl) H qq0 (qT 34 rfl (by kernel_rfl) rfl rfl rfl rfl (fun a F w H=>rLd isAgg5 F rfl (H.arg (hRE1 1 _ rfl))) H qq0 (qTF 35 rfl (by kernel_rfl) rfl rfl rfl (fun a F w=>rBin F rfl rfl (bNeqB (y := 2))) H qq0 (qTF 36 rfl (by kernel_rfl) rfl rfl rfl (fun a F w=>rPk F rfl rfl) H qq0 (qTF 37 rfl (by kernel_rfl) rfl rfl rfl (fun a F w=>rPk F rfl rfl) H qq0 (qTF 38 rfl (by kernel_rfl) rfl rfl rfl (fun a F w=>rMv F rfl) H qq0 ?_)))));clear F a;intro a F
      refine F.split 108 rfl ?_ ?_ <;> (clear F; intro h108 F)
      ·
       replace h108 := bneT h108
       exact (h108 (hok.wr (by omega) e1 he1)).elim
      replace h108 := bneF h108;refine eTF 39 rfl (by kernel_rfl) F rfl rfl rfl (fun w=>rMv F rfl) H qq0 (qTF 40 rfl (by kernel_rfl) rfl rfl rfl (fun a F w=>rBin F rfl rfl bEql) H qq0 (qTF 41 rfl (by kernel_rfl) rfl rfl rfl (fun a F w=>rMv F rfl) H qq0 ?_));clear F a;intro a F
      refine F.split 111 rfl ?_ ?_ <;> (clear F; intro h111 F)
      ·
       replace h111 := beqT h111;refine eTF 42 rfl (by kernel_rfl) F rfl rfl rfl (fun w=>rFa (f := 0) (k := 0) underlying28 rfl sizeOf24 rfl rfl F rfl) H qq0 ?_;clear F a;intro a F;refine eTake (k := 43) (i := 43) rfl (by kernel_rfl) F rfl rfl rfl rfl (fun w H => rLd isAgg24 F rfl (show World.cell? _ ⟨b9, 0, none⟩ = some (.slice (some ⟨bE, oE, none⟩) qp.path.evs.length qp.c1) by rw [← hA1]; exact H.cell 2 rfl rfl)) H (fun _ _ _ h => h) ?_;clear F a;intro a F
       refine eTakeF (k := 44) (i := 44) rfl (by kernel_rfl) F rfl rfl rfl (fun w => rIa (j := 0) underlying38 sizeOf5 F rfl rfl ?_) H (fun _ _ _ h => h) ?_
       focus (first | omega | decide | (simp; omega))
       clear F a; intro a F;refine eT 45 rfl (by kernel_rfl) F rfl rfl rfl rfl (fun w H=>rLd isAgg5 F rfl (H.cellB 0 rfl (by omega))) H qq0 ?_;clear F a;intro a F
       refine eTakeF (k := 46) (i := 46) rfl (by kernel_rfl) F rfl rfl rfl (fun w => rIx underlying24 sizeOf34 F rfl rfl ?_) H (fun _ _ _ h => h) ?_
       focus (show x.1.toNat < qp.path.evs.length; omega)
       clear F a; intro a F;refine eTF 47 rfl (by kernel_rfl) F rfl rfl rfl (fun w=>rFa (f := 2) underlying34 rfl sizeOf5 rfl rfl F rfl) H qq0 (qT 48 rfl (by kernel_rfl) rfl rfl rfl rfl (fun a F w H=>rLd isAgg5 F rfl (H.arg (hRE0 2 _ rfl))) H qq0 (qTF 49 rfl (by kernel_rfl) rfl rfl rfl (fun a F w=>rFa (f := 0) (k := 0) underlying28 rfl sizeOf24 rfl rfl F rfl) H qq0 ?_));clear F a;intro a F;refine eTake (k := 50) (i := 50) rfl (by kernel_rfl) F rfl rfl rfl rfl (fun w H => rLd isAgg24 F rfl (show World.cell? _ ⟨b9, 0, none⟩ = some (.slice (some ⟨bE, oE, none⟩) qp.path.evs.length qp.c1) by rw [← hA1]; exact H.cell 2 rfl rfl)) H (fun _ _ _ h => h) ?_;clear F a;intro a F
       refine eTakeF (k := 51) (i := 51) rfl (by kernel_rfl) F rfl rfl rfl (fun w => rIa (j := 1) underlying38 sizeOf5 F rfl rfl ?_) H (fun _ _ _ h => h) ?_
       focus (first | omega | decide | (simp; omega))
       clear F a; intro a F;refine eT 52 rfl (by kernel_rfl) F rfl rfl rfl rfl (fun w H=>rLd isAgg5 F rfl (H.cellB 0 rfl (by omega))) H qq0 ?_;clear F a;intro a F
       refine eTakeF (k := 53) (i := 53) rfl (by kernel_rfl) F rfl rfl rfl (fun w => rIx underlying24 sizeOf34 F rfl rfl ?_) H (fun _ _ _ h => h) ?_
       focus exact hhi
       clear F a; intro a F;refine eTF 54 rfl (by kernel_rfl) F rfl rfl rfl (fun w=>rFa (f := 2) underlying34 rfl sizeOf5 rfl rfl F rfl) H qq0 (qT 55 rfl (by kernel_rfl) rfl rfl rfl rfl (fun a F w H=>rLd isAgg5 F rfl (H.arg (hRE1 2 _ rfl))) H qq0 (qTF 56 rfl (by kernel_rfl) rfl rfl rfl (fun a F w=>rBin F rfl rfl bNeqB) H qq0 (qTF 57 rfl (by kernel_rfl) rfl rfl rfl (fun a F w=>rPk F rfl rfl) H qq0 (qTF 58 rfl (by kernel_rfl) rfl rfl rfl (fun a F w=>rPk F rfl rfl) H qq0 ?_))));clear F a;intro a F;refine eNil (k := 59) (by kernel_rfl) ?_;refine hK18 _ _ ?_;clear hK18
       refine cIf F rfl (fun h128 => ?_) (fun h128 => ?_)
       ·
        replace h128 := bneT h128
        exact (h128 (hok.lc (by omega) e0 e1 he0 he1)).elim
       replace h128 := bneF h128;refine wp_skip ?_
       exact ⟨_, ⟨rfl, H.sel [0, 1, 2] rfl rfl⟩, F.to (by repeat (first | exact trivial | refine Le.cons rfl ?_))⟩
      replace h111 := beqF h111;refine eSF 42 rfl (by kernel_rfl) F rfl rfl rfl H qq0 (qSF 43 rfl (by kernel_rfl) rfl rfl rfl H qq0 (qSF 44 rfl (by kernel_rfl) rfl rfl rfl H qq0 (qSF 45 rfl (by kernel_rfl) rfl rfl rfl H qq0 (qSF 46 rfl (by kernel_rfl) rfl rfl rfl H qq0 (qSF 47 rfl (by kernel_rfl) rfl rfl rfl H qq0 (qSF 48 rfl (by kernel_rfl) rfl rfl rfl H qq0 (qSF 49 rfl (by kernel_rfl) rfl rfl rfl H qq0 (qSF 50 rfl (by kernel_rfl) rfl rfl rfl H qq0 (qSF 51 rfl (by kernel_rfl) rfl rfl rfl H qq0 (qSF 52 rfl (by kernel_rfl) rfl rfl rfl H qq0 (qSF 53 rfl (by kernel_rfl) rfl rfl rfl H qq0 (qSF 54 rfl (by kernel_rfl) rfl rfl rfl H qq0 (qSF 55 rfl (by kernel_rfl) rfl rfl rfl H qq0 (qSF 56 rfl (by kernel_rfl) rfl rfl rfl H qq0 (qTF 57 rfl (by kernel_rfl) rfl rfl rfl (fun a F w=>rPk F rfl rfl) H qq0 (qTF 58 rfl (by kernel_rfl) rfl rfl rfl (fun a F w=>rPk F rfl rfl) H qq0 ?_))))))))))))))));clear F a;intro a F;refine eNil (k := 59) (by kernel_rfl) ?_;refine hK18 _ _ ?_;clear hK18;refine cIfF F rfl ?_;refine wp_skip ?_
      exact ⟨_, ⟨rfl, H.sel [0, 1, 2] rfl rfl⟩, F.to (by repeat (first | exact trivial | refine Le.cons rfl ?_))⟩
     replace h97 := bneF h97;refine eSF 28 rfl (by kernel_rfl) F rfl rfl rfl H qq0 (qSF 29 rfl (by kernel_rfl) rfl rfl rfl H qq0 (qSF 30 rfl (by kernel_rfl) rfl rfl rfl H qq0 (qSF 31 rfl (by kernel_rfl) rfl rfl rfl H qq0 (qSF 32 rfl (by kernel_rfl) rfl rfl rfl H qq0 (qSF 33 rfl (by kernel_rfl) rfl rfl rfl H qq0 (qSF 34 rfl (by kernel_rfl) rfl rfl rfl H qq0 (qSF 35 rfl (by kernel_rfl) rfl rfl rfl H qq0 (qTF 36 rfl (by kernel_rfl) rfl rfl rfl (fun a F w=>rPk F rfl rfl) H qq0 (qTF 37 rfl (by kernel_rfl) rfl rfl rfl (fun a F w=>rPk F rfl rfl) H qq0 (qTF 38 rfl (by kernel_rfl) rfl rfl rfl (fun a F w=>rMv F rfl) H qq0 (qTF 39 rfl (by kernel_rfl) rfl rfl rfl (fun a F w=>rMv F rfl) H qq0 (qTF 40 rfl (by kernel_rfl) rfl rfl rfl (fun a F w=>rBin F rfl rfl bEql) H qq0 (qTF 41 rfl (by kernel_rfl) rfl rfl rfl (fun a F w=>rMv F rfl) H qq0 ?_)))))))))))));clear F a;intro a F
     refine F.split 111 rfl ?_ ?_ <;> (clear F; intro h111 F)
     ·
      replace h111 := beqT h111;refine eTF 42 rfl (by kernel_rfl) F rfl rfl rfl (fun w=>rFa (f := 0) (k := 0) underlying28 rfl sizeOf24 rfl rfl F rfl) H qq0 ?_;clear F a;intro a F;refine eTake (k := 43) (i := 43) rfl (by kernel_rfl) F rfl rfl rfl rfl (fun w H => rLd isAgg24 F rfl (show World.cell? _ ⟨b9, 0, none⟩ = some (.slice (some ⟨bE, oE, none⟩) qp.path.evs.length qp.c1) by rw [← hA1]; exact H.cell 2 rfl rfl)) H (fun _ _ _ h => h) ?_;clear F a;intro a F
      refine eTakeF (k := 44) (i := 44) rfl (by kernel_rfl) F rfl rfl rfl (fun w => rIa (j := 0) underlying38 sizeOf5 F rfl rfl ?_) H (fun _ _ _ h => h) ?_
      focus (first | omega | decide | (simp; omega))
      clear F a; intro a F;refine eT 45 rfl (by kernel_rfl) F rfl rfl rfl rfl (fun w H=>rLd isAgg5 F rfl (H.cellB 0 rfl (by omega))) H qq0 ?_;clear F a;intro a F
      refine eTakeF (k := 46) (i := 46) rfl (by kernel_rfl) F rfl rfl rfl (fun w => rIx underlying24 sizeOf34 F rfl rfl ?_) H (fun _ _ _ h => h) ?_
      focus (show x.1.toNat < qp.path.evs.length; omega)
      clear F a; intro a F;refine eTF 47 rfl (by kernel_rfl) F rfl rfl rfl (fun w=>rFa (f := 2) underlying34 rfl sizeOf5 rfl rfl F rfl) H qq0 (qT 48 rfl (by kernel_rfl) rfl rfl rfl rfl (fun a F w H=>rLd isAgg5 F rfl (H.arg (hRE0 2 _ rfl))) H qq0 (qTF 49 rfl (by kernel_rfl) rfl rfl rfl (fun a F w=>rFa (f := 0) (k := 0) underlying28 rfl sizeOf24 rfl rfl F rfl) H qq0 ?_));clear F a;intro a F;refine eTake (k := 50) (i := 50) rfl (by kernel_rfl) F rfl rfl rfl rfl (fun w H => rLd isAgg24 F rfl (show World.cell? _ ⟨b9, 0, none⟩ = some (.slice (some ⟨bE, oE, none⟩) qp.path.evs.length qp.c1) by rw [← hA1]; exact H.cell 2 rfl rfl)) H (fun _ _ _ h => h) ?_;clear F a;intro a F
      refine eTakeF (k := 51) (i := 51) rfl (by kernel_rfl) F rfl rfl rfl (fun w => rIa (j := 1) underlying38 sizeOf5 F rfl rfl ?_) H (fun _ _ _ h => h) ?_
      focus (first | omega | decide | (simp; omega))
      clear F a; intro a F;refine eT 52 rfl (by kernel_rfl) F rfl rfl rfl rfl (fun w H=>rLd isAgg5 F rfl (H.cellB 0 rfl (by omega))) H qq0 ?_;clear F a;intro a F
      refine eTakeF (k := 53) (i := 53) rfl (by kernel_rfl) F rfl rfl rfl (fun w => rIx underlying24 sizeOf34 F rfl rfl ?_) H (fun _ _ _ h => h) ?_
      focus exact hhi
      clear F a; intro a F;refine eTF 54 rfl (by kernel_rfl) F rfl rfl rfl (fun w=>rFa (f := 2) underlying34 rfl sizeOf5 rfl rfl F rfl) H qq0 (qT 55 rfl (by kernel_rfl) rfl rfl rfl rfl (fun a F w H=>rLd isAgg5 F rfl (H.arg (hRE1 2 _ rfl))) H qq0 (qTF 56 rfl (by kernel_rfl) rfl rfl rfl (fun a F w=>rBin F rfl rfl bNeqB) H qq0 (qTF 57 rfl (by kernel_rfl) rfl rfl rfl (fun a F w=>rPk F rfl rfl) H qq0 (qTF 58 rfl (by kernel_rfl) rfl rfl rfl (fun a F w=>rPk F rfl rfl) H qq0 ?_))));clear F a;intro a F;refine eNil (k := 59) (by kernel_rfl) ?_;refine hK18 _ _ ?_;clear hK18
      refine cIf F rfl (fun h128 => ?_) (fun h128 => ?_)
      ·
       replace h128 := bneT h128
       exact (h128 (hok.lc (by omega) e0 e1 he0 he1)).elim
      replace h128 := bneF h128;refine wp_skip ?_
      exact ⟨_, ⟨rfl, H.sel [0, 1, 2] rfl rfl⟩, F.to (by repeat (first | exact trivial | refine Le.cons rfl ?_))⟩
     replace h111 := beqF h111;refine eSF 42 rfl (by kernel_rfl) F rfl rfl rfl H qq0 (qSF 43 rfl (by kernel_rfl) rfl rfl rfl H qq0 (qSF 44 rfl (by kernel_rfl) rfl rfl rfl H qq0 (qSF 45 rfl (by kernel_rfl) rfl rfl rfl H qq0 (qSF 46 rfl (by kernel_rfl) rfl rfl rfl H qq0 (qSF 47 rfl (by kernel_rfl) rfl rfl rfl H qq0 (qSF 48 rfl (by kernel_rfl) rfl rfl rfl H qq0 (qSF 49 rfl (by kernel_rfl) rfl rfl rfl H qq0 (qSF 50 rfl (by kernel_rfl) rfl rfl rfl H qq0 (qSF 51 rfl (by kernel_rfl) rfl rfl rfl H qq0 (qSF 52 rfl (by kernel_rfl) rfl rfl rfl H qq0 (qSF 53 rfl (by kernel_rfl) rfl rfl rfl H qq0 (qSF 54 rfl (by kernel_rfl) rfl rfl rfl H qq0 (qSF 55 rfl (by kernel_rfl) rfl rfl rfl H qq0 (qSF 56 rfl (by kernel_rfl) rfl rfl rfl H qq0 (qTF 57 rfl (by kernel_rfl) rfl rfl rfl (fun a F w=>rPk F rfl rfl) H qq0 (qTF 58 rfl (by kernel_rfl) rfl rfl rfl (fun a F w=>rPk F rfl rfl) H qq0 ?_))))))))))))))));clear F a;intro a F;refine eNil (k := 59) (by kernel_rfl) ?_;refine hK18 _ _ ?_;clear hK18;refine cIfF F rfl ?_;refine wp_skip ?_
     exact ⟨_, ⟨rfl, H.sel [0, 1, 2] rfl rfl⟩, F.to (by repeat (first | exact trivial | refine Le.cons rfl ?_))⟩
    clear F H
    intro ups a w hI F
    obtain ⟨rfl, H⟩ := hI
    refine cSeq (fun K19 hK19 => ?_);refine cRegRO (by kernel_rfl) H ?_;replace H := H.drew;refine eTF 0 rfl (by kernel_rfl) F rfl rfl rfl (fun w=>rMv F rfl) H qq0 (qTF 1 rfl (by kernel_rfl) rfl rfl rfl (fun a F w=>rBin F rfl rfl bGtr) H qq0 (qTF 2 rfl (by kernel_rfl) rfl rfl rfl (fun a F w=>rMv F rfl) H qq0 ?_));clear F a;intro a F
    refine F.split 131 rfl ?_ ?_ <;> (clear F; intro h131 F)
    ·
     replace h131 := of_decide_eq_true h131
     have hi0 : 0 < i := by omega
     have hi1 : i - 1 < lJ.length := by omega
     obtain ⟨y, hy⟩ : ∃ y, lJ[i - 1]? = some y := ⟨_, List.getElem?_eq_getElem hi1⟩
     have hRY : World.rangeAt W1 bJ (oJ + (i - 1) * 2) (prC y) := by
       obtain ⟨b', o', he, hr⟩ := hJr (i - 1) (prC y) (by rw [List.getElem?_map, hy]; rfl)
       cases he; exact hr
     have hord := hJk.next hy hx hi0
     refine eTF 3 rfl (by kernel_rfl) F rfl rfl rfl (fun w=>rMv F rfl) H qq0 (qTF 4 rfl (by kernel_rfl) rfl rfl rfl (fun a F w=>rMv F rfl) H qq0 ?_);clear F a;intro a F
     refine eTakeF (k := 5) (i := 5) rfl (by kernel_rfl) F rfl rfl rfl (fun w => rBin F rfl rfl (bSubN (j := 1) ?_ ?_)) H (fun _ _ _ h => h) ?_
     focus omega
     focus omega
     clear F a; intro a F
     refine eTakeF (k := 6) (i := 6) rfl (by kernel_rfl) F rfl rfl rfl (fun w => rIx underlying25 sizeOf38 F rfl rfl ?_) H (fun _ _ _ h => h) ?_
     focus exact hi1
     clear F a; intro a F
     refine eTakeF (k := 7) (i := 7) rfl (by kernel_rfl) F rfl rfl rfl (fun w => rIa (j := 1) underlying38 sizeOf5 F rfl rfl ?_) H (fun _ _ _ h => h) ?_
     focus (first | omega | decide | (simp; omega))
     clear F a; intro a F;refine eT 8 rfl (by kernel_rfl) F rfl rfl rfl rfl (fun w H=>rLd isAgg5 F rfl (H.arg (hRY 1 _ rfl))) H qq0 ?_;clear F a;intro a F
     refine eTakeF (k := 9) (i := 9) rfl (by kernel_rfl) F rfl rfl rfl (fun w => rIa (j := 1) underlying38 sizeOf5 F rfl rfl ?_) H (fun _ _ _ h => h) ?_
     focus (first | omega | decide | (simp; omega))
     clear F a; intro a F;refine eT 10 rfl (by kernel_rfl) F rfl rfl rfl rfl (fun w H=>rLd isAgg5 F rfl (H.cellB 0 rfl (by omega))) H qq0 (qTF 11 rfl (by kernel_rfl) rfl rfl rfl (fun a F w=>rBin F rfl rfl bGtrB) H qq0 (qTF 12 rfl (by kernel_rfl) rfl rfl rfl (fun a F w=>rMv F rfl) H qq0 ?_));clear F a;intro a F
     refine F.split 141 rfl ?_ ?_ <;> (clear F; intro h141 F)
     ·
      replace h141 := of_decide_eq_true h141;rw [hp1] at h141
      rcases hord with h | h
      · exact absurd h (Nat.lt_asymm h141)
      · rw [h.1] at h141; exact absurd h141 (Nat.lt_irrefl _)
     replace h141 := of_decide_eq_false h141;refine eTF 13 rfl (by kernel_rfl) F rfl rfl rfl (fun w=>rMv F rfl) H qq0 (qTF 14 rfl (by kernel_rfl) rfl rfl rfl (fun a F w=>rMv F rfl) H qq0 ?_);clear F a;intro a F
     refine eTakeF (k := 15) (i := 15) rfl (by kernel_rfl) F rfl rfl rfl (fun w => rBin F rfl rfl (bSubN (j := 1) ?_ ?_)) H (fun _ _ _ h => h) ?_
     focus omega
     focus omega
     clear F a; intro a F
     refine eTakeF (k := 16) (i := 16) rfl (by kernel_rfl) F rfl rfl rfl (fun w => rIx underlying25 sizeOf38 F rfl rfl ?_) H (fun _ _ _ h => h) ?_
     focus exact hi1
     clear F a; intro a F
     refine eTakeF (k := 17) (i := 17) rfl (by kernel_rfl) F rfl rfl rfl (fun w => rIa (j := 1) underlying38 sizeOf5 F rfl rfl ?_) H (fun _ _ _ h => h) ?_
     focus (first | omega | decide | (simp; omega))
     clear F a; intro a F;refine eT 18 rfl (by kernel_rfl) F rfl rfl rfl rfl (fun w H=>rLd isAgg5 F rfl (H.arg (hRY 1 _ rfl))) H qq0 ?_;clear F a;intro a F
     refine eTakeF (k := 19) (i := 19) rfl (by kernel_rfl) F rfl rfl rfl (fun w => rIa (j := 1) underlying38 sizeOf5 F rfl rfl ?_) H (fun _ _ _ h => h) ?_
     focus (first | omega | decide | (simp; omega))
     clear F a; intro a F;refine eT 20 rfl (by kernel_rfl) F rfl rfl rfl rfl (fun w H=>rLd isAgg5 F rfl (H.cellB 0 rfl (by omega))) H qq0 (qTF 21 rfl (by kernel_rfl) rfl rfl rfl (fun a F w=>rBin F rfl rfl bEqlB) H qq0 (qTF 22 rfl (by kernel_rfl) rfl rfl rfl (fun a F w=>rMv F rfl) H qq0 ?_));clear F a;intro a F
     refine F.split 151 rfl ?_ ?_ <;> (clear F; intro h151 F)
     ·
      replace h151 := beqT h151;refine eTF 23 rfl (by kernel_rfl) F rfl rfl rfl (fun w=>rMv F rfl) H qq0 (qTF 24 rfl (by kernel_rfl) rfl rfl rfl (fun a F w=>rMv F rfl) H qq0 ?_);clear F a;intro a F
      refine eTakeF (k := 25) (i := 25) rfl (by kernel_rfl) F rfl rfl rfl (fun w => rBin F rfl rfl (bSubN (j := 1) ?_ ?_)) H (fun _ _ _ h => h) ?_
      focus omega
      focus omega
      clear F a; intro a F
      refine eTakeF (k := 26) (i := 26) rfl (by kernel_rfl) F rfl rfl rfl (fun w => rIx underlying25 sizeOf38 F rfl rfl ?_) H (fun _ _ _ h => h) ?_
      focus exact hi1
      clear F a; intro a F
      refine eTakeF (k := 27) (i := 27) rfl (by kernel_rfl) F rfl rfl rfl (fun w => rIa (j := 0) underlying38 sizeOf5 F rfl rfl ?_) H (fun _ _ _ h => h) ?_
      focus (first | omega | decide | (simp; omega))
      clear F a; intro a F;refine eT 28 rfl (by kernel_rfl) F rfl rfl rfl rfl (fun w H=>rLd isAgg5 F rfl (H.arg (hRY 0 _ rfl))) H qq0 ?_;clear F a;intro a F
      refine eTakeF (k := 29) (i := 29) rfl (by kernel_rfl) F rfl rfl rfl (fun w => rIa (j := 0) underlying38 sizeOf5 F rfl rfl ?_) H (fun _ _ _ h => h) ?_
      focus (first | omega | decide | (simp; omega))
      clear F a; intro a F;refine eT 30 rfl (by kernel_rfl) F rfl rfl rfl rfl (fun w H=>rLd isAgg5 F rfl (H.cellB 0 rfl (by omega))) H qq0 (qTF 31 rfl (by kernel_rfl) rfl rfl rfl (fun a F w=>rBin F rfl rfl bGeqB) H qq0 (qTF 32 rfl (by kernel_rfl) rfl rfl rfl (fun a F w=>rPk F rfl rfl) H qq0 (qTF 33 rfl (by kernel_rfl) rfl rfl rfl (fun a F w=>rPk F rfl rfl) H qq0 (qTF 34 rfl (by kernel_rfl) rfl rfl rfl (fun a F w=>rPk F rfl rfl) H qq0 ?_))));clear F a;intro a F;refine eNil (k := 35) (by kernel_rfl) ?_;refine hK19 _ _ ?_;clear hK19
      refine cIf F rfl (fun h163 => ?_) (fun h163 => ?_)
      ·
       replace h163 := of_decide_eq_true h163;rw [hp1] at h151;rw [hp0] at h163
       rcases hord with h | h
       · rw [h151] at h; exact absurd h (Nat.lt_irrefl _)
       · exact absurd h.2 (Nat.not_lt.2 h163)
      replace h163 := of_decide_eq_false h163;refine wp_skip (hK16 _ _ (cReg ?_));clear hK16
      refine sBin F rfl rfl rfl rfl (bAddN (j := 1) ?_) ?_
      focus omega
      clear F a; intro a F;refine sMv F rfl rfl rfl ?_;clear F a;intro a F;refine sNil ?_
      refine ⟨_, ?_, _, ⟨i + 1, rfl, rfl, by omega, H.sel [1, 2] rfl rfl⟩, F.to (by repeat (first | exact trivial | refine Le.cons rfl ?_))⟩
      omega
     replace h151 := beqF h151;refine eSF 23 rfl (by kernel_rfl) F rfl rfl rfl H qq0 (qSF 24 rfl (by kernel_rfl) rfl rfl rfl H qq0 (qSF 25 rfl (by kernel_rfl) rfl rfl rfl H qq0 (qSF 26 rfl (by kernel_rfl) rfl rfl rfl H qq0 (qSF 27 rfl (by kernel_rfl) rfl rfl rfl H qq0 (qSF 28 rfl (by kernel_rfl) rfl rfl rfl H qq0 (qSF 29 rfl (by kernel_rfl) rfl rfl rfl H qq0 (qSF 30 rfl (by kernel_rfl) rfl rfl rfl H qq0 (qSF 31 rfl (by kernel_rfl) rfl rfl rfl H qq0 (qTF 32 rfl (by kernel_rfl) rfl rfl rfl (fun a F w=>rPk F rfl rfl) H qq0 (qTF 33 rfl (by kernel_rfl) rfl rfl rfl (fun a F w=>rPk F rfl rfl) H qq0 (qTF 34 rfl (by kernel_rfl) rfl rfl rfl (fun a F w=>rPk F rfl rfl) H qq0 ?_)))))))))));clear F a;intro a F;refine eNil (k := 35) (by kernel_rfl) ?_;refine hK19 _ _ ?_;clear hK19;refine cIfF F rfl ?_;refine wp_skip (hK16 _ _ (cReg ?_));clear hK16
     refine sBin F rfl rfl rfl rfl (bAddN (j := 1) ?_) ?_
     focus omega
     clear F a; intro a F;refine sMv F rfl rfl rfl ?_;clear F a;intro a F;refine sNil ?_
     refine ⟨_, ?_, _, ⟨i + 1, rfl, rfl, by omega, H.sel [1, 2] rfl rfl⟩, F.to (by repeat (first | exact trivial | refine Le.cons rfl ?_))⟩
     omega
    replace h131 := of_decide_eq_false h131;refine eSF 3 rfl (by kernel_rfl) F rfl rfl rfl H qq0 (qSF 4 rfl (by kernel_rfl) rfl rfl rfl H qq0 (qSF 5 rfl (by kernel_rfl) rfl rfl rfl H qq0 (qSF 6 rfl (by kernel_rfl) rfl rfl rfl H qq0 (qSF 7 rfl (by kernel_rfl) rfl rfl rfl H qq0 (qSF 8 rfl (by kernel_rfl) rfl rfl rfl H qq0 (qSF 9 rfl (by kernel_rfl) rfl rfl rfl H qq0 (qSF 10 rfl (by kernel_rfl) rfl rfl rfl H qq0 (qSF 11 rfl (by kernel_rfl) rfl rfl rfl H qq0 (qSF 12 rfl (by kernel_rfl) rfl rfl rfl H qq0 (qSF 13 rfl (by kernel_rfl) rfl rfl rfl H qq0 (qSF 14 rfl (by kernel_rfl) rfl rfl rfl H qq0 (qSF 15 rfl (by kernel_rfl) rfl rfl rfl H qq0 (qSF 16 rfl (by kernel_rfl) rfl rfl rfl H qq0 (qSF 17 rfl (by kernel_rfl) rfl rfl rfl H qq0 (qSF 18 rfl (by kernel_rfl) rfl rfl rfl H qq0 (qSF 19 rfl (by kernel_rfl) rfl rfl rfl H qq0 (qSF 20 rfl (by kernel_rfl) rfl rfl rfl H qq0 (qSF 21 rfl (by kernel_rfl) rfl rfl rfl H qq0 (qSF 22 rfl (by kernel_rfl) rfl rfl rfl H qq0 (qSF 23 rfl (by kernel_rfl) rfl rfl rfl H qq0 (qSF 24 rfl (by kernel_rfl) rfl rfl rfl H qq0 (qSF 25 rfl (by kernel_rfl) rfl rfl rfl H qq0 (qSF 26 rfl (by kernel_rfl) rfl rfl rfl H qq0 (qSF 27 rfl (by kernel_rfl) rfl rfl rfl H qq0 (qSF 28 rfl (by kernel_rfl) rfl rfl rfl H qq0 (qSF 29 rfl (by kernel_rfl) rfl rfl rfl H qq0 (qSF 30 rfl (by kernel_rfl) rfl rfl rfl H qq0 (qSF 31 rfl (by kernel_rfl) rfl rfl rfl H qq0 (qSF 32 rfl (by kernel_rfl) rfl rfl rfl H qq0 (qSF 33 rfl (by kernel_rfl) rfl rfl rfl H qq0 (qTF 34 rfl (by kernel_rfl) rfl rfl rfl (fun a F w=>rPk F rfl rfl) H qq0 ?_)))))))))))))))))))))))))))))));clear F a;intro a F;refine eNil (k := 35) (by kernel_rfl) ?_
    refine hK19 _ _ ?_;clear hK19;refine cIfF F rfl ?_;refine wp_skip (hK16 _ _ (cReg ?_));clear hK16
    refine sBin F rfl rfl rfl rfl (bAddN (j := 1) ?_) ?_
    focus omega
    clear F a; intro a F;refine sMv F rfl rfl rfl ?_;clear F a;intro a F;refine sNil ?_
    refine ⟨_, ?_, _, ⟨i + 1, rfl, rfl, by omega, H.sel [1, 2] rfl rfl⟩, F.to (by repeat (first | exact trivial | refine Le.cons rfl ?_))⟩
    omega
   replace h66 := of_decide_eq_false h66;refine wp_exit ?_;refine hK11 _ _ (cReg ?_);clear hK11
   refine sBin F rfl rfl rfl rfl (bAddN (j := 1) ?_) ?_
   focus omega
   clear F a; intro a F;refine sMv F rfl rfl rfl ?_;clear F a;intro a F;refine sNil ?_
   refine ⟨_, ?_, _, ⟨j + 1, rfl, rfl, by omega, H.sel [0, 1] rfl rfl⟩, F.to (by repeat (first | exact trivial | refine Le.cons rfl ?_))⟩
   omega
  replace h59 := of_decide_eq_false h59;refine wp_exit ?_;refine hK7 _ _ ?_;clear hK7;refine cSeq (fun K20 hK20 => ?_);refine cSR fun K21 hK21=>sMv F rfl rfl rfl (qLen underlying23 rfl rfl rfl (qBin rfl rfl rfl rfl bEql (qNK hK21 ?_)));clear hK21;clear F a;intro a F
  refine cIf F rfl (fun h168 => ?_) (fun h168 => ?_)
  ·
   replace h168 := beqT h168;refine cSR fun K22 hK22=>?_;refine sCall call12 F rfl rfl rfl (awake8_any _ (hN.own H) (hT.own H)) ?_;rintro e w ⟨rfl, hb⟩;replace H := H.grow hb; clear hb;refine ⟨_, rfl, ?_⟩;clear F a; intro a F;refine sAs F rfl rfl rfl (qNK hK22 ?_);clear hK22;clear F a;intro a F;refine wp_ret ?_;simp only [Exit.then];refine bRet results4 F rfl ?_
   first | exact ⟨rfl, H.below⟩ | exact ⟨rfl, (H1.grow H.below).below⟩
  replace h168 := beqF h168
  have hpos : 0 < reads.length := by omega
  have hkl : which.toNat % reads.length < reads.length := Nat.mod_lt _ hpos
  obtain ⟨u, hu⟩ : ∃ u, reads[which.toNat % reads.length]? = some u := ⟨_, List.getElem?_eq_getElem hkl⟩
  refine wp_skip (hK20 _ _ (cSR fun K23 hK23=>sMv F rfl rfl rfl (qCv underlying5 underlying3 rfl rfl rfl (wrapB _) (qMv rfl rfl rfl (qLen underlying23 rfl rfl rfl ?_)))));clear hK20;clear F a;intro a F
  refine sBin F rfl rfl rfl rfl (bRemN ?_) ?_
  focus omega
  clear F a; intro a F;refine sAs F rfl rfl rfl (qNK hK23 (qSR fun K24 hK24=>?_));clear hK23;clear F a;intro a F;refine sBs (cs := []) H underlying23 sizeOf5 zeroValue5 rfl F rfl rfl rfl rfl rfl ?_;clear F a H; intro b175 a w F H
  replace H := H.emptyRws 1
  refine sMv F rfl rfl rfl ?_;clear F a;intro a F;refine sAppO (bytes := 1) (sz := 1) H 0 underlying23 typeInfo5 rfl rfl rfl rfl rfl rfl F rfl rfl rfl rfl rfl ?hm ((RowsAt.own hR H)) ((fun r hr => b8_one hr)) (bRows_cell) ?hb ?_
  case hm => first | rfl | (simp; done) | omega | (simp only [List.length_take, List.length_map]; omega) | (simp; omega)
  case hb => exact ((by simp only [List.length_nil]; omega))
  clear F a H; intro A177 c177 a w F H;refine sAs F rfl rfl rfl (qNK hK24 (qSR fun K25 hK25=>qMv rfl rfl rfl (qMv rfl rfl rfl (qMv rfl rfl rfl ?_))));clear hK24;clear F a;intro a F
  simp only [List.nil_append, List.length_map] at H F
  obtain ⟨g, rfl⟩ := H.rwsAddr 0 rfl (by rw [List.length_map]; exact hpos)
  refine sIx (b := g) (o := 0) underlying23 sizeOf5 F rfl rfl rfl rfl hkl ?_;clear F a;intro a F
  refine sStW H 0 sizeOf5 F rfl rfl rfl rfl rfl ((fun r hr => b8_one hr)) ((show _ = some [Go.Proofs.YtklpiodciblabaaGreatDoor.b8 u] by rw [List.getElem?_map, hu]; rfl)) ((show 0 < 1 by decide)) ((by omega)) ?_
  clear H; intro w H;rw [set_rows] at H;refine nK hK25 (cSR fun K26 hK26=>?_);clear hK25;refine sAl H zeroValue28 F rfl rfl ?_;clear F a H; intro b18 a w F H;refine nK hK26 (cSR fun K27 hK27=>sAs F rfl rfl rfl (qNK hK27 ?_));clear hK26 hK27;clear F a;intro a F;refine cSeq (fun K28 hK28 => ?_);refine cSR fun K29 hK29=>sAs F rfl rfl rfl (qNK hK29 ?_);clear hK29;clear F a;intro a F;refine wp_block ?_
  obtain ⟨kk, hkk⟩ : ∃ kk, kk = which.toNat % reads.length := ⟨_, rfl⟩
  rw [← hkk] at H F hu hkl
  have hsl : (reads.set kk v).length = reads.length := List.length_set
  obtain ⟨ws, hws⟩ : ∃ ws, ws = reads.set kk v ++ List.replicate 12 0 := ⟨_, rfl⟩
  have hwl : ws.length = reads.length + 12 := by rw [hws, List.length_append, List.length_replicate, hsl]
  have hZ := (((((H.sel [0, 1, 3] rfl rfl).nilRws 38 2).nilRws 38 2).nilRws 38 2).nilRws 34 7).sel [4, 0, 1, 2, 3, 5, 6] rfl rfl
  refine cLoopR [0, 9, 16, 17, 18] (fun m ups w => ∃ (n : Nat) (dn : Bool) (qq : PlP), m = 30 - n ∧ ups = [(19, .bool dn), (20, .int .i64 ((n : Nat) : Int))] ∧ n ≤ 13 ∧ (dn = false → n ≤ 12 ∧ qq = zPl ∧ ∀ j, j < n → ¬ ∃ z, Done8 l (ws.take j) z) ∧ (dn = true → ∃ j z, Done8 l (ws.take j) z ∧ qq.path = runPath z) ∧ smallP qq.path = true ∧ Own W1 none w (.blk b18 qq.cells 28 :: (qq.res ++ [.rws 5 1 (.slice (some ⟨g, 0, none⟩) reads.length c177) (bRows (reads.set kk v)), .blk b9 qp.cells 28]))) F (30) [(19, .bool false), (20, .int .i64 ((0 : Nat) : Int))] (by repeat (first | exact SubR.nil | (apply SubR.cons; · rfl))) ?_ ?_ ?_
  · exact ⟨0, false, zPl, rfl, rfl, by omega, fun _ => ⟨by omega, rfl, fun j hj => by omega⟩, (fun h => by cases h), rfl, hZ⟩
  · repeat (first | exact trivial | refine Le.cons rfl ?_)
  clear F
  clear H hZ
  intro m ups a w hI F
  obtain ⟨n, dn, qq, rfl, rfl, hn13, hdF, hdT, hqqs, H⟩ := hI
  refine cSeq (fun K30 hK30 => ?_);refine cSR fun K31 hK31=>sMv F rfl rfl rfl (qBin rfl rfl rfl rfl bLeq (qMv rfl rfl rfl ?_));clear F a;intro a F
  refine F.split 184 rfl ?_ ?_ <;> (clear F; intro h184 F)
  ·
   replace h184 := of_decide_eq_true h184;refine sMv F rfl rfl rfl (qNot rfl rfl rfl (qPk rfl rfl rfl rfl (qNK hK31 ?_)));clear hK31;clear F a;intro a F
   refine cIf F rfl (fun h187 => ?_) (fun h187 => ?_)
   ·
    replace h187 := notT h187
    obtain rfl : dn = false := by simpa using h187
    obtain ⟨hn12, rfl, hnd⟩ := hdF rfl
    refine wp_skip (hK30 _ _ ?_);clear hK30;refine cSeq (fun K32 hK32 => ?_);refine wp_block ?_;refine cSR fun K33 hK33=>?_;refine sBs (cs := []) H underlying23 sizeOf5 zeroValue5 rfl F rfl rfl rfl rfl rfl ?_;clear F a H; intro b190 a w F H
    replace H := H.emptyRws 1
    refine sMv F rfl rfl rfl ?_;clear F a;intro a F;refine sAppO (bytes := 1) (sz := 1) H 0 underlying23 typeInfo5 rfl rfl rfl rfl rfl rfl F rfl rfl rfl rfl rfl ?hm ((H.rowsAt 6 rfl bRows_one (by omega))) (bRows_one) (bRows_cell) ?hb ?_
    case hm => first | rfl | (simp; done) | omega | (simp only [List.length_take, List.length_map]; omega) | (simp; omega)
    case hb => exact ((by simp only [List.length_nil, bRows, List.length_map]; omega))
    clear F a H; intro A192 c192 a w F H;refine sAppZ (m := 12) H 0 underlying23 underlying3 typeInfo5 rfl rfl rfl F rfl rfl rfl rfl rfl (zero_one') (by omega) ((by simp only [List.nil_append, bRows, List.length_map]; omega)) ?_;clear F a H; intro A193 c193 a w F H;refine sAs F rfl rfl rfl (qNK hK33 (qSR fun K34 hK34=>qMv rfl rfl rfl (qMv rfl rfl rfl (qMv rfl rfl rfl (qMv rfl rfl rfl (qLen underlying23 rfl rfl rfl (qMinN rfl rfl rfl rfl ?_)))))));clear hK33;clear F a;intro a F
    refine sSlH underlying23 (fun w => ⟨_, sizeOf5 w⟩) F rfl rfl rfl rfl ?_ ?_
    focus (have hq9 := H.rwsLen 0 rfl; simp only [List.nil_append, bRows, List.length_map, List.length_append, List.length_replicate, hsl] at hq9 ⊢; omega)
    clear F a; intro a F;refine sCall call11 F rfl rfl rfl (Follow_pl A C l.length l A193 c193 _ (ws.take n) _ (hA.own H) rfl hn (rows_take8 (by rw [hws]; exact zero_bytes (H.rowsAt 0 rfl zero_one (by omega))) n) (by rw [List.length_take, hwl]; simp [bRows]) (by rw [List.length_take]; omega) (hN.own H) (hT.own H)) ?_;rintro e w ⟨qf, hqf, rfl, H2⟩;replace H := H.join H2
    clear H2
    have hqfs : smallP qf.path = true := by rw [hqf]; exact small_fol _ _
    refine ⟨_, rfl, ?_⟩;clear F a; intro a F;refine sMv F rfl rfl rfl (qExt rfl rfl rfl rfl (qExt rfl rfl rfl rfl (qExt rfl rfl rfl rfl ?_)));clear F a;intro a F;refine sAl H zeroValue28 F rfl rfl ?_;clear F a H; intro b22 a w F H
    refine sSr H 0 ?si F rfl rfl rfl ?s1 rfl rfl ?_
    case si => exact info_size sizeOf28
    case s1 => first | rfl | (repeat (first | exact one_nil | (apply one_cons; · first | rfl | assumption | exact one_bif rfl rfl)))
    clear H; intro w H;refine sAs F rfl rfl rfl (qAs rfl rfl rfl (qNK hK34 (qSR fun K35 hK35=>qMv rfl rfl rfl (qBin rfl rfl rfl rfl bEql (qMv rfl rfl rfl ?_)))));clear hK34;clear F a;intro a F
    refine F.split 208 rfl ?_ ?_ <;> (clear F; intro h208 F)
    ·
     replace h208 := beqT h208;refine sMv F rfl rfl rfl (qNot rfl rfl rfl (qPk rfl rfl rfl rfl (qNK hK35 ?_)));clear hK35;clear F a;intro a F
     refine cIf F rfl (fun h211 => ?_) (fun h211 => ?_)
     ·
      replace h211 := notT h211
      have hdone : ∃ z, Done8 l (ws.take n) z := done_of hl (by omega) (by simpa using h211)
      refine cReg ?_
      refine sLr underlying28 rfl ?si F rfl rfl rfl (show World.rangeAt _ b22 0 qf.cells from H.whole 0 rfl) ?_
      case si => exact info_size sizeOf28
      clear F a; intro a F
      refine sSr H 6 ?si F rfl rfl rfl ?s1 rfl rfl ?_
      case si => exact info_size sizeOf28
      case s1 => first | rfl | (repeat (first | exact one_nil | (apply one_cons; · first | rfl | assumption | exact one_bif rfl rfl)))
      clear H; intro w H;refine sAs F rfl rfl rfl (qNK hK32 (qReg (qMv rfl rfl rfl ?_)));clear hK32;clear F a;intro a F
      refine sBin F rfl rfl rfl rfl (bAddN (j := 1) ?_) ?_
      focus omega
      clear F a; intro a F;refine sAs F rfl rfl rfl ?_;clear F a;intro a F;refine sNil ?_
      first
      | (obtain ⟨z8, hz8⟩ := hdone
         have hz9 : qf.path = runPath z8 := by rw [hqf, hz8.fol]
         refine ⟨_, ?_, _, ⟨n + 1, true, qf, rfl, rfl, by omega, (fun h => by cases h), fun _ => ⟨n, z8, hz8, hz9⟩, hqfs, H.sel [6, 1, 2, 3, 4, 11, 12] rfl rfl⟩, F.to (by repeat (first | exact trivial | refine Le.cons rfl ?_))⟩
         omega)
      | (have hnd2 : ∀ j, j < n + 1 → ¬ ∃ z, Done8 l (ws.take j) z := fun j hj => by
           rcases Nat.lt_or_ge j n with h | h
           · exact hnd j h
           · obtain rfl : j = n := by omega
             exact hnot
         have hn11 : n < 12 := by
           rcases Nat.lt_or_ge n 12 with h | h
           · exact h
           · obtain ⟨k, z, hk, hz⟩ := done12 hl (ws := ws) (by omega)
             exact absurd ⟨z, hz⟩ (hnd2 k (by omega))
         refine ⟨_, ?_, _, ⟨n + 1, false, zPl, rfl, rfl, by omega, fun _ => ⟨by omega, rfl, hnd2⟩, (fun h => by cases h), rfl, H.sel [6, 7, 8, 9, 10, 11, 12] rfl rfl⟩, F.to (by repeat (first | exact trivial | refine Le.cons rfl ?_))⟩
         omega)
     replace h211 := notF h211
     have hnot : ¬ ∃ z, Done8 l (ws.take n) z := fun ⟨z, hz⟩ => by rw [hz.fol] at h211; cases h211
     refine wp_skip (hK32 _ _ (cReg (sMv F rfl rfl rfl ?_)));clear hK32;clear F a;intro a F
     refine sBin F rfl rfl rfl rfl (bAddN (j := 1) ?_) ?_
     focus omega
     clear F a; intro a F;refine sAs F rfl rfl rfl ?_;clear F a;intro a F;refine sNil ?_
     first
     | (obtain ⟨z8, hz8⟩ := hdone
        have hz9 : qf.path = runPath z8 := by rw [hqf, hz8.fol]
        refine ⟨_, ?_, _, ⟨n + 1, true, qf, rfl, rfl, by omega, (fun h => by cases h), fun _ => ⟨n, z8, hz8, hz9⟩, hqfs, H.sel [6, 1, 2, 3, 4, 11, 12] rfl rfl⟩, F.to (by repeat (first | exact trivial | refine Le.cons rfl ?_))⟩
        omega)
     | (have hnd2 : ∀ j, j < n + 1 → ¬ ∃ z, Done8 l (ws.take j) z := fun j hj => by
          rcases Nat.lt_or_ge j n with h | h
          · exact hnd j h
          · obtain rfl : j = n := by omega
            exact hnot
        have hn11 : n < 12 := by
          rcases Nat.lt_or_ge n 12 with h | h
          · exact h
          · obtain ⟨k, z, hk, hz⟩ := done12 hl (ws := ws) (by omega)
            exact absurd ⟨z, hz⟩ (hnd2 k (by omega))
        refine ⟨_, ?_, _, ⟨n + 1, false, zPl, rfl, rfl, by omega, fun _ => ⟨by omega, rfl, hnd2⟩, (fun h => by cases h), rfl, H.sel [6, 7, 8, 9, 10, 11, 12] rfl rfl⟩, F.to (by repeat (first | exact trivial | refine Le.cons rfl ?_))⟩
        omega)
    replace h208 := beqF h208
    have hnot : ¬ ∃ z, Done8 l (ws.take n) z := fun ⟨z, hz⟩ => h208 (by rw [hz.fol]; rfl)
    refine sSk F rfl rfl (qSk rfl rfl (qPk rfl rfl rfl rfl (qNK hK35 ?_)));clear hK35;clear F a;intro a F;refine cIfF F rfl ?_;refine wp_skip (hK32 _ _ (cReg (sMv F rfl rfl rfl ?_)));clear hK32;clear F a;intro a F
    refine sBin F rfl rfl rfl rfl (bAddN (j := 1) ?_) ?_
    focus omega
    clear F a; intro a F;refine sAs F rfl rfl rfl ?_;clear F a;intro a F;refine sNil ?_
    first
    | (obtain ⟨z8, hz8⟩ := hdone
       have hz9 : qf.path = runPath z8 := by rw [hqf, hz8.fol]
       refine ⟨_, ?_, _, ⟨n + 1, true, qf, rfl, rfl, by omega, (fun h => by cases h), fun _ => ⟨n, z8, hz8, hz9⟩, hqfs, H.sel [6, 1, 2, 3, 4, 11, 12] rfl rfl⟩, F.to (by repeat (first | exact trivial | refine Le.cons rfl ?_))⟩
       omega)
    | (have hnd2 : ∀ j, j < n + 1 → ¬ ∃ z, Done8 l (ws.take j) z := fun j hj => by
         rcases Nat.lt_or_ge j n with h | h
         · exact hnd j h
         · obtain rfl : j = n := by omega
           exact hnot
       have hn11 : n < 12 := by
         rcases Nat.lt_or_ge n 12 with h | h
         · exact h
         · obtain ⟨k, z, hk, hz⟩ := done12 hl (ws := ws) (by omega)
           exact absurd ⟨z, hz⟩ (hnd2 k (by omega))
       refine ⟨_, ?_, _, ⟨n + 1, false, zPl, rfl, rfl, by omega, fun _ => ⟨by omega, rfl, hnd2⟩, (fun h => by cases h), rfl, H.sel [6, 7, 8, 9, 10, 11, 12] rfl rfl⟩, F.to (by repeat (first | exact trivial | refine Le.cons rfl ?_))⟩
       omega)
   replace h187 := notF h187
   obtain rfl : dn = true := by simpa using h187
   obtain ⟨jq, zq, hzq, hqqp⟩ := hdT rfl
   have hho : HangOk kk qp.path qq.path := by
     have h1 := hang_ok hl hzp.path (set_split hu) (v := v) (rest := List.replicate 12 0) (n := jq) (by rw [hws, set_put hkl, List.append_assoc, List.cons_append]) hzq.path
     rw [List.length_take, Nat.min_eq_left (by omega)] at h1
     rw [hpp, hqqp]; exact h1
   refine wp_exit ?_;refine hK28 _ _ ?_;clear hK28;refine cSeq (fun K36 hK36 => ?_);refine cSR fun K37 hK37=>sMv F rfl rfl rfl (qNot rfl rfl rfl (qNK hK37 ?_));clear hK37;clear F a;intro a F
   refine cIf F rfl (fun h214 => ?_) (fun h214 => ?_)
   ·
    replace h214 := notT h214
    cases h214
   replace h214 := notF h214;refine wp_skip (hK36 _ _ (cSR fun K38 hK38=>sAs F rfl rfl rfl (qAs rfl rfl rfl (qNK hK38 ?_))));clear hK36 hK38;clear F a;intro a F;refine cSeq (fun K39 hK39 => ?_);refine cSR fun K40 hK40=>sFa (f := 0) (k := 0) underlying28 rfl sizeOf24 rfl rfl F rfl rfl rfl (qLd isAgg24 rfl rfl rfl (H.cell 6 rfl rfl) (qLen underlying24 rfl rfl rfl (qMv rfl rfl rfl (qNK hK40 ?_))));clear hK40;clear F a;intro a F;refine wp_block ?_
   refine cLoopR [9, 16, 18, 216, 217] (fun m ups w => ∃ (i c : Nat), m = qp.path.evs.length - i ∧ ups = [(25, Go.Proofs.YtklpiodciblabaaGreatDoor.b8 (rdPos kk (qp.path.evs.take i))), (26, .int .i64 ((c : Nat) : Int)), (218, .int .i64 ((i : Nat) : Int))] ∧ i ≤ qp.path.evs.length ∧ c = (rdL (qp.path.evs.take i)).length ∧ Own W1 none w (.blk b18 qq.cells 28 :: (qq.res ++ [.blk b9 qp.cells 28]))) F (qp.path.evs.length) [(25, Go.Proofs.YtklpiodciblabaaGreatDoor.b8 0), (26, .int .i64 ((0 : Nat) : Int)), (218, .int .i64 ((0 : Nat) : Int))] (by repeat (first | exact SubR.nil | (apply SubR.cons; · rfl))) ?_ ?_ ?_
   · exact ⟨0, 0, rfl, rfl, by omega, rfl, H.sel [0, 1, 2, 3, 4, 6] rfl rfl⟩
   · repeat (first | exact trivial | refine Le.cons rfl ?_)
   clear F
   clear H
   intro m ups a w hI F
   obtain ⟨i, c, rfl, rfl, hi, hc, H⟩ := hI
   refine cSR fun K41 hK41=>sBin F rfl rfl rfl rfl bLss (qNK hK41 ?_);clear hK41;clear F a;intro a F;refine cSeq (fun K42 hK42 => ?_)
   refine cIf F rfl (fun h219 => ?_) (fun h219 => ?_)
   ·
    replace h219 := of_decide_eq_true h219
    have hil : i < qp.path.evs.length := by omega
    obtain ⟨x, hx⟩ : ∃ x, qp.path.evs[i]? = some x := ⟨_, List.getElem?_eq_getElem hil⟩
    have hxt := evs_tk hx
    have hcl : c ≤ i := by
      rw [hc, ← rd_len]
      exact Nat.le_trans (List.length_filter_le _ _) (by rw [List.length_take]; omega)
    obtain ⟨bE, oE, hE1, hRE⟩ := hP.evs i x.cells (evAt hx)
    refine wp_skip (hK42 _ _ ?_);clear hK42;refine cSeq (fun K43 hK43 => ?_);refine wp_block ?_;refine cSR fun K44 hK44=>sIx (b := bE) (o := oE) underlying24 sizeOf34 F rfl rfl (by rw [← hE1]; rfl) rfl (by omega) ?_;clear F a;intro a F
    refine sLr underlying34 rfl ?si F rfl rfl rfl (H.argR hRE) ?_
    case si => exact info_size sizeOf34
    clear F a; intro a F;refine sAl H zeroValue34 F rfl rfl ?_;clear F a H; intro b28 a w F H
    refine sSr H 0 ?si F rfl rfl rfl ?s1 rfl rfl ?_
    case si => exact info_size sizeOf34
    case s1 => first | rfl | (repeat (first | exact one_nil | (apply one_cons; · first | rfl | assumption | exact one_bif rfl rfl)))
    clear H; intro w H;refine nK hK44 (cSR fun K45 hK45=>sFa (f := 1) (k := 1) underlying34 rfl sizeOf5 rfl rfl F rfl rfl rfl (qLd isAgg5 rfl rfl rfl (H.cell 0 rfl rfl) (qBin rfl rfl rfl rfl (bEqlB (y := 1)) (qNK hK45 ?_))));clear hK44 hK45;clear F a;intro a F
    refine cIf F rfl (fun h224 => ?_) (fun h224 => ?_)
    ·
     replace h224 := beqT h224;refine cSeq (fun K46 hK46 => ?_);refine cSR fun K47 hK47=>sMv F rfl rfl rfl (qMv rfl rfl rfl (qBin rfl rfl rfl rfl bEql (qNK hK47 ?_)));clear hK47;clear F a;intro a F
     refine cIf F rfl (fun h227 => ?_) (fun h227 => ?_)
     ·
      replace h227 := beqT h227
      obtain ⟨hq1, hq2⟩ := rdPos_rd (k := kk) (evs := qp.path.evs.take i) h224
      rw [← hxt] at hq1 hq2;rw [if_pos (by omega)] at hq1;refine cReg (sFa (f := 6) (k := 6) underlying34 rfl sizeOf5 rfl rfl F rfl rfl rfl (qLd isAgg5 rfl rfl rfl (H.cell 0 rfl rfl) (qAs rfl rfl rfl (qNK hK46 (qReg (qMv rfl rfl rfl ?_))))));clear hK46;clear F a;intro a F
      refine sBin F rfl rfl rfl rfl (bAddN (j := 1) ?_) ?_
      focus omega
      clear F a; intro a F;refine sAs F rfl rfl rfl (qNK hK43 (qReg ?_));clear hK43;clear F a;intro a F
      refine sBin F rfl rfl rfl rfl (bAddN (j := 1) ?_) ?_
      focus omega
      clear F a; intro a F;refine sMv F rfl rfl rfl ?_;clear F a;intro a F;refine sNil ?_;rw [← hq1] at F
      refine ⟨_, ?_, _, ⟨i + 1, _, rfl, rfl, by omega, ?_, H.sel [1, 2, 3, 4, 5, 6] rfl rfl⟩, F.to (by repeat (first | exact trivial | refine Le.cons rfl ?_))⟩
      · omega
      · omega
     replace h227 := beqF h227
     obtain ⟨hq1, hq2⟩ := rdPos_rd (k := kk) (evs := qp.path.evs.take i) h224
     rw [← hxt] at hq1 hq2;rw [if_neg (by omega)] at hq1;refine wp_skip (hK46 _ _ (cReg (sMv F rfl rfl rfl ?_)));clear hK46;clear F a;intro a F
     refine sBin F rfl rfl rfl rfl (bAddN (j := 1) ?_) ?_
     focus omega
     clear F a; intro a F;refine sAs F rfl rfl rfl (qNK hK43 (qReg ?_));clear hK43;clear F a;intro a F
     refine sBin F rfl rfl rfl rfl (bAddN (j := 1) ?_) ?_
     focus omega
     clear F a; intro a F;refine sMv F rfl rfl rfl ?_;clear F a;intro a F;refine sNil ?_;rw [← hq1] at F
     refine ⟨_, ?_, _, ⟨i + 1, _, rfl, rfl, by omega, ?_, H.sel [1, 2, 3, 4, 5, 6] rfl rfl⟩, F.to (by repeat (first | exact trivial | refine Le.cons rfl ?_))⟩
     · omega
     · omega
    replace h224 := beqF h224
    obtain ⟨hq1, hq2⟩ := rdPos_not (k := kk) (evs := qp.path.evs.take i) h224
    rw [← hxt] at hq1 hq2;refine wp_skip (hK43 _ _ (cReg ?_));clear hK43
    refine sBin F rfl rfl rfl rfl (bAddN (j := 1) ?_) ?_
    focus omega
    clear F a; intro a F;refine sMv F rfl rfl rfl ?_;clear F a;intro a F;refine sNil ?_;rw [← hq1] at F
    refine ⟨_, ?_, _, ⟨i + 1, _, rfl, rfl, by omega, ?_, H.sel [1, 2, 3, 4, 5, 6] rfl rfl⟩, F.to (by repeat (first | exact trivial | refine Le.cons rfl ?_))⟩
    · omega
    · omega
   replace h219 := of_decide_eq_false h219
   obtain rfl : i = qp.path.evs.length := by omega
   rw [List.take_length] at F
   obtain ⟨pos, hpos2⟩ : ∃ pos, pos = rdPos kk qp.path.evs := ⟨_, rfl⟩
   rw [← hpos2] at F
   obtain ⟨L, hL⟩ : ∃ L, L = qp.path.data ++ qp.path.ctrl := ⟨_, rfl⟩
   have hLl : L.length = qp.path.data.length + qp.path.ctrl.length := by rw [hL, List.length_append]
   have hdn := hP.dataN
   have hcn := hP.ctrlN
   have hqn : qq.path.evs.length ≤ 1000000 := by simp only [smallP, Bool.and_eq_true, decide_eq_true_eq] at hqqs; exact hqqs.1.1.1
   refine wp_exit ?_;refine hK39 _ _ ?_;clear hK39;refine cSeq (fun K48 hK48 => ?_);refine cSR fun K49 hK49=>sFa (f := 0) (k := 0) underlying28 rfl sizeOf24 rfl rfl F rfl rfl rfl (qLd isAgg24 rfl rfl rfl (H.cell 5 rfl rfl) (qLen underlying24 rfl rfl rfl (qMv rfl rfl rfl (qNK hK49 ?_))));clear hK49;clear F a;intro a F;refine wp_block ?_
   refine cLoopR [9, 18, 25, 234, 235] (fun m ups w => ∃ i : Nat, m = qp.path.evs.length - i ∧ ups = [(236, .int .i64 ((i : Nat) : Int))] ∧ i ≤ qp.path.evs.length ∧ Own W1 none w (.blk b18 qq.cells 28 :: (qq.res ++ [.blk b9 qp.cells 28]))) F (qp.path.evs.length) [(236, .int .i64 ((0 : Nat) : Int))] (by repeat (first | exact SubR.nil | (apply SubR.cons; · rfl))) ?_ ?_ ?_
   · exact ⟨0, rfl, rfl, by omega, H.sel [0, 1, 2, 3, 4, 5] rfl rfl⟩
   · repeat (first | exact trivial | refine Le.cons rfl ?_)
   clear F
   clear H
   intro m ups a w hI F
   obtain ⟨i, rfl, rfl, hi, H⟩ := hI
   refine cSR fun K50 hK50=>sBin F rfl rfl rfl rfl bLss (qNK hK50 ?_);clear hK50;clear F a;intro a F;refine cSeq (fun K51 hK51 => ?_)
   refine cIf F rfl (fun h237 => ?_) (fun h237 => ?_)
   ·
    replace h237 := of_decide_eq_true h237
    have hil : i < qp.path.evs.length := by omega
    obtain ⟨y, hy⟩ : ∃ y, qp.path.evs[i]? = some y := ⟨_, List.getElem?_eq_getElem hil⟩
    obtain ⟨bE, oE, hE1, hRE⟩ := hP.evs i y.cells (evAt hy)
    refine wp_skip (hK51 _ _ ?_);clear hK51;refine cSeq (fun K52 hK52 => ?_);refine wp_block ?_;refine cSR fun K53 hK53=>sIx (b := bE) (o := oE) underlying24 sizeOf34 F rfl rfl (by rw [← hE1]; rfl) rfl (by omega) ?_;clear F a;intro a F
    refine sLr underlying34 rfl ?si F rfl rfl rfl (H.argR hRE) ?_
    case si => exact info_size sizeOf34
    clear F a; intro a F;refine sAl H zeroValue34 F rfl rfl ?_;clear F a H; intro b30 a w F H
    refine sSr H 0 ?si F rfl rfl rfl ?s1 rfl rfl ?_
    case si => exact info_size sizeOf34
    case s1 => first | rfl | (repeat (first | exact one_nil | (apply one_cons; · first | rfl | assumption | exact one_bif rfl rfl)))
    clear H; intro w H;refine nK hK53 (cSR fun K54 hK54=>sAs F rfl rfl rfl (qNK hK54 ?_));clear hK53 hK54;clear F a;intro a F;refine cSeq (fun K55 hK55 => ?_);refine cSeq (fun K56 hK56 => ?_);refine cRegRO (by kernel_rfl) H ?_;replace H := H.drew;refine eTF 1 rfl (by kernel_rfl) F rfl rfl rfl (fun w=>rFa (f := 1) (k := 1) underlying28 rfl sizeOf25 rfl rfl F rfl) H qq0 (qT 2 rfl (by kernel_rfl) rfl rfl rfl rfl (fun a F w H=>rLd isAgg25 F rfl (H.cell 6 rfl rfl)) H qq0 (qTF 4 rfl (by kernel_rfl) rfl rfl rfl (fun a F w=>rFa (f := 2) (k := 2) underlying28 rfl sizeOf25 rfl rfl F rfl) H qq0 (qT 5 rfl (by kernel_rfl) rfl rfl rfl rfl (fun a F w H=>rLd isAgg25 F rfl (H.cell 6 rfl rfl)) H qq0 (qTF 8 rfl (by kernel_rfl) rfl rfl rfl (fun a F w=>rMv F rfl) H qq0 ?_))));clear F a;intro a F;refine eOne (k := 5) (i := 0) rfl (by kernel_rfl) F rfl (oBs (cs := []) H underlying25 sizeOf38 zeroValue38 rfl F rfl rfl rfl rfl ?_);clear F a H; intro b240 a w F H
    replace H := H.emptyRws 2
    refine eKeep H.tail ?_;refine eOne (k := 6) (i := 3) rfl (by kernel_rfl) F rfl (oAppO (bytes := 2) (sz := 2) H 0 underlying25 typeInfo38 rfl rfl rfl rfl rfl rfl F rfl rfl rfl rfl ?hm (((hP.own H).data)) (pr2) (pr_one) ?hb ?_)
    case hm => first | rfl | (simp; done) | omega | (simp only [List.length_take, List.length_map]; omega) | (simp; omega)
    case hb => exact ((by simp only [List.length_nil]; omega))
    clear F a H; intro A243 c243 a w F H;refine eKeep H.tail ?_;refine eOne (k := 7) (i := 6) rfl (by kernel_rfl) F rfl (oAppO (bytes := 2) (sz := 2) H 0 underlying25 typeInfo38 rfl rfl rfl rfl rfl rfl F rfl rfl rfl rfl ?hm (((hP.own H).ctrl)) (pr2) (pr_one) ?hb ?_)
    case hm => first | rfl | (simp; done) | omega | (simp only [List.length_take, List.length_map]; omega) | (simp; omega)
    case hb => exact ((by simp only [List.nil_append, List.length_map]; omega))
    clear F a H; intro A246 c246 a w F H;refine ePartO (by kernel_rfl) H ?_;refine eT 7 rfl (by kernel_rfl) F rfl rfl rfl rfl (fun w H=>rLen underlying25 F rfl) H qq0 ?_;clear F a;intro a F;refine eNil (k := 9) (by kernel_rfl) ?_;refine hK56 _ _ ?_;clear hK56;refine wp_block ?_
    simp only [List.nil_append, List.length_append, List.length_map] at H F
    rw [← List.map_append, ← hL, ← hLl] at H;rw [← hLl] at F
    refine cLoopR [9, 18, 25, 30, 234, 235, 236, 246, 247] (fun m ups w => ∃ t : Nat, m = L.length - t ∧ ups = [(31, .bool (hgs pos y.pos L t)), (248, .int .i64 ((t : Nat) : Int))] ∧ t ≤ L.length ∧ Own W1 none w (.rws 38 2 (.slice A246 L.length c246) (L.map prC) :: .blk b30 y.cells 34 :: .blk b18 qq.cells 28 :: (qq.res ++ [.blk b9 qp.cells 28]))) F (L.length) [(31, .bool false), (248, .int .i64 ((0 : Nat) : Int))] (by repeat (first | exact SubR.nil | (apply SubR.cons; · rfl))) ?_ ?_ ?_
    · exact ⟨0, rfl, rfl, by omega, H.sel [0, 1, 2, 3, 4, 5, 6, 7] rfl rfl⟩
    · repeat (first | exact trivial | refine Le.cons rfl ?_)
    clear F
    clear H
    intro m ups a w hI F
    obtain ⟨t, rfl, rfl, ht, H⟩ := hI
    refine cSR fun K57 hK57=>sBin F rfl rfl rfl rfl bLss (qNK hK57 ?_);clear hK57;clear F a;intro a F;refine cSeq (fun K58 hK58 => ?_)
    refine cIf F rfl (fun h249 => ?_) (fun h249 => ?_)
    ·
     replace h249 := of_decide_eq_true h249
     have htl : t < L.length := by omega
     obtain ⟨x, hx⟩ : ∃ x, L[t]? = some x := ⟨_, List.getElem?_eq_getElem htl⟩
     have hp1 : prF x 1 = x.2 := rfl
     have hp0 : prF x 0 = x.1 := rfl
     obtain ⟨bL, oL, hLA, hRL⟩ := H.rowsAt 0 rfl pr2 (by omega) t (bs 2 (prF x)) (by rw [List.getElem?_map, hx]; rfl)
     refine wp_skip (hK58 _ _ ?_);clear hK58;refine cSeq (fun K59 hK59 => ?_);refine wp_block ?_;refine cSR fun K60 hK60=>sIx (b := bL) (o := oL) underlying25 sizeOf38 F rfl rfl (by rw [← hLA]; rfl) rfl (by omega) (qLrB underlying38 rfl sizeOf38 rfl rfl rfl hRL ?_);clear F a;intro a F;refine sAlB H zB38 F rfl rfl ?_;clear F a H; intro b33 a w F H;refine sSrB H 0 sizeOf38 F rfl rfl rfl rfl (by omega) ?_;clear H; intro w H;rw [lay_all] at H;refine nK hK60 (cReg (sMv F rfl rfl rfl (qMv rfl rfl rfl ?_)));clear hK60;clear F a;intro a F
     refine F.split 253 rfl ?_ ?_ <;> (clear F; intro h253 F)
     ·
      have e8 : hgs pos y.pos L (t + 1) = true := by rw [hgs_succ hx, h253]; rfl
      refine sSk F rfl rfl (qSk rfl rfl (qSk rfl rfl (qSk rfl rfl (qSk rfl rfl (qSk rfl rfl (qSk rfl rfl (qSk rfl rfl (qSk rfl rfl (qSk rfl rfl (qSk rfl rfl (qPk rfl rfl rfl rfl (qAs rfl rfl rfl (qNK hK59 (qReg ?_))))))))))))));clear hK59;clear F a;intro a F
      refine sBin F rfl rfl rfl rfl (bAddN (j := 1) ?_) ?_
      focus omega
      clear F a; intro a F;refine sMv F rfl rfl rfl ?_;clear F a;intro a F;refine sNil ?_
      refine ⟨_, ?_, _, ⟨t + 1, rfl, rfl, by omega, H.sel [1, 2, 3, 4, 5, 6, 7, 8] rfl rfl⟩, by rw [e8]; exact F.to (by repeat (first | exact trivial | refine Le.cons rfl ?_))⟩
      omega
     have e7 : hgs pos y.pos L (t + 1) = (x.1 == pos && x.2 == y.pos) := by rw [hgs_succ hx, h253]; rfl
     refine sIa (j := 0) underlying38 sizeOf5 F rfl rfl rfl rfl ?_ ?_
     focus (first | omega | decide | (simp; omega))
     clear F a; intro a F;refine sLd isAgg5 F rfl rfl rfl (H.cellB 0 rfl (by omega)) (qMv rfl rfl rfl (qBin rfl rfl rfl rfl bEqlB (qMv rfl rfl rfl ?_)));clear F a;intro a F
     refine F.split 258 rfl ?_ ?_ <;> (clear F; intro h258 F)
     ·
      replace h258 := beqT h258;rw [hp0] at h258
      have e8 : hgs pos y.pos L (t + 1) = (x.2 == y.pos) := by rw [e7, h258, beq_self_eq_true, Bool.true_and]
      refine sIa (j := 1) underlying38 sizeOf5 F rfl rfl rfl rfl ?_ ?_
      focus (first | omega | decide | (simp; omega))
      clear F a; intro a F;refine sLd isAgg5 F rfl rfl rfl (H.cellB 0 rfl (by omega)) (qFa (f := 6) (k := 6) underlying34 rfl sizeOf5 rfl rfl rfl rfl rfl (qLd isAgg5 rfl rfl rfl (H.cell 2 rfl rfl) (qBin rfl rfl rfl rfl bEqlB (qPk rfl rfl rfl rfl (qPk rfl rfl rfl rfl (qAs rfl rfl rfl (qNK hK59 (qReg ?_))))))));clear hK59;clear F a;intro a F
      refine sBin F rfl rfl rfl rfl (bAddN (j := 1) ?_) ?_
      focus omega
      clear F a; intro a F;refine sMv F rfl rfl rfl ?_;clear F a;intro a F;refine sNil ?_
      refine ⟨_, ?_, _, ⟨t + 1, rfl, rfl, by omega, H.sel [1, 2, 3, 4, 5, 6, 7, 8] rfl rfl⟩, by rw [e8]; exact F.to (by repeat (first | exact trivial | refine Le.cons rfl ?_))⟩
      omega
     replace h258 := beqF h258;rw [hp0] at h258
     have e8 : hgs pos y.pos L (t + 1) = false := by rw [e7, beq_eq_false_iff_ne.2 h258, Bool.false_and]
     refine sSk F rfl rfl (qSk rfl rfl (qSk rfl rfl (qSk rfl rfl (qSk rfl rfl (qPk rfl rfl rfl rfl (qPk rfl rfl rfl rfl (qAs rfl rfl rfl (qNK hK59 (qReg ?_)))))))));clear hK59;clear F a;intro a F
     refine sBin F rfl rfl rfl rfl (bAddN (j := 1) ?_) ?_
     focus omega
     clear F a; intro a F;refine sMv F rfl rfl rfl ?_;clear F a;intro a F;refine sNil ?_
     refine ⟨_, ?_, _, ⟨t + 1, rfl, rfl, by omega, H.sel [1, 2, 3, 4, 5, 6, 7, 8] rfl rfl⟩, by rw [e8]; exact F.to (by repeat (first | exact trivial | refine Le.cons rfl ?_))⟩
     omega
    replace h249 := of_decide_eq_false h249
    obtain rfl : t = L.length := by omega
    refine wp_exit ?_;refine hK55 _ _ ?_;clear hK55;refine cSeq (fun K61 hK61 => ?_);refine cSR fun K62 hK62=>sFa (f := 1) (k := 1) underlying34 rfl sizeOf5 rfl rfl F rfl rfl rfl (qLd isAgg5 rfl rfl rfl (H.cell 1 rfl rfl) (qBin rfl rfl rfl rfl (bNeqB (y := 2)) (qMv rfl rfl rfl ?_)));clear F a;intro a F
    refine F.split 270 rfl ?_ ?_ <;> (clear F; intro h270 F)
    ·
     replace h270 := bneT h270;refine sSk F rfl rfl (qPk rfl rfl rfl rfl (qNK hK62 ?_));clear hK62;clear F a;intro a F;refine cIfT F rfl ?_;refine wp_exit ?_;refine hK52 _ _ (cReg ?_);clear hK52
     refine sBin F rfl rfl rfl rfl (bAddN (j := 1) ?_) ?_
     focus omega
     clear F a; intro a F;refine sMv F rfl rfl rfl ?_;clear F a;intro a F;refine sNil ?_
     refine ⟨_, ?_, _, ⟨i + 1, rfl, rfl, by omega, H.sel [2, 3, 4, 5, 6, 7] rfl rfl⟩, F.to (by repeat (first | exact trivial | refine Le.cons rfl ?_))⟩
     omega
    replace h270 := bneF h270;refine sMv F rfl rfl rfl (qPk rfl rfl rfl rfl (qNK hK62 ?_));clear hK62;clear F a;intro a F
    refine cIf F rfl (fun h272 => ?_) (fun h272 => ?_)
    ·
     refine wp_exit ?_;refine hK52 _ _ (cReg ?_);clear hK52
     refine sBin F rfl rfl rfl rfl (bAddN (j := 1) ?_) ?_
     focus omega
     clear F a; intro a F;refine sMv F rfl rfl rfl ?_;clear F a;intro a F;refine sNil ?_
     refine ⟨_, ?_, _, ⟨i + 1, rfl, rfl, by omega, H.sel [2, 3, 4, 5, 6, 7] rfl rfl⟩, F.to (by repeat (first | exact trivial | refine Le.cons rfl ?_))⟩
     omega
    have hgF : hgs pos y.pos L L.length = false := by simpa using h272
    have hnm := hgs_all hgF
    refine wp_skip (hK61 _ _ (cSR fun K63 hK63=>sAs F rfl rfl rfl (qNK hK63 ?_)));clear hK61 hK63;clear F a;intro a F;refine cSeq (fun K64 hK64 => ?_);refine cSR fun K65 hK65=>sFa (f := 0) (k := 0) underlying28 rfl sizeOf24 rfl rfl F rfl rfl rfl (qLd isAgg24 rfl rfl rfl (H.cell 2 rfl rfl) (qLen underlying24 rfl rfl rfl (qMv rfl rfl rfl (qNK hK65 ?_))));clear hK65;clear F a;intro a F;refine wp_block ?_
    refine cLoopR [9, 18, 25, 30, 234, 235, 236, 274, 275] (fun m ups w => ∃ t : Nat, m = qq.path.evs.length - t ∧ ups = [(34, .bool (mts y qq.path.evs t)), (276, .int .i64 ((t : Nat) : Int))] ∧ t ≤ qq.path.evs.length ∧ Own W1 none w (.blk b30 y.cells 34 :: .blk b18 qq.cells 28 :: (qq.res ++ [.blk b9 qp.cells 28]))) F (qq.path.evs.length) [(34, .bool false), (276, .int .i64 ((0 : Nat) : Int))] (by repeat (first | exact SubR.nil | (apply SubR.cons; · rfl))) ?_ ?_ ?_
    · exact ⟨0, rfl, rfl, by omega, H.sel [1, 2, 3, 4, 5, 6, 7] rfl rfl⟩
    · repeat (first | exact trivial | refine Le.cons rfl ?_)
    clear F
    clear H
    intro m ups a w hI F
    obtain ⟨t, rfl, rfl, ht, H⟩ := hI
    refine cSR fun K66 hK66=>sBin F rfl rfl rfl rfl bLss (qNK hK66 ?_);clear hK66;clear F a;intro a F;refine cSeq (fun K67 hK67 => ?_)
    refine cIf F rfl (fun h277 => ?_) (fun h277 => ?_)
    ·
     replace h277 := of_decide_eq_true h277
     have htl : t < qq.path.evs.length := by omega
     obtain ⟨x, hx⟩ : ∃ x, qq.path.evs[t]? = some x := ⟨_, List.getElem?_eq_getElem htl⟩
     obtain ⟨bQ, oQ, hQA, hRQ⟩ := H.rowsAt 2 rfl ev7 (by omega) t x.cells (evAt hx)
     refine wp_skip (hK67 _ _ ?_);clear hK67;refine cSeq (fun K68 hK68 => ?_);refine wp_block ?_;refine cSR fun K69 hK69=>sIx (b := bQ) (o := oQ) underlying24 sizeOf34 F rfl rfl (by rw [← hQA]; rfl) rfl (by omega) ?_;clear F a;intro a F
     refine sLr underlying34 rfl ?si F rfl rfl rfl hRQ ?_
     case si => exact info_size sizeOf34
     clear F a; intro a F;refine sAl H zeroValue34 F rfl rfl ?_;clear F a H; intro b36 a w F H
     refine sSr H 0 ?si F rfl rfl rfl ?s1 rfl rfl ?_
     case si => exact info_size sizeOf34
     case s1 => first | rfl | (repeat (first | exact one_nil | (apply one_cons; · first | rfl | assumption | exact one_bif rfl rfl)))
     clear H; intro w H;refine nK hK69 (cReg (sMv F rfl rfl rfl (qMv rfl rfl rfl ?_)));clear hK69;clear F a;intro a F
     refine F.split 281 rfl ?_ ?_ <;> (clear F; intro h281 F)
     ·
      have e8 : mts y qq.path.evs (t + 1) = true := by rw [mts_succ hx, h281]; rfl
      refine sSk F rfl rfl (qSk rfl rfl (qSk rfl rfl (qSk rfl rfl (qSk rfl rfl (qSk rfl rfl (qSk rfl rfl (qSk rfl rfl (qSk rfl rfl (qSk rfl rfl (qSk rfl rfl (qSk rfl rfl (qSk rfl rfl (qSk rfl rfl (qSk rfl rfl (qSk rfl rfl (qSk rfl rfl (qSk rfl rfl (qSk rfl rfl (qSk rfl rfl (qSk rfl rfl (qSk rfl rfl (qSk rfl rfl (qSk rfl rfl (qSk rfl rfl (qSk rfl rfl (qSk rfl rfl (qSk rfl rfl (qSk rfl rfl (qSk rfl rfl (qSk rfl rfl (qPk rfl rfl rfl rfl (qAs rfl rfl rfl (qNK hK68 (qReg ?_))))))))))))))))))))))))))))))))));clear hK68;clear F a;intro a F
      refine sBin F rfl rfl rfl rfl (bAddN (j := 1) ?_) ?_
      focus omega
      clear F a; intro a F;refine sMv F rfl rfl rfl ?_;clear F a;intro a F;refine sNil ?_
      refine ⟨_, ?_, _, ⟨t + 1, rfl, rfl, by omega, H.sel [1, 2, 3, 4, 5, 6, 7] rfl rfl⟩, by rw [e8]; exact F.to (by repeat (first | exact trivial | refine Le.cons rfl ?_))⟩
      omega
     have e7 : mts y qq.path.evs (t + 1) = swB y x := by rw [mts_succ hx, h281]; rfl
     refine sFa (f := 1) (k := 1) underlying34 rfl sizeOf5 rfl rfl F rfl rfl rfl (qLd isAgg5 rfl rfl rfl (H.cell 0 rfl rfl) (qBin rfl rfl rfl rfl (bEqlB (y := 2)) (qMv rfl rfl rfl ?_)));clear F a;intro a F
     refine F.split 285 rfl ?_ ?_ <;> (clear F; intro h285 F)
     ·
      replace h285 := beqT h285;refine sFa (f := 5) (k := 5) underlying34 rfl sizeOf5 rfl rfl F rfl rfl rfl (qLd isAgg5 rfl rfl rfl (H.cell 0 rfl rfl) (qFa (f := 5) (k := 5) underlying34 rfl sizeOf5 rfl rfl rfl rfl rfl (qLd isAgg5 rfl rfl rfl (H.cell 1 rfl rfl) (qBin rfl rfl rfl rfl bEqlB (qPk rfl rfl rfl rfl (qMv rfl rfl rfl ?_))))));clear F a;intro a F
      refine F.split 292 rfl ?_ ?_ <;> (clear F; intro h292 F)
      ·
       replace h292 := beqT h292;refine sFa (f := 2) (k := 2) underlying34 rfl sizeOf5 rfl rfl F rfl rfl rfl (qLd isAgg5 rfl rfl rfl (H.cell 0 rfl rfl) (qFa (f := 2) (k := 2) underlying34 rfl sizeOf5 rfl rfl rfl rfl rfl (qLd isAgg5 rfl rfl rfl (H.cell 1 rfl rfl) (qBin rfl rfl rfl rfl bEqlB (qPk rfl rfl rfl rfl (qMv rfl rfl rfl ?_))))));clear F a;intro a F
       refine F.split 299 rfl ?_ ?_ <;> (clear F; intro h299 F)
       ·
        replace h299 := beqT h299;refine sFa (f := 3) (k := 3) underlying34 rfl sizeOf5 rfl rfl F rfl rfl rfl (qLd isAgg5 rfl rfl rfl (H.cell 0 rfl rfl) (qFa (f := 3) (k := 3) underlying34 rfl sizeOf5 rfl rfl rfl rfl rfl (qLd isAgg5 rfl rfl rfl (H.cell 1 rfl rfl) (qBin rfl rfl rfl rfl bEqlB (qPk rfl rfl rfl rfl (qMv rfl rfl rfl ?_))))));clear F a;intro a F
        refine F.split 306 rfl ?_ ?_ <;> (clear F; intro h306 F)
        ·
         replace h306 := beqT h306
         have e8 : mts y qq.path.evs (t + 1) = (x.mode == y.mode) := by rw [e7]; unfold swB; rw [h285, h292, h299, h306]; simp
         refine sFa (f := 4) (k := 4) underlying34 rfl sizeOf5 rfl rfl F rfl rfl rfl (qLd isAgg5 rfl rfl rfl (H.cell 0 rfl rfl) (qFa (f := 4) (k := 4) underlying34 rfl sizeOf5 rfl rfl rfl rfl rfl (qLd isAgg5 rfl rfl rfl (H.cell 1 rfl rfl) (qBin rfl rfl rfl rfl bEqlB (qPk rfl rfl rfl rfl (qPk rfl rfl rfl rfl (qAs rfl rfl rfl (qNK hK68 (qReg ?_)))))))));clear hK68;clear F a;intro a F
         refine sBin F rfl rfl rfl rfl (bAddN (j := 1) ?_) ?_
         focus omega
         clear F a; intro a F;refine sMv F rfl rfl rfl ?_;clear F a;intro a F;refine sNil ?_
         refine ⟨_, ?_, _, ⟨t + 1, rfl, rfl, by omega, H.sel [1, 2, 3, 4, 5, 6, 7] rfl rfl⟩, by rw [e8]; exact F.to (by repeat (first | exact trivial | refine Le.cons rfl ?_))⟩
         omega
        replace h306 := beqF h306
        have e8 : mts y qq.path.evs (t + 1) = false := by rw [e7]; unfold swB; rw [beq_eq_false_iff_ne.2 h306]; simp
        refine sSk F rfl rfl (qSk rfl rfl (qSk rfl rfl (qSk rfl rfl (qSk rfl rfl (qPk rfl rfl rfl rfl (qPk rfl rfl rfl rfl (qAs rfl rfl rfl (qNK hK68 (qReg ?_)))))))));clear hK68;clear F a;intro a F
        refine sBin F rfl rfl rfl rfl (bAddN (j := 1) ?_) ?_
        focus omega
        clear F a; intro a F;refine sMv F rfl rfl rfl ?_;clear F a;intro a F;refine sNil ?_
        refine ⟨_, ?_, _, ⟨t + 1, rfl, rfl, by omega, H.sel [1, 2, 3, 4, 5, 6, 7] rfl rfl⟩, by rw [e8]; exact F.to (by repeat (first | exact trivial | refine Le.cons rfl ?_))⟩
        omega
       replace h299 := beqF h299
       have e8 : mts y qq.path.evs (t + 1) = false := by rw [e7]; unfold swB; rw [beq_eq_false_iff_ne.2 h299]; simp
       refine sSk F rfl rfl (qSk rfl rfl (qSk rfl rfl (qSk rfl rfl (qSk rfl rfl (qPk rfl rfl rfl rfl (qMv rfl rfl rfl (qSk rfl rfl (qSk rfl rfl (qSk rfl rfl (qSk rfl rfl (qSk rfl rfl (qPk rfl rfl rfl rfl (qPk rfl rfl rfl rfl (qAs rfl rfl rfl (qNK hK68 (qReg ?_))))))))))))))));clear hK68;clear F a;intro a F
       refine sBin F rfl rfl rfl rfl (bAddN (j := 1) ?_) ?_
       focus omega
       clear F a; intro a F;refine sMv F rfl rfl rfl ?_;clear F a;intro a F;refine sNil ?_
       refine ⟨_, ?_, _, ⟨t + 1, rfl, rfl, by omega, H.sel [1, 2, 3, 4, 5, 6, 7] rfl rfl⟩, by rw [e8]; exact F.to (by repeat (first | exact trivial | refine Le.cons rfl ?_))⟩
       omega
      replace h292 := beqF h292
      have e8 : mts y qq.path.evs (t + 1) = false := by rw [e7]; unfold swB; rw [beq_eq_false_iff_ne.2 h292]; simp
      refine sSk F rfl rfl (qSk rfl rfl (qSk rfl rfl (qSk rfl rfl (qSk rfl rfl (qPk rfl rfl rfl rfl (qMv rfl rfl rfl (qSk rfl rfl (qSk rfl rfl (qSk rfl rfl (qSk rfl rfl (qSk rfl rfl (qPk rfl rfl rfl rfl (qMv rfl rfl rfl (qSk rfl rfl (qSk rfl rfl (qSk rfl rfl (qSk rfl rfl (qSk rfl rfl (qPk rfl rfl rfl rfl (qPk rfl rfl rfl rfl (qAs rfl rfl rfl (qNK hK68 (qReg ?_)))))))))))))))))))))));clear hK68;clear F a;intro a F
      refine sBin F rfl rfl rfl rfl (bAddN (j := 1) ?_) ?_
      focus omega
      clear F a; intro a F;refine sMv F rfl rfl rfl ?_;clear F a;intro a F;refine sNil ?_
      refine ⟨_, ?_, _, ⟨t + 1, rfl, rfl, by omega, H.sel [1, 2, 3, 4, 5, 6, 7] rfl rfl⟩, by rw [e8]; exact F.to (by repeat (first | exact trivial | refine Le.cons rfl ?_))⟩
      omega
     replace h285 := beqF h285
     have e8 : mts y qq.path.evs (t + 1) = false := by rw [e7]; unfold swB; rw [beq_eq_false_iff_ne.2 h285]; rfl
     refine sSk F rfl rfl (qSk rfl rfl (qSk rfl rfl (qSk rfl rfl (qSk rfl rfl (qPk rfl rfl rfl rfl (qMv rfl rfl rfl (qSk rfl rfl (qSk rfl rfl (qSk rfl rfl (qSk rfl rfl (qSk rfl rfl (qPk rfl rfl rfl rfl (qMv rfl rfl rfl (qSk rfl rfl (qSk rfl rfl (qSk rfl rfl (qSk rfl rfl (qSk rfl rfl (qPk rfl rfl rfl rfl (qMv rfl rfl rfl (qSk rfl rfl (qSk rfl rfl (qSk rfl rfl (qSk rfl rfl (qSk rfl rfl (qPk rfl rfl rfl rfl (qPk rfl rfl rfl rfl (qAs rfl rfl rfl (qNK hK68 (qReg ?_))))))))))))))))))))))))))))));clear hK68;clear F a;intro a F
     refine sBin F rfl rfl rfl rfl (bAddN (j := 1) ?_) ?_
     focus omega
     clear F a; intro a F;refine sMv F rfl rfl rfl ?_;clear F a;intro a F;refine sNil ?_
     refine ⟨_, ?_, _, ⟨t + 1, rfl, rfl, by omega, H.sel [1, 2, 3, 4, 5, 6, 7] rfl rfl⟩, by rw [e8]; exact F.to (by repeat (first | exact trivial | refine Le.cons rfl ?_))⟩
     omega
    replace h277 := of_decide_eq_false h277
    obtain rfl : t = qq.path.evs.length := by omega
    refine wp_exit ?_;refine hK64 _ _ (cSR fun K70 hK70=>sMv F rfl rfl rfl (qNot rfl rfl rfl (qNK hK70 ?_)));clear hK64 hK70;clear F a;intro a F
    refine cIf F rfl (fun h316 => ?_) (fun h316 => ?_)
    ·
     replace h316 := notT h316
     have hyk : y.kind = 2 := by simpa using h270
     obtain ⟨e, he, hse⟩ := hho y (List.mem_of_getElem? hy) hyk (by rw [← hpos2, ← hL]; exact hnm)
     rw [mts_all he hse] at h316
     cases h316
    replace h316 := notF h316;refine wp_skip (hK52 _ _ (cReg ?_));clear hK52
    refine sBin F rfl rfl rfl rfl (bAddN (j := 1) ?_) ?_
    focus omega
    clear F a; intro a F;refine sMv F rfl rfl rfl ?_;clear F a;intro a F;refine sNil ?_
    refine ⟨_, ?_, _, ⟨i + 1, rfl, rfl, by omega, H.sel [1, 2, 3, 4, 5, 6] rfl rfl⟩, F.to (by repeat (first | exact trivial | refine Le.cons rfl ?_))⟩
    omega
   replace h237 := of_decide_eq_false h237;refine wp_exit ?_;refine hK48 _ _ (cSR fun K71 hK71=>?_);clear hK48;refine sCall call12 F rfl rfl rfl (awake8_any _ (hN.own H) (hT.own H)) ?_;rintro e w ⟨rfl, hb⟩;replace H := H.grow hb; clear hb;refine ⟨_, rfl, ?_⟩;clear F a; intro a F;refine sAs F rfl rfl rfl (qNK hK71 ?_);clear hK71;clear F a;intro a F;refine wp_ret ?_;refine bRet results4 F rfl ?_
   first | exact ⟨rfl, H.below⟩ | exact ⟨rfl, (H1.grow H.below).below⟩
  replace h184 := of_decide_eq_false h184
  omega
end Go.Proofs.YtklpiodciblabaaGreatDoor
