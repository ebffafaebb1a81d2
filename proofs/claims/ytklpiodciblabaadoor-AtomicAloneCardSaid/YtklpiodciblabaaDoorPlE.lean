/-
  WALK2. The law's read. Conditions: the thread, the reads so far and the two tables lie in memory.
-/
import Derived.Test.YtklpiodciblabaaDoorPlD
import Derived.Test.YtklpiodciblabaaDoorKtB
set_option linter.unusedSimpArgs false
set_option linter.unusedVariables false
namespace Go.Proofs.YtklpiodciblabaaDoor
open Go.RowKit
set_option maxRecDepth 100000
theorem qz_err (N : Nat) (z : RunP) (n : Nat) : (Qz N z n).err = 0 := by unfold Qz; split <;> rfl
theorem qz_more (N : Nat) (z : RunP) (n : Nat) : (Qz N z n).more = decide (n + 1 < N) := by
  unfold Qz
  split
  next h => exact (decide_eq_true h).symm
  next h => exact (decide_eq_false h).symm
theorem qz_end {N : Nat} {z : RunP} {n : Nat} (h : ¬ n + 1 < N) : Qz N z n = ⟨runPath z, false, 0⟩ := by unfold Qz; rw [if_neg h]
def b1row (x : UInt8) : List Value := [b8 x]
theorem bytes_rows (l : List UInt8) : ∀ r ∈ l.map (fun x => [b8 x]), r.length = 1 := fun r hr => by obtain ⟨x, _, rfl⟩ := List.mem_map.1 hr; rfl
theorem bytes_one (l : List UInt8) : ∀ r ∈ l.map (fun x => [b8 x]), r.all (·.oneCell') = true := fun r hr => by obtain ⟨x, _, rfl⟩ := List.mem_map.1 hr; rfl
theorem bytes_app {w : World} {A : Option Addr} {l m : List UInt8} (h : RowsAt w A 1 (l.map (fun x => [b8 x]) ++ m.map (fun x => [b8 x]))) : BytesAt w A (l ++ m) := by
  unfold BytesAt
  rw [List.map_append]
  exact h
theorem ev_rows (l : List Ev) : ∀ r ∈ l.map Ev.cells, r.length = 7 := fun r hr => by obtain ⟨x, _, rfl⟩ := List.mem_map.1 hr; rfl
theorem take_snoc {α : Type} {l : List α} {i : Nat} {e : α} (h : l[i]? = some e) : l.take (i + 1) = l.take i ++ [e] := by rw [List.take_add_one, h]; rfl
theorem memL_snoc (m : By) (a : List Ev) (e : Ev) : memL m (a ++ [e]) = wrEv (memL m a) e := by rw [memL_append]; rfl
theorem rdL_snoc (a : List Ev) (e : Ev) : rdL (a ++ [e]) = if e.kind = 1 then rdL a ++ [e.val] else rdL a := by
  rw [rdL_append]
  by_cases h : e.kind = 1
  · rw [if_pos h]
    unfold rdL
    rw [show [e].filter (fun e => e.kind == 1) = [e] from by rw [List.filter_cons_of_pos (by simpa using h)]; rfl]
    rfl
  · rw [if_neg h, show rdL [e] = [] from rdL_none fun e' he' => by obtain rfl := List.mem_singleton.1 he'; exact h, List.append_nil]
theorem rdL_take_le (a : List Ev) (i : Nat) : (rdL (a.take i)).length ≤ (rdL a).length := by
  have e : rdL a = rdL (a.take i) ++ rdL (a.drop i) := by rw [← rdL_append, List.take_append_drop]
  rw [e, List.length_append]
  omega
set_option maxHeartbeats 4000000 in
theorem read_any (A : Option Addr) (C : Nat) (l : List Ins) (RA : Option Addr) (RC k : Nat) (reads : List UInt8) (m0 : By) (v : UInt8) (N : Nat) (z : RunP) (pre : List Ev) (e1 : Ev) (rest : List Ev) (w0 : World) (hq : NextR m0 l reads v N z pre e1 rest)
    (hA : RowsAt w0 A 10 (l.map Ins.cells)) (hn : l.length ≤ 9223372036854775807) (hR : BytesAt w0 RA reads) (hk : k = reads.length) (hr12 : reads.length ≤ 1000) (hN : NeedsAt w0) (hT : TabAt w0) :
    Calls Tryd.prog 8 #[.slice A l.length C, .slice RA k RC, .agg (bs 6 m0).toArray] w0 fun e w' => e = .returned (.tuple #[Go.Proofs.YtklpiodciblabaaDoor.b8 v, .bool true]) ∧ Below w0.heap.size w0 w' := by
  have H := Own.start w0 none
  have hn1 := hq.n1
  have hn12 := hq.n12
  have hrl := bytes_rows reads
  have hr1 := bytes_one reads
  have hz0 := hq.ans 0 hn1
  have hlen0 : (List.map (fun x => [Go.Proofs.YtklpiodciblabaaDoor.b8 x]) reads).length = reads.length := List.length_map ..
  have hro := fun (n : Nat) => bytes_rows (reads ++ List.replicate n 0)
  have hap : ∀ n, List.map (fun x => [Go.Proofs.YtklpiodciblabaaDoor.b8 x]) reads ++ List.replicate n [Go.Proofs.YtklpiodciblabaaDoor.b8 0] = (reads ++ List.replicate n 0).map (fun x => [Go.Proofs.YtklpiodciblabaaDoor.b8 x]) := fun n => by rw [List.map_append, List.map_replicate]
  have hro1 : ∀ r ∈ ([] ++ List.map (fun x => [Go.Proofs.YtklpiodciblabaaDoor.b8 x]) reads) ++ [[Go.Proofs.YtklpiodciblabaaDoor.b8 0]], r.length = 1 := fun r hr => hro 1 r (by rw [← hap 1]; exact hr)
  have hro2 : ∀ n, ∀ r ∈ ([] ++ List.map (fun x => [Go.Proofs.YtklpiodciblabaaDoor.b8 x]) reads) ++ List.replicate n [Go.Proofs.YtklpiodciblabaaDoor.b8 0], r.length = 1 := fun n r hr => hro n r (by rw [← hap n]; exact hr)
  refine enterF Tryd.func8 rfl Tryd.ntmps8 rfl (fun a F => ?_)
  refine cSeq (fun K1 hK1 => ?_)
  refine cReg ?_
  refine sBxB H F rfl rfl rfl ?_
  clear F a H; intro b5 a w F H
  refine sAs F rfl rfl rfl ?_;clear F a;intro a F
  refine sAs F rfl rfl rfl ?_;clear F a;intro a F
  refine sNil ?_
  refine hK1 _ _ ?_; clear hK1
  refine cSeq (fun K2 hK2 => ?_)
  refine cReg ?_
  refine sMv F rfl rfl rfl ?_;clear F a;intro a F
  refine sBs (cs := []) H Tryd.underlying23 Tryd.sizeOf5 Tryd.zeroValue5 rfl F rfl rfl rfl rfl rfl ?_
  clear F a H; intro b17 a w F H
  replace H := H.emptyRws 1
  refine sMv F rfl rfl rfl ?_;clear F a;intro a F
  refine sAppO (bytes := 1) (sz := 1) H 0 Tryd.underlying23 Tryd.typeInfo5 rfl rfl rfl rfl rfl rfl F rfl rfl rfl rfl rfl ?hm ((RowsAt.own hR H)) (hrl) (hr1) ?hb ?_
  case hm => first | rfl | (simp; done) | omega | (simp only [List.length_take, List.length_map]; omega) | (simp; omega)
  case hb => exact ((by simp only [List.length_nil]; omega))
  clear F a H; intro A19 c19 a w F H
  refine sBs1 H Tryd.underlying23 Tryd.sizeOf5 Tryd.zeroValue5 rfl F rfl rfl rfl rfl ?_
  clear F a H; intro b20 a w F H
  refine sApp1 (bytes := 1) H 1 Tryd.underlying23 Tryd.typeInfo5 rfl rfl rfl rfl rfl rfl F rfl rfl rfl rfl rfl (H.whole 0 rfl) rfl ?s1 ?s2 ?_
  case s1 => first | rfl | (repeat (first | exact one_nil | (apply one_cons; · first | rfl | assumption | exact one_bif rfl rfl)))
  case s2 => (simp only [List.nil_append, List.length_map]; omega)
  clear F a H; intro A21 c21 a w F H
  refine sCall Tryd.call7 F rfl rfl rfl (Follow_n A C _ l _ _ _ (reads ++ List.replicate (0 + 1) 0) _ (hA.own H) hn rfl (show RowsAt _ _ 1 _ by rw [← hap 1]; exact H.rowsAt 1 rfl hro1 (by decide)) (by rw [List.length_append, List.length_replicate]; omega) (by simp) (hN.own H) (hT.own H)) ?_
  rintro e w hf
  (rw [hz0] at hf; obtain ⟨A1, c1, A2, c2, A3, c3, A4, c4, rfl, H2⟩ := hf; replace H := H.join H2; clear H2)
  refine ⟨_, rfl, ?_⟩
  clear F a; intro a F
  refine sMv F rfl rfl rfl ?_;clear F a;intro a F
  refine sExt F rfl rfl rfl rfl ?_;clear F a;intro a F
  refine sExt F rfl rfl rfl rfl ?_;clear F a;intro a F
  refine sExt F rfl rfl rfl rfl ?_;clear F a;intro a F
  refine sAl H Tryd.zeroValue45 F rfl rfl ?_
  clear F a H; intro b8 a w F H
  refine sSr H 0 ?si F rfl rfl rfl ?s1 rfl rfl ?_
  case si => exact info_size Tryd.sizeOf45
  case s1 => first | rfl | (repeat (first | exact one_nil | (apply one_cons; · first | rfl | assumption | exact one_bif rfl rfl)))
  clear H; intro w H
  refine sAs F rfl rfl rfl ?_;clear F a;intro a F
  refine sAs F rfl rfl rfl ?_;clear F a;intro a F
  refine sNil ?_
  refine hK2 _ _ ?_; clear hK2
  refine cSeq (fun K3 hK3 => ?_)
  refine cSeq (fun K4 hK4 => ?_)
  refine cReg ?_
  refine sAs F rfl rfl rfl ?_;clear F a;intro a F
  refine sNil ?_
  refine hK4 _ _ ?_; clear hK4
  refine wp_block ?_
  refine cLoopR [0, 1, 5, 8] (fun m ups w => ∃ (n : Nat) (A1 : Option Addr) (c1 : Nat) (A2 : Option Addr) (c2 : Nat) (A3 : Option Addr) (c3 : Nat) (A4 : Option Addr) (c4 : Nat), m = N - n ∧ ups = [(9, .bool (Qz N z n).more), (10, .int .i64 ((Qz N z n).err : Int)), (11, .int .i64 ((n : Nat) : Int))] ∧ n + 1 ≤ N ∧ Own w0 none w ((Qz N z n).path.res A1 c1 A2 c2 A3 c3 A4 c4 ++ [.blk b8 ((Qz N z n).path.cells A1 c1 A2 c2 A3 c3 A4 c4) 45, .blk b5 (bs 6 m0) 36])) F (N) [(9, .bool (Qz N z 0).more), (10, .int .i64 ((Qz N z 0).err : Int)), (11, .int .i64 ((0 : Nat) : Int))] (by repeat (first | exact SubR.nil | (apply SubR.cons; · rfl))) ?_ ?_ ?_
  · exact ⟨0, A1, c1, A2, c2, A3, c3, A4, c4, rfl, rfl, hn1, H.sel [1, 2, 3, 4, 0, 7] rfl rfl⟩
  · repeat (first | exact trivial | refine Le.cons rfl ?_)
  clear F
  clear H
  intro m ups a w hI F
  obtain ⟨n, A1, c1, A2, c2, A3, c3, A4, c4, rfl, rfl, hnN, H⟩ := hI
  have herr := qz_err N z n
  have hmo := qz_more N z n
  refine cSeq (fun K5 hK5 => ?_)
  refine cSeq (fun K6 hK6 => ?_)
  refine cReg ?_
  refine sMv F rfl rfl rfl ?_;clear F a;intro a F
  refine sMv F rfl rfl rfl ?_;clear F a;intro a F
  refine F.split 27 rfl ?_ ?_ <;> (clear F; intro h27 F)
  ·
   have hlt : n + 1 < N := of_decide_eq_true (hmo.symm.trans h27)
   refine sMv F rfl rfl rfl ?_;clear F a;intro a F
   refine sBin F rfl rfl rfl rfl bEql ?_;clear F a;intro a F
   refine sPk F rfl rfl rfl rfl ?_;clear F a;intro a F
   refine sMv F rfl rfl rfl ?_;clear F a;intro a F
   refine F.split 31 rfl ?_ ?_ <;> (clear F; intro h31 F)
   ·
    replace h31 := beqT h31
    refine sMv F rfl rfl rfl ?_;clear F a;intro a F
    refine sBin F rfl rfl rfl rfl bLss ?_;clear F a;intro a F
    refine sPk F rfl rfl rfl rfl ?_;clear F a;intro a F
    refine sNil ?_
    refine hK6 _ _ ?_; clear hK6
    refine cIf F rfl (fun h34 => ?_) (fun h34 => ?_)
    ·
     replace h34 := of_decide_eq_true h34
     refine wp_skip ?_
     refine hK5 _ _ ?_; clear hK5
     refine cSeq (fun K7 hK7 => ?_)
     refine wp_block ?_
     refine cReg ?_
     refine sMv F rfl rfl rfl ?_;clear F a;intro a F
     refine sBs (cs := []) H Tryd.underlying23 Tryd.sizeOf5 Tryd.zeroValue5 rfl F rfl rfl rfl rfl rfl ?_
     clear F a H; intro b39 a w F H
     replace H := H.emptyRws 1
     refine sMv F rfl rfl rfl ?_;clear F a;intro a F
     refine sAppO (bytes := 1) (sz := 1) H 0 Tryd.underlying23 Tryd.typeInfo5 rfl rfl rfl rfl rfl rfl F rfl rfl rfl rfl rfl ?hm ((RowsAt.own hR H)) (hrl) (hr1) ?hb ?_
     case hm => first | rfl | (simp; done) | omega | (simp only [List.length_take, List.length_map]; omega) | (simp; omega)
     case hb => exact ((by simp only [List.length_nil]; omega))
     clear F a H; intro A41 c41 a w F H
     refine sMv F rfl rfl rfl ?_;clear F a;intro a F
     refine sBin F rfl rfl rfl rfl (bAddN (j := 2) ?_) ?_
     focus omega
     clear F a; intro a F
     refine sAppZ H 0 Tryd.underlying23 Tryd.underlying3 Tryd.typeInfo5 rfl rfl rfl F rfl rfl rfl rfl rfl (hrl) (by omega) ((by simp only [List.nil_append, List.length_map]; omega)) ?_
     clear F a H; intro A44 c44 a w F H
     refine sCall Tryd.call7 F rfl rfl rfl (Follow_n A C _ l _ _ _ (reads ++ List.replicate (n + 1 + 1) 0) _ (hA.own H) hn rfl (show RowsAt _ _ 1 _ by rw [← hap (n + 1 + 1)]; exact H.rowsAt 0 rfl (hro2 (n + 1 + 1)) (by decide)) (by rw [List.length_append, List.length_replicate]; omega) (by simp) (hN.own H) (hT.own H)) ?_
     rintro e w hf
     (rw [hq.ans (n + 1) hlt] at hf; obtain ⟨B1, d1, B2, d2, B3, d3, B4, d4, rfl, H2⟩ := hf; replace H := H.join H2; clear H2)
     refine ⟨_, rfl, ?_⟩
     clear F a; intro a F
     refine sMv F rfl rfl rfl ?_;clear F a;intro a F
     refine sExt F rfl rfl rfl rfl ?_;clear F a;intro a F
     refine sExt F rfl rfl rfl rfl ?_;clear F a;intro a F
     refine sExt F rfl rfl rfl rfl ?_;clear F a;intro a F
     refine sSr H 9 ?si F rfl rfl rfl ?s1 rfl rfl ?_
     case si => exact info_size Tryd.sizeOf45
     case s1 => first | rfl | (repeat (first | exact one_nil | (apply one_cons; · first | rfl | assumption | exact one_bif rfl rfl)))
     clear H; intro w H
     refine sAs F rfl rfl rfl ?_;clear F a;intro a F
     refine sAs F rfl rfl rfl ?_;clear F a;intro a F
     refine sNil ?_
     refine hK7 _ _ ?_; clear hK7
     refine cReg ?_
     refine sMv F rfl rfl rfl ?_;clear F a;intro a F
     refine sBin F rfl rfl rfl rfl (bAddN (j := 1) ?_) ?_
     focus omega
     clear F a; intro a F
     refine sAs F rfl rfl rfl ?_;clear F a;intro a F
     refine sNil ?_
     (refine ⟨_, ?_, _, ⟨n + 1, B1, d1, B2, d2, B3, d3, B4, d4, rfl, rfl, hlt, H.sel [0, 1, 2, 3, 9, 10] rfl rfl⟩, F.to (by repeat (first | exact trivial | refine Le.cons rfl ?_))⟩
      · omega)
    replace h34 := of_decide_eq_false h34
    omega
   replace h31 := beqF h31
   omega
  have hne : ¬ n + 1 < N := of_decide_eq_false (hmo.symm.trans h27)
  rw [qz_end hne] at F H
  refine sSk F rfl rfl ?_;clear F a;intro a F
  refine sSk F rfl rfl ?_;clear F a;intro a F
  refine sPk F rfl rfl rfl rfl ?_;clear F a;intro a F
  refine sMv F rfl rfl rfl ?_;clear F a;intro a F
  refine sSk F rfl rfl ?_;clear F a;intro a F
  refine sSk F rfl rfl ?_;clear F a;intro a F
  refine sPk F rfl rfl rfl rfl ?_;clear F a;intro a F
  refine sNil ?_
  refine hK6 _ _ ?_; clear hK6
  refine cIfF F rfl ?_
  refine wp_exit ?_
  refine hK3 _ _ ?_; clear hK3
  refine cSeq (fun K8 hK8 => ?_)
  refine cSeq (fun K9 hK9 => ?_)
  refine cReg ?_
  refine sMv F rfl rfl rfl ?_;clear F a;intro a F
  refine sBin F rfl rfl rfl rfl bNeq ?_;clear F a;intro a F
  refine sMv F rfl rfl rfl ?_;clear F a;intro a F
  refine F.split 51 rfl ?_ ?_ <;> (clear F; intro h51 F)
  ·
   replace h51 := bneT h51
   exact absurd (show ((0 : Nat) : Int) = 0 from rfl) h51
  replace h51 := bneF h51
  refine sMv F rfl rfl rfl ?_;clear F a;intro a F
  refine sPk F rfl rfl rfl rfl ?_;clear F a;intro a F
  refine sNil ?_
  refine hK9 _ _ ?_; clear hK9
  refine cIf F rfl (fun h53 => ?_) (fun h53 => ?_)
  ·
   exact Bool.noConfusion (show false = true from h53)
  refine wp_skip ?_
  refine hK8 _ _ ?_; clear hK8
  refine cSeq (fun K10 hK10 => ?_)
  refine cReg ?_
  refine sAs F rfl rfl rfl ?_;clear F a;intro a F
  refine sNil ?_
  refine hK10 _ _ ?_; clear hK10
  refine cSeq (fun K11 hK11 => ?_)
  refine cSeq (fun K12 hK12 => ?_)
  refine cReg ?_
  refine sFa (f := 0) (k := 0) Tryd.underlying45 rfl Tryd.sizeOf42 rfl rfl F rfl rfl rfl ?_;clear F a;intro a F
  refine sLd Tryd.isAgg42 F rfl rfl rfl (H.cell 4 rfl rfl) ?_;clear F a;intro a F
  refine sLen Tryd.underlying42 F rfl rfl rfl ?_;clear F a;intro a F
  refine sMv F rfl rfl rfl ?_;clear F a;intro a F
  refine sNil ?_
  refine hK12 _ _ ?_; clear hK12
  refine wp_block ?_
  refine cLoopR [1, 5, 55, 56] (fun m ups w => ∃ (i c : Nat), m = (evsP z).length - i ∧ ups = [(12, .int .i64 ((c : Nat) : Int)), (57, .int .i64 ((i : Nat) : Int))] ∧ c = (rdL ((evsP z).take i)).length ∧ i ≤ pre.length ∧ Own w0 none w [.rws 49 7 (.slice A1 (evsP z).length c1) ((evsP z).map Ev.cells), .blk b5 (bs 6 (memL m0 ((evsP z).take i))) 36]) F ((evsP z).length) [(12, .int .i64 ((0 : Nat) : Int)), (57, .int .i64 ((0 : Nat) : Int))] (by repeat (first | exact SubR.nil | (apply SubR.cons; · rfl))) ?_ ?_ ?_
  · exact ⟨0, 0, rfl, rfl, rfl, Nat.zero_le _, H.sel [0, 5] rfl rfl⟩
  · repeat (first | exact trivial | refine Le.cons rfl ?_)
  clear F
  clear H
  intro m ups a w hI F
  obtain ⟨i, c, rfl, rfl, hc, hi, H⟩ := hI
  have hel : (evsP z).length = pre.length + (rest.length + 1) := by rw [hq.evs, List.length_append, List.length_cons]
  have hml := H.rwsLen 0 rfl
  simp only [maxLen] at hml
  have htk : (evsP z).take i = pre.take i := by rw [hq.evs]; exact List.take_append_of_le_length hi
  have hat := rdL_take_le pre i
  rw [← htk, hq.rd] at hat
  refine cSeq (fun K13 hK13 => ?_)
  refine cReg ?_
  refine sBin F rfl rfl rfl rfl bLss ?_;clear F a;intro a F
  refine sNil ?_
  refine hK13 _ _ ?_; clear hK13
  refine cSeq (fun K14 hK14 => ?_)
  refine cIf F rfl (fun h58 => ?_) (fun h58 => ?_)
  ·
   replace h58 := of_decide_eq_true h58
   have hil : i < (evsP z).length := by omega
   obtain ⟨e, he⟩ : ∃ e, (evsP z)[i]? = some e := ⟨_, List.getElem?_eq_getElem hil⟩
   obtain ⟨be, oe, rfl, hRow⟩ := H.rowsAt 0 rfl (ev_rows _) (by decide) i e.cells (by rw [List.getElem?_map, he]; rfl)
   have hloc := hq.loc e (List.mem_of_getElem? he)
   have hsn := take_snoc he
   refine wp_skip ?_
   refine hK14 _ _ ?_; clear hK14
   refine cSeq (fun K15 hK15 => ?_)
   refine wp_block ?_
   refine cSeq (fun K16 hK16 => ?_)
   refine cReg ?_
   refine sIx Tryd.underlying42 Tryd.sizeOf49 F rfl rfl rfl rfl ?_ ?_
   focus (first | omega | decide | (simp; omega))
   clear F a; intro a F
   refine sLr Tryd.underlying49 rfl ?si F rfl rfl rfl hRow ?_
   case si => exact info_size Tryd.sizeOf49
   clear F a; intro a F
   refine sAl H Tryd.zeroValue49 F rfl rfl ?_
   clear F a H; intro b14 a w F H
   refine sSr H 0 ?si F rfl rfl rfl ?s1 rfl rfl ?_
   case si => exact info_size Tryd.sizeOf49
   case s1 => first | rfl | (repeat (first | exact one_nil | (apply one_cons; · first | rfl | assumption | exact one_bif rfl rfl)))
   clear H; intro w H
   refine sNil ?_
   refine hK16 _ _ ?_; clear hK16
   refine cSeq (fun K17 hK17 => ?_)
   refine cReg ?_
   refine sFa (f := 1) (k := 1) Tryd.underlying49 rfl Tryd.sizeOf5 rfl rfl F rfl rfl rfl ?_;clear F a;intro a F
   refine sLd Tryd.isAgg5 F rfl rfl rfl (H.cell 0 rfl rfl) ?_;clear F a;intro a F
   refine sNil ?_
   refine hK17 _ _ ?_; clear hK17
   refine wp_block ?_
   refine cSeq (fun K18 hK18 => ?_)
   refine cReg ?_
   refine sBin F rfl rfl rfl rfl (bEqlB (y := 1)) ?_;clear F a;intro a F
   refine sAs F rfl rfl rfl ?_;clear F a;intro a F
   refine sNil ?_
   refine hK18 _ _ ?_; clear hK18
   refine cIf F rfl (fun h63 => ?_) (fun h63 => ?_)
   ·
    replace h63 := beqT h63
    have hk1 : e.kind = 1 := h63
    have hr2 : rdL ((evsP z).take (i + 1)) = rdL ((evsP z).take i) ++ [e.val] := by rw [hsn, rdL_snoc, if_pos hk1]
    have hm2 : memL m0 ((evsP z).take (i + 1)) = memL m0 ((evsP z).take i) := by rw [hsn, memL_snoc]; unfold wrEv; rw [if_neg (by rw [hk1]; decide)]
    have hmore : i < pre.length → (rdL ((evsP z).take i)).length < reads.length := fun hip => by
     have h1 : (evsP z).take (i + 1) = pre.take (i + 1) := by rw [hq.evs]; exact List.take_append_of_le_length hip
     have h2 := rdL_take_le pre (i + 1)
     rw [← h1, hr2, List.length_append, hq.rd] at h2
     exact h2
    have hlast : i = pre.length → (rdL ((evsP z).take i)).length = reads.length ∧ memL m0 ((evsP z).take i) e.loc.toNat = v := fun hip => by
     have h1 : (evsP z).take i = pre := by rw [htk, hip, List.take_length]
     have h2 : e = e1 := by
      have h3 : (evsP z)[pre.length]? = some e1 := by rw [hq.evs, List.getElem?_append_right (Nat.le_refl _), Nat.sub_self]; rfl
      rw [hip, h3] at he
      exact (Option.some.inj he).symm
     rw [h1, h2]
     exact ⟨hq.rd, hq.val⟩
    refine cSeq (fun K19 hK19 => ?_)
    refine cSeq (fun K20 hK20 => ?_)
    refine cReg ?_
    refine sMv F rfl rfl rfl ?_;clear F a;intro a F
    refine sMv F rfl rfl rfl ?_;clear F a;intro a F
    refine sLen Tryd.underlying23 F rfl rfl rfl ?_;clear F a;intro a F
    refine sBin F rfl rfl rfl rfl bEql ?_;clear F a;intro a F
    refine sNil ?_
    refine hK20 _ _ ?_; clear hK20
    refine cIf F rfl (fun h68 => ?_) (fun h68 => ?_)
    ·
     replace h68 := beqT h68
     refine cSeq (fun K21 hK21 => ?_)
     refine cReg ?_
     refine sFa (f := 2) (k := 2) Tryd.underlying49 rfl Tryd.sizeOf5 rfl rfl F rfl rfl rfl ?_;clear F a;intro a F
     refine sLd Tryd.isAgg5 F rfl rfl rfl (H.cell 0 rfl rfl) ?_;clear F a;intro a F
     refine sIaZ1 Tryd.underlying36 Tryd.sizeOf5 F rfl rfl rfl rfl ?_ ?_
     focus exact hloc
     clear F a; intro a F
     refine sLd Tryd.isAgg5 F rfl rfl rfl (H.cellB 2 rfl (by omega)) ?_;clear F a;intro a F
     refine sAs F rfl rfl rfl ?_;clear F a;intro a F
     refine sAs F rfl rfl rfl ?_;clear F a;intro a F
     refine sNil ?_
     refine hK21 _ _ ?_; clear hK21
     refine wp_ret ?_
     simp only [Exit.inBlock, Exit.then]
     refine bRet2 Tryd.results8 F rfl rfl ?_
     have hie : i = pre.length := by
      rcases Nat.lt_or_ge i pre.length with hip | hip
      · have := hmore hip; omega
      · omega
     refine ⟨?_, H.below⟩
     rw [← (hlast hie).2]
    replace h68 := beqF h68
    refine wp_skip ?_
    refine hK19 _ _ ?_; clear hK19
    refine cReg ?_
    refine sMv F rfl rfl rfl ?_;clear F a;intro a F
    refine sBin F rfl rfl rfl rfl (bAddN (j := 1) ?_) ?_
    focus omega
    clear F a; intro a F
    refine sAs F rfl rfl rfl ?_;clear F a;intro a F
    refine sNil ?_
    refine hK15 _ _ ?_; clear hK15
    refine cReg ?_
    refine sBin F rfl rfl rfl rfl (bAddN (j := 1) ?_) ?_
    focus omega
    clear F a; intro a F
    refine sMv F rfl rfl rfl ?_;clear F a;intro a F
    refine sNil ?_
    (refine ⟨_, ?_, _, ⟨i + 1, _, rfl, rfl, ?_, ?_, ?_⟩, F.to (by repeat (first | exact trivial | refine Le.cons rfl ?_))⟩
     · omega
     · first
       | (rw [hr2, List.length_append, hc]; rfl)
       | (rw [hsn, rdL_snoc, if_neg hk1]; exact hc)
     · rcases Nat.lt_or_ge i pre.length with hip | hip
       · omega
       · exfalso
         have hie : i = pre.length := by omega
         first
         | (have := (hlast hie).1; omega)
         | (have h3 : (evsP z)[pre.length]? = some e1 := by rw [hq.evs, List.getElem?_append_right (Nat.le_refl _), Nat.sub_self]; rfl
            rw [hie, h3] at he
            exact hk1 (by rw [← Option.some.inj he]; exact hq.kind))
     · first
       | (rw [hm2]; exact H.sel [1, 2] rfl rfl)
       | (have hw : memL m0 ((evsP z).take (i + 1)) = put (memL m0 ((evsP z).take i)) e.loc.toNat e.val := by rw [hsn, memL_snoc]; unfold wrEv; rw [if_pos hk2]
          rw [hw]; exact H.sel [1, 2] rfl rfl)
       | (have hw : memL m0 ((evsP z).take (i + 1)) = memL m0 ((evsP z).take i) := by rw [hsn, memL_snoc]; unfold wrEv; rw [if_neg hk2]
          rw [hw]; exact H.sel [1, 2] rfl rfl))
   replace h63 := beqF h63
   have hk1 : ¬ e.kind = 1 := h63
   refine cSeq (fun K22 hK22 => ?_)
   refine cReg ?_
   refine sBin F rfl rfl rfl rfl (bEqlB (y := 2)) ?_;clear F a;intro a F
   refine sAs F rfl rfl rfl ?_;clear F a;intro a F
   refine sNil ?_
   refine hK22 _ _ ?_; clear hK22
   refine cIf F rfl (fun h75 => ?_) (fun h75 => ?_)
   ·
    replace h75 := beqT h75
    have hk2 : e.kind = 2 := h75
    refine cReg ?_
    refine sFa (f := 2) (k := 2) Tryd.underlying49 rfl Tryd.sizeOf5 rfl rfl F rfl rfl rfl ?_;clear F a;intro a F
    refine sLd Tryd.isAgg5 F rfl rfl rfl (H.cell 0 rfl rfl) ?_;clear F a;intro a F
    refine sFa (f := 3) (k := 3) Tryd.underlying49 rfl Tryd.sizeOf5 rfl rfl F rfl rfl rfl ?_;clear F a;intro a F
    refine sLd Tryd.isAgg5 F rfl rfl rfl (H.cell 0 rfl rfl) ?_;clear F a;intro a F
    refine sIaZ1 Tryd.underlying36 Tryd.sizeOf5 F rfl rfl rfl rfl ?_ ?_
    focus exact hloc
    clear F a; intro a F
    refine sStB H 2 Tryd.sizeOf5 F rfl rfl rfl rfl (by omega) ?_
    clear H; intro w H
    refine sNil ?_
    refine hK15 _ _ ?_; clear hK15
    refine cReg ?_
    refine sBin F rfl rfl rfl rfl (bAddN (j := 1) ?_) ?_
    focus omega
    clear F a; intro a F
    refine sMv F rfl rfl rfl ?_;clear F a;intro a F
    refine sNil ?_
    (refine ⟨_, ?_, _, ⟨i + 1, _, rfl, rfl, ?_, ?_, ?_⟩, F.to (by repeat (first | exact trivial | refine Le.cons rfl ?_))⟩
     · omega
     · first
       | (rw [hr2, List.length_append, hc]; rfl)
       | (rw [hsn, rdL_snoc, if_neg hk1]; exact hc)
     · rcases Nat.lt_or_ge i pre.length with hip | hip
       · omega
       · exfalso
         have hie : i = pre.length := by omega
         first
         | (have := (hlast hie).1; omega)
         | (have h3 : (evsP z)[pre.length]? = some e1 := by rw [hq.evs, List.getElem?_append_right (Nat.le_refl _), Nat.sub_self]; rfl
            rw [hie, h3] at he
            exact hk1 (by rw [← Option.some.inj he]; exact hq.kind))
     · first
       | (rw [hm2]; exact H.sel [1, 2] rfl rfl)
       | (have hw : memL m0 ((evsP z).take (i + 1)) = put (memL m0 ((evsP z).take i)) e.loc.toNat e.val := by rw [hsn, memL_snoc]; unfold wrEv; rw [if_pos hk2]
          rw [hw]; exact H.sel [1, 2] rfl rfl)
       | (have hw : memL m0 ((evsP z).take (i + 1)) = memL m0 ((evsP z).take i) := by rw [hsn, memL_snoc]; unfold wrEv; rw [if_neg hk2]
          rw [hw]; exact H.sel [1, 2] rfl rfl))
   replace h75 := beqF h75
   have hk2 : ¬ e.kind = 2 := h75
   refine wp_skip ?_
   refine hK15 _ _ ?_; clear hK15
   refine cReg ?_
   refine sBin F rfl rfl rfl rfl (bAddN (j := 1) ?_) ?_
   focus omega
   clear F a; intro a F
   refine sMv F rfl rfl rfl ?_;clear F a;intro a F
   refine sNil ?_
   (refine ⟨_, ?_, _, ⟨i + 1, _, rfl, rfl, ?_, ?_, ?_⟩, F.to (by repeat (first | exact trivial | refine Le.cons rfl ?_))⟩
    · omega
    · first
      | (rw [hr2, List.length_append, hc]; rfl)
      | (rw [hsn, rdL_snoc, if_neg hk1]; exact hc)
    · rcases Nat.lt_or_ge i pre.length with hip | hip
      · omega
      · exfalso
        have hie : i = pre.length := by omega
        first
        | (have := (hlast hie).1; omega)
        | (have h3 : (evsP z)[pre.length]? = some e1 := by rw [hq.evs, List.getElem?_append_right (Nat.le_refl _), Nat.sub_self]; rfl
           rw [hie, h3] at he
           exact hk1 (by rw [← Option.some.inj he]; exact hq.kind))
    · first
      | (rw [hm2]; exact H.sel [1, 2] rfl rfl)
      | (have hw : memL m0 ((evsP z).take (i + 1)) = put (memL m0 ((evsP z).take i)) e.loc.toNat e.val := by rw [hsn, memL_snoc]; unfold wrEv; rw [if_pos hk2]
         rw [hw]; exact H.sel [1, 2] rfl rfl)
      | (have hw : memL m0 ((evsP z).take (i + 1)) = memL m0 ((evsP z).take i) := by rw [hsn, memL_snoc]; unfold wrEv; rw [if_neg hk2]
         rw [hw]; exact H.sel [1, 2] rfl rfl))
  replace h58 := of_decide_eq_false h58
  (exfalso; have h58' : ¬ i < (evsP z).length := fun hh => h58 (by exact_mod_cast hh); omega)
end Go.Proofs.YtklpiodciblabaaDoor
