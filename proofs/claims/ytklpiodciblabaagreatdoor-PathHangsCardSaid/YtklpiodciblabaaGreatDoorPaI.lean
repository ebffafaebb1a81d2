/-
  WALK2. Package path: Follow. Conditions: the thread and the reads lie in memory, and the two tables.
-/
import Derived.Test.YtklpiodciblabaaGreatDoorPa1
import Derived.Test.YtklpiodciblabaaGreatDoorAtK
set_option linter.unusedSimpArgs false
set_option linter.unusedVariables false
namespace Go.Proofs.YtklpiodciblabaaGreatDoor
open Go.Proofs.Tryz
open Go.RowKit
set_option maxRecDepth 100000
section
variable {P : Program} {N : Nat} {a : Act} {env : List (Nat × Value)} {w w0 : World} {row : Option Nat} {rs : List Res}
theorem cell_runC {st : TypeId} {b i n : Nat} {cs : List Value} {bt : TypeId} {dd : TypeDesc} (H : Own w0 row w rs) (hu : P.underlying st = some dd) (hdd : dd.isRow = true) (hz : ∀ w, (sizeOf st).run P w = .ok n w) (hn : Nat.beq cs.length n = true) (hi : rs[i]? = some (.blk b cs bt)) : (loadVar st ⟨b, 0, none⟩).run P w = .ok (.agg cs.toArray) w :=
  run_loadVar_mid (P := P) w b 0 st cs dd (blk_whole (H.blk i hi)) hu hdd (by rw [Nat.eq_of_beq_eq_true hn]; exact info_size hz)
theorem bRetC2 {fn : Func} {R : Ending → World → Prop} {t u u2 : Tmp} {st : TypeId} {b n : Nat} {cs : List Value} {bt : TypeId} {dd : TypeDesc} {y y2 : Value} (hres : fn.results = #[.cell t st, .tmp u, .tmp u2]) (F : Has N a env) (hv : lk env t = some (.pointer (some ⟨b, 0, none⟩))) (hy : lk env u = some y) (hy2 : lk env u2 = some y2)
    (hu : P.underlying st = some dd) (hdd : dd.isRow = true) (H : Own w0 row w rs) (i : Nat) (hi : rs[i]? = some (.blk b cs bt)) (hz : ∀ w, (sizeOf st).run P w = .ok n w) (hn : Nat.beq cs.length n = true) (h : R (.returned (.tuple #[.agg cs.toArray, y, y2])) w) : bodyPost P fn R .ret a w := by
  refine bodyPost_ret (v := .tuple #[.agg cs.toArray, y, y2]) ?_ F.nod h
  have h1 := cell_runC (P := P) H hu hdd hz hn hi
  unfold results
  rw [hres, Array.mapM_eq_mapM_toList]
  simp [h1, getD_as (F.get t _ hv), cell_addr, getD_as (F.get u _ hy), getD_as (F.get u2 _ hy2), Sem.run_bind]
end
structure PathP where
  evs : List Ev
  data : List Pr
  ctrl : List Pr
  rmw : List Pr
  regs : By
def zPathP : PathP := ⟨[], [], [], [], zb⟩
def runPath (r : RunP) : PathP := ⟨evsP r, pairsP r.data r.many, pairsP r.ctrl r.many, pairsP r.att r.many, r.regs⟩
def PathP.cells (p : PathP) (A1 : Option Addr) (c1 : Nat) (A2 : Option Addr) (c2 : Nat) (A3 : Option Addr) (c3 : Nat) (A4 : Option Addr) (c4 : Nat) : List Value :=
  [.slice A1 p.evs.length c1, .slice A2 p.data.length c2, .slice A3 p.ctrl.length c3, .slice A4 p.rmw.length c4, b8 (p.regs 0), b8 (p.regs 1), b8 (p.regs 2), b8 (p.regs 3), b8 (p.regs 4), b8 (p.regs 5), b8 (p.regs 6), b8 (p.regs 7)]
def PathP.res (p : PathP) (A1 : Option Addr) (c1 : Nat) (A2 : Option Addr) (c2 : Nat) (A3 : Option Addr) (c3 : Nat) (A4 : Option Addr) (c4 : Nat) : List Res :=
  [.rws 34 7 (.slice A1 p.evs.length c1) (p.evs.map Ev.cells), .rws 38 2 (.slice A2 p.data.length c2) (p.data.map prC), .rws 38 2 (.slice A3 p.ctrl.length c3) (p.ctrl.map prC), .rws 38 2 (.slice A4 p.rmw.length c4) (p.rmw.map prC)]
structure FR where
  path : PathP
  more : Bool
  err : Nat
def folFR : Fol → FR
  | .wants => ⟨zPathP, true, 0⟩
  | .many => ⟨zPathP, false, 5⟩
  | .done r => ⟨runPath r, false, 0⟩
def followR (l : List Ins) (reads : List UInt8) : FR := if threadOk 6 l = true then folFR (followP l reads) else ⟨zPathP, false, 2⟩
def zCells : List Value := [.slice none 0 0, .slice none 0 0, .slice none 0 0, .slice none 0 0, b8 0, b8 0, b8 0, b8 0, b8 0, b8 0, b8 0, b8 0]
def FolPost (q : FR) (w0 : World) (e : Ending) (w' : World) : Prop :=
  ∃ A1 c1 A2 c2 A3 c3 A4 c4, e = .returned (.tuple #[.agg (q.path.cells A1 c1 A2 c2 A3 c3 A4 c4).toArray, .bool q.more, .int .i64 (q.err : Int)]) ∧ Own w0 none w' (q.path.res A1 c1 A2 c2 A3 c3 A4 c4)
theorem zero_post {w0 w : World} {rs : List Res} (H : Own w0 none w rs) (more : Bool) (err : Nat) : FolPost ⟨zPathP, more, err⟩ w0 (.returned (.tuple #[.agg zCells.toArray, .bool more, .int .i64 (err : Int)])) w :=
  ⟨none, 0, none, 0, none, 0, none, 0, rfl, ((((H.nilRws 38 2).nilRws 38 2).nilRws 38 2).nilRws 34 7).sel [0, 1, 2, 3] rfl rfl⟩
theorem run_post {w0 w : World} {r : RunP} {A1 : Option Addr} {c1 : Nat} {A2 : Option Addr} {c2 : Nat} {A3 : Option Addr} {c3 : Nat} {A4 : Option Addr} {c4 : Nat} (H : Own w0 none w (pathRes A1 c1 A2 c2 A3 c3 A4 c4 r)) :
    FolPost ⟨runPath r, false, 0⟩ w0 (.returned (.tuple #[.agg (pathCells A1 c1 A2 c2 A3 c3 A4 c4 r).toArray, .bool false, .int .i64 0])) w := by
  have h := evs_len r
  refine ⟨A1, c1, A2, c2, A3, c3, A4, c4, ?_, ?_⟩
  · have e : (runPath r).cells A1 c1 A2 c2 A3 c3 A4 c4 = pathCells A1 c1 A2 c2 A3 c3 A4 c4 r := by
      unfold PathP.cells pathCells runPath
      simp only [h]
    simp only [e]
    rfl
  · have e : (runPath r).res A1 c1 A2 c2 A3 c3 A4 c4 = pathRes A1 c1 A2 c2 A3 c3 A4 c4 r := by
      unfold PathP.res pathRes runPath
      simp only [h]
    rw [show (FR.mk (runPath r) false 0).path = runPath r from rfl, e]
    exact H
theorem own_rowsNot {w0 w : World} {rs : List Res} (H : Own w0 none w rs) (i : Nat) {b : Nat} {cs : List Value} {t : TypeId} (hi : rs[i]? = some (.blk b cs t)) {A : Option Addr} {sz : Nat} {rows : List (List Value)} (h : RowsAt w0 A sz rows) (hr : ∀ r ∈ rows, 0 < r.length) : RowsNot w b A sz rows := fun j cs' hj => by
  obtain ⟨c, off, e, hR⟩ := h j cs' hj
  refine ⟨c, off, e, fun hcb => ?_, H.argR hR⟩
  have h0 := hr _ (List.mem_of_getElem? hj)
  obtain ⟨v, hv⟩ : ∃ v, cs'[0]? = some v := ⟨_, List.getElem?_eq_getElem h0⟩
  have h1 : c < w0.heap.size := World.block_lt_of_cell? w0 _ (hR 0 v hv)
  rcases (H.foot i _ hi b rfl).1 with h2 | h2
  · omega
  · cases h2
theorem ins_len {l : List Ins} : ∀ r ∈ l.map Ins.cells, 0 < r.length := fun r hr => by
  obtain ⟨x, _, rfl⟩ := List.mem_map.1 hr
  exact Nat.zero_lt_succ _
theorem go_wants {l : List Ins} {r : RunP} (h : wantsP l (proceedP l r) = true) : goP l [] r = .wants := by unfold goP; rw [if_pos h]
theorem go_done {l : List Ins} {r : RunP} (h : wantsP l (proceedP l r) = false) : goP l [] r = .done (proceedP l r) := by unfold goP; rw [if_neg (fun e => Bool.noConfusion (h.symm.trans e))]
theorem go_many {l : List Ins} {r : RunP} {v : UInt8} {vs : List UInt8} (h : wantsP l (proceedP l r) = false) : goP l (v :: vs) r = .many := by unfold goP; rw [if_neg (fun e => Bool.noConfusion (h.symm.trans e))]
theorem go_on {l : List Ins} {r : RunP} {v : UInt8} {vs : List UInt8} (h : wantsP l (proceedP l r) = true) : goP l (v :: vs) r = goP l vs (execE (insAt l (proceedP l r)) v (proceedP l r)) := by rw [goP, if_pos h]
theorem followR_ok {l : List Ins} {reads : List UInt8} {q : Fol} (hl : threadOk 6 l = true) (h : followP l reads = q) : followR l reads = folFR q := by unfold followR; rw [if_pos hl, h]
theorem followR_bad {l : List Ins} {reads : List UInt8} (hl : threadOk 6 l = false) : followR l reads = ⟨zPathP, false, 2⟩ := by unfold followR; rw [if_neg (fun e => Bool.noConfusion (hl.symm.trans e))]
theorem drop_at {reads : List UInt8} {k : Nat} {v : UInt8} (h : reads[k]? = some v) : reads.drop k = v :: reads.drop (k + 1) := by
  obtain ⟨h1, rfl⟩ := List.getElem?_eq_some_iff.1 h
  exact List.drop_eq_getElem_cons h1
set_option maxHeartbeats 2000000 in
theorem Follow_any (A : Option Addr) (C : Nat) (l : List Ins) (RA : Option Addr) (RC : Nat) (reads : List UInt8) (w0 : World) (hA : RowsAt w0 A 10 (l.map Ins.cells)) (hn : l.length ≤ 9223372036854775807) (hR : BytesAt w0 RA reads) (hrn : reads.length ≤ 9223372036854775806) (hN : NeedsAt w0) (hT : TabAt w0) :
    Calls Tryz.prog 11 #[.slice A l.length C, .slice RA reads.length RC] w0 (FolPost (followR l reads) w0) := by
  have H := Own.start w0 none
  refine enterF func11 rfl ntmps11 rfl (fun a F => ?_);refine cSR fun K1 hK1=>?_;refine sAl H zeroValue28 F rfl rfl ?_;clear F a H; intro b4 a w F H;refine sAs F rfl rfl rfl (qAs rfl rfl rfl (qNK hK1 ?_));clear hK1;clear F a;intro a F;refine cSeq (fun K2 hK2 => ?_);refine cSR fun K3 hK3=>sMv F rfl rfl rfl ?_;clear F a;intro a F;refine sCall call27 F rfl rfl rfl (validP_any A C l _ (hA.own H) (hN.own H) hn) ?_;rintro e w ⟨rfl, hb⟩;replace H := H.grow hb; clear hb;refine ⟨_, rfl, ?_⟩;clear F a; intro a F;refine sNot F rfl rfl rfl (qNK hK3 ?_);clear hK3;clear F a;intro a F
  refine cIf F rfl (fun h11 => ?_) (fun h11 => ?_)
  ·
   replace h11 := notT h11;refine cSR fun K4 hK4=>sBd (cs := zCells) (places := [(0, 1), (1, 1), (2, 1), (3, 1), (4, 8)]) zeroValue28 underlying28 (by kernel_rfl) F rfl rfl rfl rfl ?_;clear F a;intro a F
   refine sSr H 0 ?si F rfl rfl rfl ?s1 rfl rfl ?_
   case si => exact info_size sizeOf28
   case s1 => first | rfl | (repeat (first | exact one_nil | (apply one_cons; · first | rfl | assumption | exact one_bif rfl rfl)))
   clear H; intro w H;refine sAs F rfl rfl rfl (qAs rfl rfl rfl (qNK hK4 ?_));clear hK4;clear F a;intro a F;refine wp_ret ?_;simp only [Exit.then];refine bRetC2 results11 F rfl rfl rfl underlying28 rfl H 0 rfl sizeOf28 rfl ?_
   first
   | (have hl : threadOk 6 l = false := h11
      rw [followR_bad hl]
      exact zero_post H false 2)
   | (have hke : k = reads.length := hke
      rw [hke, List.drop_length, go_wants hw] at hg;rw [followR_ok hl hg.symm]
      exact zero_post H true 0)
   | (have hkl : k < reads.length := by omega
      obtain ⟨v, hv⟩ : ∃ v, reads[k]? = some v := ⟨_, List.getElem?_eq_getElem hkl⟩
      rw [drop_at hv, go_many hw] at hg;rw [followR_ok hl hg.symm]
      exact zero_post H false 5)
   | (have hke : k = reads.length := by omega
      rw [hke, List.drop_length, go_done hw] at hg;rw [followR_ok hl hg.symm]
      exact run_post (H.sel [0, 0, 0, 0] rfl rfl))
  replace h11 := notF h11
  have hl : threadOk 6 l = true := by first | exact h11 | (cases hq : threadOk 6 l with | true => rfl | false => rw [hq] at h11; exact Bool.noConfusion h11)
  refine wp_skip (hK2 _ _ (cSR fun K5 hK5=>?_));clear hK2;refine sAl H zeroValue81 F rfl rfl ?_;clear F a H; intro b7 a w F H;refine nK hK5 (cSR fun K6 hK6=>sAs F rfl rfl rfl (qNK hK6 ?_));clear hK5 hK6;clear F a;intro a F;refine cSeq (fun K7 hK7 => ?_);refine wp_block ?_
  refine cLoopR [0, 1, 4, 7] (fun m ups w => ∃ (k : Nat) (r : RunP), m = reads.length - k ∧ ups = [(8, .int .i64 ((k : Nat) : Int))] ∧ k ≤ reads.length ∧ InvR l r ∧ goP l (reads.drop k) r = followP l reads ∧ Own w0 none w [.blk b7 r.cells 81, .blk b4 zCells 28]) F (reads.length) [(8, .int .i64 ((0 : Nat) : Int))] (by repeat (first | exact SubR.nil | (apply SubR.cons; · rfl))) ?_ ?_ ?_
  · exact ⟨0, zRun, rfl, rfl, Nat.zero_le _, inv_zero l, rfl, H⟩
  · repeat (first | exact trivial | refine Le.cons rfl ?_)
  clear F
  clear H
  intro m ups a w hI F
  obtain ⟨k, r, rfl, rfl, hk, hI', hg, H⟩ := hI
  refine cSeq (fun K8 hK8 => ?_);refine cSR fun K9 hK9=>sMv F rfl rfl rfl ?_;clear F a;intro a F;refine sCall call28 F rfl rfl rfl (proceed_any b7 A C l r _ (H.blk 0 rfl) (own_rowsNot H 0 rfl hA ins_len) hl hI') ?_;rintro e w ⟨rfl, H2⟩
  replace H := H.turned 0 rfl H2
  clear H2
  have hI2 := proceed_inv hl hI'
  have hl12 := thr_len hl
  refine ⟨_, rfl, ?_⟩;clear F a; intro a F;refine nK hK9 ?_;clear hK9
  refine cIf F rfl (fun h14 => ?_) (fun h14 => ?_)
  ·
   have hw : wantsP l (proceedP l r) = true := h14
   refine wp_skip (hK8 _ _ ?_);clear hK8;refine wp_block ?_;refine cSeq (fun K10 hK10 => ?_);refine cSR fun K11 hK11=>sMv F rfl rfl rfl (qMv rfl rfl rfl (qLen underlying23 rfl rfl rfl (qBin rfl rfl rfl rfl bEql (qNK hK11 ?_))));clear hK11;clear F a;intro a F
   refine cIf F rfl (fun h18 => ?_) (fun h18 => ?_)
   ·
    replace h18 := beqT h18
    have hke : k = reads.length := by omega
    refine cSR fun K12 hK12=>sBd (cs := zCells) (places := [(0, 1), (1, 1), (2, 1), (3, 1), (4, 8)]) zeroValue28 underlying28 (by kernel_rfl) F rfl rfl rfl rfl ?_;clear F a;intro a F
    refine sSr H 1 ?si F rfl rfl rfl ?s1 rfl rfl ?_
    case si => exact info_size sizeOf28
    case s1 => first | rfl | (repeat (first | exact one_nil | (apply one_cons; · first | rfl | assumption | exact one_bif rfl rfl)))
    clear H; intro w H;refine sAs F rfl rfl rfl (qAs rfl rfl rfl (qNK hK12 ?_));clear hK12;clear F a;intro a F;refine wp_ret ?_;simp only [Exit.inBlock, Exit.then];refine bRetC2 results11 F rfl rfl rfl underlying28 rfl H 1 rfl sizeOf28 rfl ?_
    first
    | (have hl : threadOk 6 l = false := h11
       rw [followR_bad hl]
       exact zero_post H false 2)
    | (have hke : k = reads.length := hke
       rw [hke, List.drop_length, go_wants hw] at hg;rw [followR_ok hl hg.symm]
       exact zero_post H true 0)
    | (have hkl : k < reads.length := by omega
       obtain ⟨v, hv⟩ : ∃ v, reads[k]? = some v := ⟨_, List.getElem?_eq_getElem hkl⟩
       rw [drop_at hv, go_many hw] at hg;rw [followR_ok hl hg.symm]
       exact zero_post H false 5)
    | (have hke : k = reads.length := by omega
       rw [hke, List.drop_length, go_done hw] at hg;rw [followR_ok hl hg.symm]
       exact run_post (H.sel [0, 0, 0, 0] rfl rfl))
   replace h18 := beqF h18
   have hkl : k < reads.length := by omega
   obtain ⟨hx, hrd⟩ := wants_ins hw
   have hpl := (List.getElem?_eq_some_iff.1 hx).1
   obtain ⟨c, off, rfl, hR1⟩ := hA _ (insAt l (proceedP l r)).cells (by rw [List.getElem?_map, hx]; rfl)
   obtain ⟨v, hv⟩ : ∃ v, reads[k]? = some v := ⟨_, List.getElem?_eq_getElem hkl⟩
   obtain ⟨c2, off2, rfl, hR2⟩ := hR.get hv
   refine wp_skip (hK10 _ _ ?_);clear hK10;refine cSeq (fun K13 hK13 => ?_);refine cRegRO (by kernel_rfl) H ?_;replace H := H.drew;refine eTF 0 rfl (by kernel_rfl) F rfl rfl rfl (fun w=>rMv F rfl) H qq0 (qTF 1 rfl (by kernel_rfl) rfl rfl rfl (fun a F w=>rFa (f := 0) (k := 0) underlying81 rfl sizeOf3 rfl rfl F rfl) H qq0 (qT 2 rfl (by kernel_rfl) rfl rfl rfl rfl (fun a F w H=>rLd isAgg3 F rfl (show _ = some (Value.int .i64 ((proceedP l r).pc : Int)) from H.cell 0 rfl (cell_pc _))) H qq0 ?_));clear F a;intro a F
   refine eTakeF (k := 3) (i := 3) rfl (by kernel_rfl) F rfl rfl rfl (fun w => rIx underlying22 sizeOf59 F rfl rfl ?_) H (fun _ _ _ h => h) ?_
   focus (first | omega | decide | (simp; omega))
   clear F a; intro a F
   refine eTake (k := 4) (i := 4) rfl (by kernel_rfl) F rfl rfl rfl rfl (fun w H => rLr underlying59 rfl ?si F rfl (H.argR hR1)) H (fun _ _ _ h => h) ?_
   case si => exact info_size sizeOf59
   clear F a; intro a F;refine eTF 5 rfl (by kernel_rfl) F rfl rfl rfl (fun w=>rMv F rfl) H qq0 (qTF 6 rfl (by kernel_rfl) rfl rfl rfl (fun a F w=>rMv F rfl) H qq0 ?_);clear F a;intro a F
   refine eTakeF (k := 7) (i := 7) rfl (by kernel_rfl) F rfl rfl rfl (fun w => rIx underlying23 sizeOf5 F rfl rfl ?_) H (fun _ _ _ h => h) ?_
   focus (first | omega | decide | (simp; omega))
   clear F a; intro a F;refine eT 8 rfl (by kernel_rfl) F rfl rfl rfl rfl (fun w H=>rLd isAgg5 F rfl (H.arg hR2)) H qq0 ?_;clear F a;intro a F;refine eOne (k := 9) (i := 9) rfl (by kernel_rfl) F rfl (oCall call29 F rfl rfl (execute_any b7 (proceedP l r) (insAt l (proceedP l r)) v _ (H.blk 0 rfl) (thr_at hl hx).inr (hI2.ok hl hpl) (thr_at hl hx).op) ?_);rintro e w ⟨rfl, H2⟩
   replace H := H.turned 0 rfl H2; clear H2
   refine ⟨_, rfl, ?_⟩;clear F a; intro a F;refine ePartO (by kernel_rfl) H ?_;refine eNil (k := 10) (by kernel_rfl) ?_;refine hK13 _ _ (cReg (sMv F rfl rfl rfl ?_));clear hK13;clear F a;intro a F
   refine sBin F rfl rfl rfl rfl (bAddN (j := 1) ?_) ?_
   focus omega
   clear F a; intro a F;refine sAs F rfl rfl rfl ?_;clear F a;intro a F;refine sNil ?_
   (refine ⟨_, ?_, _, ⟨k + 1, execE (insAt l (proceedP l r)) v (proceedP l r), rfl, rfl, hkl, exec_inv v hI2 hl hx, ?_, H.sel [0, 1] rfl rfl⟩, F.to (by repeat (first | exact trivial | refine Le.cons rfl ?_))⟩
    · omega
    · rw [drop_at hv, go_on hw] at hg; exact hg)
  have hw : wantsP l (proceedP l r) = false := h14
  refine wp_exit ?_;refine hK7 _ _ ?_;clear hK7;refine cSeq (fun K14 hK14 => ?_);refine cSR fun K15 hK15=>sMv F rfl rfl rfl (qMv rfl rfl rfl (qLen underlying23 rfl rfl rfl (qBin rfl rfl rfl rfl bLss (qNK hK15 ?_))));clear hK15;clear F a;intro a F
  refine cIf F rfl (fun h35 => ?_) (fun h35 => ?_)
  ·
   replace h35 := of_decide_eq_true h35;refine cSR fun K16 hK16=>sBd (cs := zCells) (places := [(0, 1), (1, 1), (2, 1), (3, 1), (4, 8)]) zeroValue28 underlying28 (by kernel_rfl) F rfl rfl rfl rfl ?_;clear F a;intro a F
   refine sSr H 1 ?si F rfl rfl rfl ?s1 rfl rfl ?_
   case si => exact info_size sizeOf28
   case s1 => first | rfl | (repeat (first | exact one_nil | (apply one_cons; · first | rfl | assumption | exact one_bif rfl rfl)))
   clear H; intro w H;refine sAs F rfl rfl rfl (qAs rfl rfl rfl (qNK hK16 ?_));clear hK16;clear F a;intro a F;refine wp_ret ?_;simp only [Exit.then];refine bRetC2 results11 F rfl rfl rfl underlying28 rfl H 1 rfl sizeOf28 rfl ?_
   first
   | (have hl : threadOk 6 l = false := h11
      rw [followR_bad hl]
      exact zero_post H false 2)
   | (have hke : k = reads.length := hke
      rw [hke, List.drop_length, go_wants hw] at hg;rw [followR_ok hl hg.symm]
      exact zero_post H true 0)
   | (have hkl : k < reads.length := by omega
      obtain ⟨v, hv⟩ : ∃ v, reads[k]? = some v := ⟨_, List.getElem?_eq_getElem hkl⟩
      rw [drop_at hv, go_many hw] at hg;rw [followR_ok hl hg.symm]
      exact zero_post H false 5)
   | (have hke : k = reads.length := by omega
      rw [hke, List.drop_length, go_done hw] at hg;rw [followR_ok hl hg.symm]
      exact run_post (H.sel [0, 0, 0, 0] rfl rfl))
  replace h35 := of_decide_eq_false h35;refine wp_skip (hK14 _ _ (cSR fun K17 hK17=>?_));clear hK14;refine sCall call30 F rfl rfl rfl (path_any b7 (proceedP l r) _ (H.blk 0 rfl) (hT.own H) (by have := hI2.many; have := hI2.pc; omega) hI2.sets) ?_;rintro e w ⟨A1, c1, A2, c2, A3, c3, A4, c4, rfl, H2⟩;replace H := H.join H2; clear H2;refine ⟨_, rfl, ?_⟩;clear F a; intro a F
  refine sSr H 5 ?si F rfl rfl rfl ?s1 rfl rfl ?_
  case si => exact info_size sizeOf28
  case s1 => first | rfl | (repeat (first | exact one_nil | (apply one_cons; · first | rfl | assumption | exact one_bif rfl rfl)))
  clear H; intro w H;refine sAs F rfl rfl rfl (qAs rfl rfl rfl (qNK hK17 ?_));clear hK17;clear F a;intro a F;refine wp_ret ?_;refine bRetC2 results11 F rfl rfl rfl underlying28 rfl H 5 rfl sizeOf28 rfl ?_
  first
  | (have hl : threadOk 6 l = false := h11
     rw [followR_bad hl]
     exact zero_post H false 2)
  | (have hke : k = reads.length := hke
     rw [hke, List.drop_length, go_wants hw] at hg;rw [followR_ok hl hg.symm]
     exact zero_post H true 0)
  | (have hkl : k < reads.length := by omega
     obtain ⟨v, hv⟩ : ∃ v, reads[k]? = some v := ⟨_, List.getElem?_eq_getElem hkl⟩
     rw [drop_at hv, go_many hw] at hg;rw [followR_ok hl hg.symm]
     exact zero_post H false 5)
  | (have hke : k = reads.length := by omega
     rw [hke, List.drop_length, go_done hw] at hg;rw [followR_ok hl hg.symm]
     exact run_post (H.sel [0, 1, 2, 3] rfl rfl))
end Go.Proofs.YtklpiodciblabaaGreatDoor
