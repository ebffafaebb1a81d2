/-
  WALK2. Package path: a run's path. Conditions: the run lies in memory; the table lies in memory.
-/
import Derived.Test.YtklpiodciblabaaDoorPaG
import Derived.Test.YtklpiodciblabaaDoorVcZ
import Derived.Test.YtklpiodciblabaaDoorVcX
set_option linter.unusedSimpArgs false
set_option linter.unusedVariables false
namespace Go.Proofs.YtklpiodciblabaaDoor
open Go.RowKit
set_option maxRecDepth 100000
section
variable {P : Program} {l : List Oper} {Q : Exit → Act → World → Prop} {N : Nat} {a : Act} {env : List (Nat × Value)} {rest : List Oper} {d : Tmp} {ty : TypeId} {pos : String} {af : Array Edge} {g : Option (Nat × Bool)} {w : World}
/-- x[:j] of an array. -/
theorem rSlAH {t e : TypeId} {x hi : Operand} {b o n j sz : Nat} {k : IntKind} (ht : P.underlying t = some (.array n e)) (hz : ∀ w, (sizeOf e).run P w = .ok sz w) (F : Has N a env) (hx : ev env x = some (.pointer (some ⟨b, o, none⟩))) (hh : ev env hi = some (.int k (j : Int))) (hj : j ≤ n) :
    (execOp a.eval ⟨some d, .slice t x none (some hi) none, ty, pos, af, g⟩).run P w = .ok (.value (.slice (some ⟨b, o, none⟩) j n)) w := by
  have he : P.elem t = e := by simp [Program.elem, ht]
  have hn : P.arrayLen t = n := by simp [Program.arrayLen, ht]
  have h1 := run_sliceAt_array_h (P := P) w t ⟨b, o, none⟩ (by rw [he, hn]; exact ht) k (j : Int) (by omega) (by rw [hn]; omega)
  rw [he, hz, hn] at h1
  simp only [execOp, Option.map_none, Option.map_some, F.eval hx, F.eval hh, Sem.run_bind, h1, Result.andThen_ok, slicedAt, Int.toNat_natCast, Sem.run_pure]
  split <;> simp [Addr.add]
theorem sSlAH {t e : TypeId} {x hi : Operand} {b o n j sz : Nat} {k : IntKind} (ht : P.underlying t = some (.array n e)) (hz : ∀ w, (sizeOf e).run P w = .ok sz w) (F : Has N a env) (hg : wants l env g = true) (hN : Nat.blt d N = true) (hx : ev env x = some (.pointer (some ⟨b, o, none⟩))) (hh : ev env hi = some (.int k (j : Int))) (hj : j ≤ n)
    (K : ∀ a, Has N a ((d, .slice (some ⟨b, o, none⟩) j n) :: env) → wpList P l.toArray Q rest a w) : wpList P l.toArray Q (⟨some d, .slice t x none (some hi) none, ty, pos, af, g⟩ :: rest) a w :=
  stepV F hg rfl hN (rSlAH ht hz F hx hh hj) K
end
theorem cloneE_any (b o C : Nat) (rows : List (List Value)) (w0 : World) (hR : RowsAt w0 (some ⟨b, o, none⟩) 7 rows) (hr : ∀ r ∈ rows, r.length = 7) (h1 : ∀ r ∈ rows, r.all (·.oneCell') = true) (hn : rows.length ≤ 1000000) :
    Calls Tryd.prog 43 #[.slice (some ⟨b, o, none⟩) rows.length C] w0 fun e w' => ∃ A2 c2, e = .returned (.slice A2 rows.length c2) ∧ Own w0 none w' [.rws 49 7 (.slice A2 rows.length c2) rows] := by
  have H := Own.start w0 none
  refine enterF Tryd.func43 rfl Tryd.ntmps43 rfl (fun a F => ?_)
  refine cSeq (fun K1 hK1 => ?_)
  refine cReg ?_
  refine sAs F rfl rfl rfl ?_;clear F a;intro a F
  refine sNil ?_
  refine hK1 _ _ ?_; clear hK1
  refine cSeq (fun K2 hK2 => ?_)
  refine cSeq (fun K3 hK3 => ?_)
  refine cReg ?_
  refine sMv F rfl rfl rfl ?_;clear F a;intro a F
  refine sBin F rfl rfl rfl rfl (bNil Tryd.underlying42) ?_;clear F a;intro a F
  refine sNil ?_
  refine hK3 _ _ ?_; clear hK3
  refine cIf F rfl (fun h4 => ?_) (fun h4 => ?_)
  ·
   cases h4
  refine wp_skip ?_
  refine hK2 _ _ ?_; clear hK2
  refine cSeq (fun K4 hK4 => ?_)
  refine cReg ?_
  refine sBs (cs := []) H Tryd.underlying42 Tryd.sizeOf49 Tryd.zeroValue49 rfl F rfl rfl rfl rfl rfl ?_
  clear F a H; intro b5 a w F H
  replace H := H.emptyRws 7
  refine sMv F rfl rfl rfl ?_;clear F a;intro a F
  refine sAppM (bytes := 16) H 0 Tryd.underlying42 Tryd.typeInfo49 rfl rfl rfl rfl rfl rfl F rfl rfl rfl rfl rfl (by first | rfl | simp) (((hR.own H).flat hr)) (hr) (h1) ((by simp only [List.length_nil]; omega)) ?_
  clear F a H; intro A7 c7 a w F H
  refine sAs F rfl rfl rfl ?_;clear F a;intro a F
  refine sNil ?_
  refine hK4 _ _ ?_; clear hK4
  refine wp_ret ?_
  refine bRet Tryd.results43 F rfl ?_
  simp only [List.nil_append] at H
  exact ⟨_, _, rfl, H.pick 0 rfl⟩
/-- The events of a run. -/
def evsP (r : RunP) : List Ev := (List.range r.many).map r.ev
theorem evs_len (r : RunP) : (evsP r).length = r.many := by unfold evsP; rw [List.length_map, List.length_range]
theorem cell_ev (r : RunP) {k j : Nat} (hk : k < 24) (hj : j < 7) : r.cells[19 + k * 7 + j]? = some ((r.ev k).cell j) := by
  rw [r.get (by omega), cell_hi _ (by omega), if_pos (by omega), show (19 + k * 7 + j - 19) / 7 = k by omega, show (19 + k * 7 + j - 19) % 7 = j by omega]
theorem evs_rows {w : World} {b : Nat} {r : RunP} (hB : RunAt w b r) (hm : r.many ≤ 24) : RowsAt w (some ⟨b, 19, none⟩) 7 ((evsP r).map Ev.cells) := fun j cs hj => by
  unfold evsP at hj
  rw [List.map_map, List.getElem?_map] at hj
  have hjm : j < r.many := by
    rcases Nat.lt_or_ge j r.many with h | h
    · exact h
    · rw [List.getElem?_eq_none (by rw [List.length_range]; exact h)] at hj; cases hj
  rw [List.getElem?_range hjm] at hj
  obtain rfl := Option.some.inj hj
  refine ⟨b, 19, rfl, fun i v hv => ?_⟩
  have hi : i < 7 := (List.getElem?_eq_some_iff.1 hv).1
  have e : (r.ev j).cells[i]? = some v := hv
  rw [Ev.cells_at _ hi] at e
  obtain rfl := Option.some.inj e
  exact hB.cell _ (cell_ev r (by omega) hi)
/-- What path answers: its cells. -/
def pathCells (A1 : Option Addr) (c1 : Nat) (A2 : Option Addr) (c2 : Nat) (A3 : Option Addr) (c3 : Nat) (A4 : Option Addr) (c4 : Nat) (r : RunP) : List Value :=
  [.slice A1 r.many c1, .slice A2 (pairsP r.data r.many).length c2, .slice A3 (pairsP r.ctrl r.many).length c3, .slice A4 (pairsP r.att r.many).length c4, b8 (r.regs 0), b8 (r.regs 1), b8 (r.regs 2), b8 (r.regs 3), b8 (r.regs 4), b8 (r.regs 5), b8 (r.regs 6), b8 (r.regs 7)]
theorem regs_range {w : World} {b : Nat} {r : RunP} (hB : RunAt w b r) : w.rangeAt b 1 (bs 8 r.regs) := fun j v hv => by
  have hj : j < 8 := by have := (List.getElem?_eq_some_iff.1 hv).1; rwa [bs_length] at this
  have e : (bs 8 r.regs)[j]? = some (b8 (r.regs j)) := by unfold bs; rw [List.getElem?_map, List.getElem?_range hj]; rfl
  rw [e] at hv
  obtain rfl := Option.some.inj hv
  exact hB.cell _ (cell_reg r hj)
def pathRes (A1 : Option Addr) (c1 : Nat) (A2 : Option Addr) (c2 : Nat) (A3 : Option Addr) (c3 : Nat) (A4 : Option Addr) (c4 : Nat) (r : RunP) : List Res :=
  [.rws 49 7 (.slice A1 r.many c1) ((evsP r).map Ev.cells), .rws 126 2 (.slice A2 (pairsP r.data r.many).length c2) ((pairsP r.data r.many).map prC), .rws 126 2 (.slice A3 (pairsP r.ctrl r.many).length c3) ((pairsP r.ctrl r.many).map prC), .rws 126 2 (.slice A4 (pairsP r.att r.many).length c4) ((pairsP r.att r.many).map prC)]
set_option maxHeartbeats 2000000 in
theorem path_any (b : Nat) (r : RunP) (w0 : World) (hB : RunAt w0 b r) (hT : TabAt w0) (hm : r.many ≤ 24) (hs : SetsOk r) :
    Calls Tryd.prog 23 #[.pointer (some ⟨b, 0, none⟩)] w0 fun e w' => ∃ A1 c1 A2 c2 A3 c3 A4 c4, e = .returned (.agg (pathCells A1 c1 A2 c2 A3 c3 A4 c4 r).toArray) ∧ Own w0 none w' (pathRes A1 c1 A2 c2 A3 c3 A4 c4 r) := by
  have H := Own.start w0 none
  have hW : w0.rangeAt b 0 r.cells := blk_whole hB
  have hM : w0.cell? ⟨b, 18, none⟩ = some (Value.int .i64 (r.many : Int)) := hB.cell _ (cell_many r)
  have hE := evs_rows hB hm
  have hel := evs_len r
  have hcl := cloneE_any b 19 24 ((evsP r).map Ev.cells)
  rw [List.length_map, hel] at hcl
  refine enterF Tryd.func23 rfl Tryd.ntmps23 rfl (fun a F => ?_)
  refine cSeq (fun K1 hK1 => ?_)
  refine cReg ?_
  refine sAl H Tryd.zeroValue45 F rfl rfl ?_
  clear F a H; intro b2 a w F H
  refine sNil ?_
  refine hK1 _ _ ?_; clear hK1
  refine cSeq (fun K2 hK2 => ?_)
  refine cRegRO (by kernel_rfl) H ?_
  replace H := H.drew
  refine eTakeF (k := 0) (i := 0) rfl (by kernel_rfl) F rfl rfl rfl (fun w => rMv F rfl) (H.sel [0] rfl rfl) (fun _ _ _ h => h) ?_;clear F a;intro a F
  refine eTake (k := 1) (i := 1) rfl (by kernel_rfl) F rfl rfl rfl rfl (fun w H => rNc F rfl) (H.sel [0] rfl rfl) (fun _ _ _ h => h) ?_;clear F a;intro a F
  refine eTakeF (k := 2) (i := 2) rfl (by kernel_rfl) F rfl rfl rfl (fun w => rFa (f := 5) (k := 19) Tryd.underlying90 rfl Tryd.sizeOf87 rfl rfl F rfl) (H.sel [0] rfl rfl) (fun _ _ _ h => h) ?_;clear F a;intro a F
  refine eTakeF (k := 3) (i := 3) rfl (by kernel_rfl) F rfl rfl rfl (fun w => rMv F rfl) (H.sel [0] rfl rfl) (fun _ _ _ h => h) ?_;clear F a;intro a F
  refine eTake (k := 4) (i := 4) rfl (by kernel_rfl) F rfl rfl rfl rfl (fun w H => rNc F rfl) (H.sel [0] rfl rfl) (fun _ _ _ h => h) ?_;clear F a;intro a F
  refine eTakeF (k := 5) (i := 5) rfl (by kernel_rfl) F rfl rfl rfl (fun w => rFa (f := 4) (k := 18) Tryd.underlying90 rfl Tryd.sizeOf3 rfl rfl F rfl) (H.sel [0] rfl rfl) (fun _ _ _ h => h) ?_;clear F a;intro a F
  refine eTake (k := 6) (i := 6) rfl (by kernel_rfl) F rfl rfl rfl rfl (fun w H => rLd Tryd.isAgg3 F rfl (H.arg hM)) (H.sel [0] rfl rfl) (fun _ _ _ h => h) ?_;clear F a;intro a F
  refine eTake (k := 7) (i := 7) rfl (by kernel_rfl) F rfl rfl rfl rfl (fun w H => rSlAH Tryd.underlying87 Tryd.sizeOf49 F rfl rfl ?_) (H.sel [0] rfl rfl) (fun _ _ _ h => h) ?_
  focus (first | omega | decide | (simp; omega))
  clear F a; intro a F
  refine eTakeF (k := 8) (i := 9) rfl (by kernel_rfl) F rfl rfl rfl (fun w => rMv F rfl) (H.sel [0] rfl rfl) (fun _ _ _ h => h) ?_;clear F a;intro a F
  refine eTake (k := 9) (i := 10) rfl (by kernel_rfl) F rfl rfl rfl rfl (fun w H => rNc F rfl) (H.sel [0] rfl rfl) (fun _ _ _ h => h) ?_;clear F a;intro a F
  refine eTakeF (k := 10) (i := 11) rfl (by kernel_rfl) F rfl rfl rfl (fun w => rFa (f := 6) (k := 187) Tryd.underlying90 rfl Tryd.sizeOf88 rfl rfl F rfl) (H.sel [0] rfl rfl) (fun _ _ _ h => h) ?_;clear F a;intro a F
  refine eTakeF (k := 11) (i := 12) rfl (by kernel_rfl) F rfl rfl rfl (fun w => rMv F rfl) (H.sel [0] rfl rfl) (fun _ _ _ h => h) ?_;clear F a;intro a F
  refine eTake (k := 12) (i := 13) rfl (by kernel_rfl) F rfl rfl rfl rfl (fun w H => rNc F rfl) (H.sel [0] rfl rfl) (fun _ _ _ h => h) ?_;clear F a;intro a F
  refine eTakeF (k := 13) (i := 14) rfl (by kernel_rfl) F rfl rfl rfl (fun w => rFa (f := 4) (k := 18) Tryd.underlying90 rfl Tryd.sizeOf3 rfl rfl F rfl) (H.sel [0] rfl rfl) (fun _ _ _ h => h) ?_;clear F a;intro a F
  refine eTake (k := 14) (i := 15) rfl (by kernel_rfl) F rfl rfl rfl rfl (fun w H => rLd Tryd.isAgg3 F rfl (H.arg hM)) (H.sel [0] rfl rfl) (fun _ _ _ h => h) ?_;clear F a;intro a F
  refine eTake (k := 15) (i := 16) rfl (by kernel_rfl) F rfl rfl rfl rfl (fun w H => rSlAH Tryd.underlying88 Tryd.sizeOf85 F rfl rfl ?_) (H.sel [0] rfl rfl) (fun _ _ _ h => h) ?_
  focus (first | omega | decide | (simp; omega))
  clear F a; intro a F
  refine eTakeF (k := 16) (i := 18) rfl (by kernel_rfl) F rfl rfl rfl (fun w => rMv F rfl) (H.sel [0] rfl rfl) (fun _ _ _ h => h) ?_;clear F a;intro a F
  refine eTake (k := 17) (i := 19) rfl (by kernel_rfl) F rfl rfl rfl rfl (fun w H => rNc F rfl) (H.sel [0] rfl rfl) (fun _ _ _ h => h) ?_;clear F a;intro a F
  refine eTakeF (k := 18) (i := 20) rfl (by kernel_rfl) F rfl rfl rfl (fun w => rFa (f := 7) (k := 211) Tryd.underlying90 rfl Tryd.sizeOf88 rfl rfl F rfl) (H.sel [0] rfl rfl) (fun _ _ _ h => h) ?_;clear F a;intro a F
  refine eTakeF (k := 19) (i := 21) rfl (by kernel_rfl) F rfl rfl rfl (fun w => rMv F rfl) (H.sel [0] rfl rfl) (fun _ _ _ h => h) ?_;clear F a;intro a F
  refine eTake (k := 20) (i := 22) rfl (by kernel_rfl) F rfl rfl rfl rfl (fun w H => rNc F rfl) (H.sel [0] rfl rfl) (fun _ _ _ h => h) ?_;clear F a;intro a F
  refine eTakeF (k := 21) (i := 23) rfl (by kernel_rfl) F rfl rfl rfl (fun w => rFa (f := 4) (k := 18) Tryd.underlying90 rfl Tryd.sizeOf3 rfl rfl F rfl) (H.sel [0] rfl rfl) (fun _ _ _ h => h) ?_;clear F a;intro a F
  refine eTake (k := 22) (i := 24) rfl (by kernel_rfl) F rfl rfl rfl rfl (fun w H => rLd Tryd.isAgg3 F rfl (H.arg hM)) (H.sel [0] rfl rfl) (fun _ _ _ h => h) ?_;clear F a;intro a F
  refine eTake (k := 23) (i := 25) rfl (by kernel_rfl) F rfl rfl rfl rfl (fun w H => rSlAH Tryd.underlying88 Tryd.sizeOf85 F rfl rfl ?_) (H.sel [0] rfl rfl) (fun _ _ _ h => h) ?_
  focus (first | omega | decide | (simp; omega))
  clear F a; intro a F
  refine eTakeF (k := 24) (i := 27) rfl (by kernel_rfl) F rfl rfl rfl (fun w => rMv F rfl) (H.sel [0] rfl rfl) (fun _ _ _ h => h) ?_;clear F a;intro a F
  refine eTake (k := 25) (i := 28) rfl (by kernel_rfl) F rfl rfl rfl rfl (fun w H => rNc F rfl) (H.sel [0] rfl rfl) (fun _ _ _ h => h) ?_;clear F a;intro a F
  refine eTakeF (k := 26) (i := 29) rfl (by kernel_rfl) F rfl rfl rfl (fun w => rFa (f := 8) (k := 235) Tryd.underlying90 rfl Tryd.sizeOf88 rfl rfl F rfl) (H.sel [0] rfl rfl) (fun _ _ _ h => h) ?_;clear F a;intro a F
  refine eTakeF (k := 27) (i := 30) rfl (by kernel_rfl) F rfl rfl rfl (fun w => rMv F rfl) (H.sel [0] rfl rfl) (fun _ _ _ h => h) ?_;clear F a;intro a F
  refine eTake (k := 28) (i := 31) rfl (by kernel_rfl) F rfl rfl rfl rfl (fun w H => rNc F rfl) (H.sel [0] rfl rfl) (fun _ _ _ h => h) ?_;clear F a;intro a F
  refine eTakeF (k := 29) (i := 32) rfl (by kernel_rfl) F rfl rfl rfl (fun w => rFa (f := 4) (k := 18) Tryd.underlying90 rfl Tryd.sizeOf3 rfl rfl F rfl) (H.sel [0] rfl rfl) (fun _ _ _ h => h) ?_;clear F a;intro a F
  refine eTake (k := 30) (i := 33) rfl (by kernel_rfl) F rfl rfl rfl rfl (fun w H => rLd Tryd.isAgg3 F rfl (H.arg hM)) (H.sel [0] rfl rfl) (fun _ _ _ h => h) ?_;clear F a;intro a F
  refine eTake (k := 31) (i := 34) rfl (by kernel_rfl) F rfl rfl rfl rfl (fun w H => rSlAH Tryd.underlying88 Tryd.sizeOf85 F rfl rfl ?_) (H.sel [0] rfl rfl) (fun _ _ _ h => h) ?_
  focus (first | omega | decide | (simp; omega))
  clear F a; intro a F
  refine eTakeF (k := 32) (i := 36) rfl (by kernel_rfl) F rfl rfl rfl (fun w => rMv F rfl) (H.sel [0] rfl rfl) (fun _ _ _ h => h) ?_;clear F a;intro a F
  refine eTake (k := 33) (i := 37) rfl (by kernel_rfl) F rfl rfl rfl rfl (fun w H => rNc F rfl) (H.sel [0] rfl rfl) (fun _ _ _ h => h) ?_;clear F a;intro a F
  refine eTakeF (k := 34) (i := 38) rfl (by kernel_rfl) F rfl rfl rfl (fun w => rFa (f := 1) (k := 1) Tryd.underlying90 rfl Tryd.sizeOf34 rfl rfl F rfl) (H.sel [0] rfl rfl) (fun _ _ _ h => h) ?_;clear F a;intro a F
  refine eTake (k := 35) (i := 39) rfl (by kernel_rfl) F rfl rfl rfl rfl (fun w H => rLrB Tryd.underlying34 rfl Tryd.sizeOf34 F rfl (H.argR (regs_range hB))) (H.sel [0] rfl rfl) (fun _ _ _ h => h) ?_;clear F a;intro a F
  refine eOne (k := 36) (i := 8) rfl (by kernel_rfl) F rfl (oCall Tryd.call43 F rfl rfl (hcl _ (hE.own H) (by intro q hq; obtain ⟨x, _, rfl⟩ := List.mem_map.1 hq; rfl) (by intro q hq; obtain ⟨x, _, rfl⟩ := List.mem_map.1 hq; rfl) (by omega)) ?_)
  rintro e w ⟨A1, c1, rfl, H2⟩
  replace H := H.join H2; clear H2
  refine ⟨_, rfl, ?_⟩
  clear F a; intro a F
  refine eKeep (H.sel [1] rfl rfl) ?_
  refine eOne (k := 37) (i := 17) rfl (by kernel_rfl) F rfl (oCall Tryd.call44 F rfl rfl (pairs_any b 187 24 r.many r.data _ (hT.own H) hm hs.data (fun k hk => H.arg (hB.cell _ (cell_data r (by omega))))) ?_)
  rintro e w ⟨A2, c2, rfl, H2⟩
  replace H := H.join H2; clear H2
  refine ⟨_, rfl, ?_⟩
  clear F a; intro a F
  refine eKeep (H.sel [2] rfl rfl) ?_
  refine eOne (k := 38) (i := 26) rfl (by kernel_rfl) F rfl (oCall Tryd.call44 F rfl rfl (pairs_any b 211 24 r.many r.ctrl _ (hT.own H) hm hs.ctrl (fun k hk => H.arg (hB.cell _ (cell_ctrl r (by omega))))) ?_)
  rintro e w ⟨A3, c3, rfl, H2⟩
  replace H := H.join H2; clear H2
  refine ⟨_, rfl, ?_⟩
  clear F a; intro a F
  refine eKeep (H.sel [3] rfl rfl) ?_
  refine eOne (k := 39) (i := 35) rfl (by kernel_rfl) F rfl (oCall Tryd.call44 F rfl rfl (pairs_any b 235 24 r.many r.att _ (hT.own H) hm hs.att (fun k hk => H.arg (hB.cell _ (cell_att r (by omega))))) ?_)
  rintro e w ⟨A4, c4, rfl, H2⟩
  replace H := H.join H2; clear H2
  refine ⟨_, rfl, ?_⟩
  clear F a; intro a F
  refine eKeep (H.sel [4] rfl rfl) ?_
  refine eTake (k := 40) (i := 40) rfl (by kernel_rfl) F rfl rfl rfl rfl (fun w H => rBd (cs := pathCells A1 c1 A2 c2 A3 c3 A4 c4 r) (places := [(0, 1), (1, 1), (2, 1), (3, 1), (4, 8)]) Tryd.zeroValue45 Tryd.underlying45 (by kernel_rfl) F rfl rfl) (H.sel [4] rfl rfl) (fun _ _ _ h => h) ?_;clear F a;intro a F
  refine eOne (k := 41) (i := 41) rfl (by kernel_rfl) F rfl (oSr H 4 ?si F rfl rfl ?s1 rfl rfl ?_)
  case si => exact info_size Tryd.sizeOf45
  case s1 => first | rfl | (repeat (first | exact one_nil | (apply one_cons; · first | rfl | assumption | exact one_bif rfl rfl)))
  clear H; intro w H
  refine ePartO (by kernel_rfl) H ?_
  refine eNil (k := 42) (by kernel_rfl) ?_
  refine hK2 _ _ ?_; clear hK2
  refine wp_ret ?_
  refine bRetC Tryd.results23 F rfl Tryd.underlying45 rfl H 4 rfl Tryd.sizeOf45 rfl ?_
  exact ⟨A1, c1, A2, c2, A3, c3, A4, c4, rfl, H.sel [3, 2, 1, 0] rfl rfl⟩
end Go.Proofs.YtklpiodciblabaaDoor
