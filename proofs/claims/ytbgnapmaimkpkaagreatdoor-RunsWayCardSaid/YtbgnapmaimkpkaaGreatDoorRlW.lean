/-
  WALK2. The law RunsWay. Conditions: what it is handed lies in memory; block 0 holds the table of needs.
-/
import Derived.Test.YtbgnapmaimkpkaaGreatDoorRnI
import Derived.Test.YtbgnapmaimkpkaaGreatDoorVcU1
set_option linter.unusedSimpArgs false
set_option linter.unusedVariables false
namespace Go.Proofs.YtbgnapmaimkpkaaGreatDoor
open Go.RowKit
set_option maxRecDepth 100000
theorem rows_take {w : World} {A : Option Addr} {sz : Nat} {l : List By} {f : By → List Value} (h : RowsAt w A sz (l.map f)) (n : Nat) : RowsAt w A sz ((l.take n).map f) := fun j cs hj => h j cs (by
  rw [List.map_take, List.getElem?_take] at hj
  split at hj
  · exact hj
  · cases hj)
theorem way_says {p : Prg} {m : UInt8} {f : By} (h : statesE p m 600 = 0) : (wayE p m f 600 = 0 ∧ ∃ s, RunM p m (startP p) (wayL p m f 600) s ∧ movesM p m s = [] ∧ same 38 (finalP s) f = true ∧ RightM p m s ∧ ∀ (r : List Pss) (z : By), RunM p m (startP p) r z → movesM p m z = [] → same 38 (finalP z) f = true → (wayL p m f 600).length ≤ r.length)
    ∨ (wayE p m f 600 = 6 ∧ wayL p m f 600 = [] ∧ ∀ (r : List Pss) (z : By), RunM p m (startP p) r z → movesM p m z = [] → same 38 (finalP z) f = false) := by
  obtain ⟨fd, hfd, hI, _⟩ := states_some h
  have hW : wayL p m f 600 = wayOf fd f := by unfold wayL; rw [hfd]; rfl
  have hQ : wayE p m f 600 = (match hitR fd f with | none => 6 | some _ => 0) := by unfold wayE; rw [if_pos h, hfd]; rfl
  rw [hW, hQ]
  unfold wayOf
  cases hk : hitR fd f with
  | none =>
    refine .inr ⟨rfl, rfl, fun r z hr hz => ?_⟩
    obtain ⟨k, h1, h2, _⟩ := end_found hI hr hz
    have := List.find?_eq_none.1 hk k h1
    rw [List.getD_eq_getElem?_getD, h2] at this
    simpa using this
  | some k =>
    obtain ⟨h1, h2⟩ := List.find?_eq_some_iff_append.1 hk
    obtain ⟨ks, bs', h3, h4⟩ := h2
    have hke : k ∈ fd.ends := by rw [h3]; simp
    obtain ⟨s, h5, h6, h7⟩ := end_run hI hke
    rw [List.getD_eq_getElem?_getD, h5] at h1
    refine .inl ⟨rfl, s, h6, h7, h1, (hI.fine s (List.mem_of_getElem? h5)).r, fun r z hr hz hf => ?_⟩
    obtain ⟨k2, e1, e2, e3⟩ := end_found hI hr hz
    refine Nat.le_trans (way_mono hI k2 k ?_ (List.getElem?_eq_some_iff.1 e2).1) e3
    have hs : fd.ends.Pairwise (· < ·) := by
      rw [hI.ends]
      exact List.pairwise_lt_range.filter _
    rw [h3] at e1 hs
    rcases List.mem_append.1 e1 with e | e
    · have := h4 k2 e
      rw [List.getD_eq_getElem?_getD, e2] at this
      rw [show same 38 (finalP ((some z).getD zb)) f = true from hf] at this
      cases this
    · rcases List.mem_cons.1 e with e | e
      · omega
      · exact Nat.le_of_lt ((List.pairwise_cons.1 (List.pairwise_append.1 hs).2.1).1 k2 e)
theorem way_in {p : Prg} {m : UInt8} {f : By} {l : List By} (h : statesE p m 600 = 0) (hf : FinOut p m 600 l) : toL 38 f ∈ tl l ↔ wayE p m f 600 = 0 := by
  rw [(hf.2 h).2.2.2]
  unfold OutM
  rcases way_says (f := f) h with ⟨h1, s, h2, h3, h4, _⟩ | ⟨h1, _, h3⟩
  · exact ⟨fun _ => h1, fun _ => ⟨_, s, h2, h3, (toL_eq.2 h4).symm⟩⟩
  · rw [h1]
    refine ⟨fun ⟨r, z, e1, e2, e3⟩ => ?_, fun e => absurd e (by decide)⟩
    have := h3 r z e1 e2
    rw [toL_eq.1 e3.symm] at this
    cases this
theorem within_way (A B : Option Addr) (CA CB : Nat) (f : By) (q : List By) (w0 : World) (hA : RowsAt w0 A 38 ([f].map (bs 38))) (hB : RowsAt w0 B 38 (q.map (bs 38))) (hq : q.length ≤ 9223372036854775807) {p : Prg} {m : UInt8} (h : statesE p m 600 = 0) (hf : FinOut p m 600 q) :
    Calls Tryz.prog 13 #[.slice A 1 CA, .slice B q.length CB] w0 fun e w' => e = .returned (.bool (decide (wayE p m f 600 = 0))) ∧ Below w0.heap.size w0 w' :=
  (within_any A B CA CB [f] q w0 hA hB (show 1 ≤ 9223372036854775807 by decide) hq).mono fun e w' hh => by
    obtain ⟨b, he, hb, hB⟩ := hh
    refine ⟨by rw [he]; congr 2; rw [Bool.eq_iff_iff, hb, decide_eq_true_iff, ← way_in h hf]; simp [tl], hB⟩
section
variable {P : Program} {l : List Oper} {Q : Exit → Act → World → Prop} {N : Nat} {a : Act} {env : List (Nat × Value)} {rest : List Oper} {d : Tmp} {ty : TypeId} {pos : String} {af : Array Edge} {g : Option (Nat × Bool)} {w0 w : World} {row : Option Nat} {rs : List Res} {Kt : Act → World → Prop}
theorem oBsW {t e : TypeId} {size : Nat} {parts : List (Nat × Operand)} {rows : List (List Value)} {z : Value} (H : Own w0 row w rs) (ht : P.underlying t = some (.slice e)) (hs : ∀ w, (sizeOf e).run P w = .ok size w) (hz : ∀ w, (zeroValue e).run P w = .ok z w) (hzs : z.cells.size = size)
    (F : Has N a env) (hN : Nat.blt d N = true) (he : evP env parts = some (numP rows 0)) (hn : Nat.ble (rows.length * size) 16777216 = true) (hr : (rows.all fun r => Nat.beq r.length size) = true) (hfl : rows.flatten.length = rows.length * size ∧ rows.length ≤ maxLen)
    (K : ∀ b a w, Has N a ((d, .slice (some ⟨b, 0, .none⟩) rows.length rows.length) :: env) → Own w0 row w (.rws e size (.slice (some ⟨b, 0, .none⟩) rows.length rows.length) rows :: rs) → Kt a w) : (Oper.mk (some d) (.buildSlice t rows.length parts.toArray) ty pos af g).wp P a w Kt Q :=
  oBsR H ht hs hz hzs F hN he hn hr (fun b a w F H => K b a w F (H.blkRws 0 rows rfl rfl rfl hfl.1 hfl.2))
end
theorem moves_t4w {p : Prg} {m : UInt8} {s : By} {x : Pss} (hr : RightM p m s) (hx : x ∈ movesM p m s) : x ∈ movesR p m s := by rw [movesR_eq hr]; exact hx
set_option maxHeartbeats 2000000 in
theorem runsWay_any (cs : List Value) (p : Prg) (w0 : World) (hP : ProgAt w0 cs p) (hN : NeedsAt w0) (u : UInt8) (PA : Option Addr) (PC : Nat) (picks : List UInt8) (hB : BytesAt w0 PA picks) (hBn : picks.length ≤ 9223372036854775807) (hBc : picks.length ≤ PC) (f : By) :
    Calls Tryz.prog 9 #[.agg cs.toArray, Go.Proofs.YtbgnapmaimkpkaaGreatDoor.b8 u, .slice PA picks.length PC, .agg (bs 38 f).toArray] w0 fun e w' => e = .returned (.bool true) ∧ Below w0.heap.size w0 w' := by
  have H := Own.start w0 none
  have hP0 := hP
  obtain ⟨LA, LC, IA, IC, TA, TC, h, ccs, hp⟩ := hP
  obtain ⟨c1, c2, c3, c4, c5, rfl⟩ := len5 (condAt_len hp.cond)
  have hcs := hp.cs
  subst hcs
  have hkm := known_machine u
  have hk3 : (1 : UInt8) ≤ (1 + u % 3) ∧ (1 + u % 3) ≤ 3 := by unfold knownM at hkm; simpa using hkm
  have hlen : (picks.take 100).length = min picks.length 100 := by rw [List.length_take]; omega
  have hBt := bytes_take hB 100
  generalize hQ : picks.take 100 = Q at hlen hBt
  refine enterF Tryz.func9 rfl Tryz.ntmps9 rfl (fun a F => ?_)
  refine cSR fun K1 hK1=>?_
  refine sBx H F rfl rfl rfl ?_
  clear F a H; intro b4 a w F H
  refine sBxB H F rfl rfl rfl ?_
  clear F a H; intro b7 a w F H
  refine sAs F rfl rfl rfl (qNK hK1 (qSR fun K2 hK2=>qMv rfl rfl rfl ?_));clear hK1;clear F a;intro a F
  refine sBin F rfl rfl rfl rfl (bRemB (y := 3) ?_) ?_
  focus decide
  clear F a; intro a F
  refine sBin F rfl rfl rfl rfl (bAddB (x := 1)) (qAs rfl rfl rfl (qNK hK2 (qSR fun K3 hK3=>?_)));clear hK2;clear F a;intro a F
  refine sLr Tryz.underlying29 rfl ?si F rfl rfl rfl (H.whole 1 rfl) ?_
  case si => exact info_size Tryz.sizeOf29
  clear F a; intro a F
  refine sMv F rfl rfl rfl ?_;clear F a;intro a F
  refine sCall Tryz.call12 F rfl rfl rfl (finals15_any _ p _ (hP0.own H) (hN.own H) (1 + u % 3) hk3) ?_
  rintro e w ⟨A1, k1, l1, q1, rfl, hq1, hf1, H2⟩
  replace H := H.join H2; clear H2
  refine ⟨_, rfl, ?_⟩
  clear F a; intro a F
  refine sMv F rfl rfl rfl (qExt rfl rfl rfl rfl (qExt rfl rfl rfl rfl (qExt rfl rfl rfl rfl (qAs rfl rfl rfl (qAs rfl rfl rfl (qAs rfl rfl rfl (qNK hK3 ?_)))))));clear hK3;clear F a;intro a F
  refine cSeq (fun K4 hK4 => ?_)
  refine cSR fun K5 hK5=>sMv F rfl rfl rfl (qNot rfl rfl rfl (qNK hK5 ?_));clear hK5;clear F a;intro a F
  refine cIf F rfl (fun h36 => ?_) (fun h36 => ?_)
  ·
   replace h36 := notT h36
   refine cSR fun K6 hK6=>sMv F rfl rfl rfl (qMv rfl rfl rfl ?_);clear F a;intro a F
   refine F.split 38 rfl ?_ ?_ <;> (clear F; intro h38 F)
   ·
    refine sCall Tryz.call14 F rfl rfl rfl (awake15_any _ (hN.own H)) ?_
    rintro e w ⟨rfl, hb⟩
    replace H := H.grow hb; clear hb
    refine ⟨_, rfl, ?_⟩
    clear F a; intro a F
    refine sPk F rfl rfl rfl rfl (qAs rfl rfl rfl (qNK hK6 ?_));clear hK6;clear F a;intro a F
    refine wp_ret ?_
    simp only [Exit.then]
    refine bRet Tryz.results9 F rfl ?_
    exact ⟨rfl, H.below⟩
   cases h38
  replace h36 := notF h36
  have hE : statesE p (1 + u % 3) 600 = 0 := hq1.1 h36
  have hv : rightErr p = 0 := (most_ok hE).1
  have hl1 := H.rwsLen 0 rfl
  simp only [maxLen] at hl1
  have hV4 := (valid hv).thr4
  obtain ⟨r, z0, eF, eO, eEM, hruns, hz, hr0, hrz, hr96, hnu⟩ := play_runs hv hkm Q
  have eE : startE p = 0 := if_pos hv
  have eS : startS p = startP p := if_pos hv
  refine wp_skip (hK4 _ _ ?_);clear hK4
  refine cSeq (fun K7 hK7 => ?_)
  refine cRegRO (by kernel_rfl) H ?_
  replace H := H.drew
  refine eTake (k := 0) (i := 0) rfl (by kernel_rfl) F rfl rfl rfl rfl (fun w H => rLr Tryz.underlying29 rfl ?si F rfl (H.whole 2 rfl)) (H.sel [0, 1, 2] rfl rfl) (fun _ _ _ h => h) ?_
  case si => exact info_size Tryz.sizeOf29
  clear F a; intro a F
  refine eTF 1 rfl (by kernel_rfl) F rfl rfl rfl (fun w=>rMv F rfl) H qq0 (qTF 2 rfl (by kernel_rfl) rfl rfl rfl (fun a F w=>rMv F rfl) H qq0 (qTF 3 rfl (by kernel_rfl) rfl rfl rfl (fun a F w=>rMv F rfl) H qq0 (qT 4 rfl (by kernel_rfl) rfl rfl rfl rfl (fun a F w H=>rLen Tryz.underlying23 F rfl) H qq0 (qT 5 rfl (by kernel_rfl) rfl rfl rfl rfl (fun a F w H=>rMinN (j := 100) F rfl rfl) H qq0 ?_))));clear F a;intro a F
  refine eTake (k := 6) (i := 6) rfl (by kernel_rfl) F rfl rfl rfl rfl (fun w H => rSlH Tryz.underlying23 (fun w => ⟨_, Tryz.sizeOf5 w⟩) F rfl rfl ?_) (H.sel [0, 1, 2] rfl rfl) (fun _ _ _ h => h) ?_
  focus (first | omega | decide | (simp; omega))
  clear F a; intro a F
  refine eJoin F H [4, 7, 9, 10] 13 [true, true, true, true, true, true, true, true, true, true, true, true, true, false, false, false] (fun rs ups w => ∃ AO cO b13, ups = [(50, .agg (bs 38 (playFM p (1 + u % 3) Q)).toArray), (51, .slice AO (playOM p (1 + u % 3) Q).length cO), (52, .int .i64 (playEM p (1 + u % 3))), (13, .pointer (some ⟨b13, 0, none⟩))] ∧ Own w0 none w ((.rws 86 3 (.slice AO (playOM p (1 + u % 3) Q).length cO) ((playOM p (1 + u % 3) Q).map Pss.cells)) :: (.blk b13 (bs 38 zb) 47) :: rs)) (by repeat (first | exact SubR.nil | (apply SubR.cons; · rfl))) ?_ (fun hJ => ?_)
  rotate_left
  ·
   refine eTwo (k := 7) (i := 7) (j := 12) (by kernel_rfl) F rfl rfl rfl rfl ?_ ?_
   ·
    refine oCall Tryz.call31 F rfl rfl ((by have := playM_any _ p _ (hP0.own H) (hN.own H) (1 + u % 3) PA PC Q (RowsAt.own hBt H) (by omega); rw [hlen] at this; exact this)) ?_
    rintro e w ⟨AO, cO, rfl, H2⟩
    replace H := H.join H2; clear H2
    refine ⟨_, rfl, ?_⟩
    clear F a; intro a F
    refine eKeep (H.sel [1, 2, 3] rfl rfl) ?_
    refine eTF 8 rfl (by kernel_rfl) F rfl rfl rfl (fun w=>rMv F rfl) (H.sel [1, 2, 3] rfl rfl) qq0 (qTF 9 rfl (by kernel_rfl) rfl rfl rfl (fun a F w=>rExt F rfl rfl) (H.sel [1, 2, 3] rfl rfl) qq0 (qTF 10 rfl (by kernel_rfl) rfl rfl rfl (fun a F w=>rExt F rfl rfl) (H.sel [1, 2, 3] rfl rfl) qq0 (qTF 11 rfl (by kernel_rfl) rfl rfl rfl (fun a F w=>rExt F rfl rfl) (H.sel [1, 2, 3] rfl rfl) qq0 ?_)));clear F a;intro a F
    refine eOne (k := 12) (i := 12) rfl (by kernel_rfl) F rfl (oAlB H zB47 F rfl ?_)
    clear F a H; intro b13 a w F H
    refine eKeep (H.sel [2, 3, 4] rfl rfl) ?_
    exact eGo hJ (by kernel_rfl) _ ⟨AO, cO, b13, rfl, H.sel [1, 0, 2, 3, 4] rfl rfl⟩ (F.to (by repeat (first | exact trivial | refine Le.cons rfl ?_)))
   refine oAlB H zB47 F rfl ?_
   clear F a H; intro b13 a w F H
   refine eKeep (H.sel [1, 2, 3] rfl rfl) ?_
   refine eOne (k := 8) (i := 7) rfl (by kernel_rfl) F rfl (oCall Tryz.call31 F rfl rfl ((by have := playM_any _ p _ (hP0.own H) (hN.own H) (1 + u % 3) PA PC Q (RowsAt.own hBt H) (by omega); rw [hlen] at this; exact this)) ?_)
   rintro e w ⟨AO, cO, rfl, H2⟩
   replace H := H.join H2; clear H2
   refine ⟨_, rfl, ?_⟩
   clear F a; intro a F
   refine eKeep (H.sel [2, 3, 4] rfl rfl) ?_
   refine eTF 8 rfl (by kernel_rfl) F rfl rfl rfl (fun w=>rMv F rfl) (H.sel [2, 3, 4] rfl rfl) qq0 (qTF 9 rfl (by kernel_rfl) rfl rfl rfl (fun a F w=>rExt F rfl rfl) (H.sel [2, 3, 4] rfl rfl) qq0 (qTF 10 rfl (by kernel_rfl) rfl rfl rfl (fun a F w=>rExt F rfl rfl) (H.sel [2, 3, 4] rfl rfl) qq0 (qTF 11 rfl (by kernel_rfl) rfl rfl rfl (fun a F w=>rExt F rfl rfl) (H.sel [2, 3, 4] rfl rfl) qq0 ?_)));clear F a;intro a F
   exact eGo hJ (by kernel_rfl) _ ⟨AO, cO, b13, rfl, H.sel [0, 1, 2, 3, 4] rfl rfl⟩ (F.to (by repeat (first | exact trivial | refine Le.cons rfl ?_)))
  clear F H; intro ups a w hI F
  obtain ⟨AO, cO, b13, rfl, H⟩ := hI
  refine eOne (k := 13) (i := 13) rfl (by kernel_rfl) F rfl (oSrB H 1 Tryz.sizeOf47 F rfl rfl rfl (by omega) ?_)
  clear H; intro w H
  rw [lay_all] at H
  refine ePartO (by kernel_rfl) H ?_
  refine eTF 14 rfl (by kernel_rfl) F rfl rfl rfl (fun w=>rAs F rfl) H qq0 (qTF 15 rfl (by kernel_rfl) rfl rfl rfl (fun a F w=>rAs F rfl) H qq0 ?_);clear F a;intro a F
  refine eNil (k := 16) (by kernel_rfl) ?_
  refine hK7 _ _ ?_;clear hK7
  refine cSeq (fun K8 hK8 => ?_)
  refine cSR fun K9 hK9=>sMv F rfl rfl rfl (qBin rfl rfl rfl rfl bNeq (qMv rfl rfl rfl ?_));clear F a;intro a F
  refine F.split 55 rfl ?_ ?_ <;> (clear F; intro h55 F)
  ·
   replace h55 := bneT h55
   exact absurd eEM h55
  replace h55 := bneF h55
  rw [eF, eO] at H
  refine sLrB Tryz.underlying47 rfl Tryz.sizeOf47 F rfl rfl rfl (H.whole 1 rfl) ?_;clear F a;intro a F
  refine sBsA H Tryz.underlying30 Tryz.sizeOf47 Tryz.zeroValue47 rfl F rfl rfl rfl rfl rfl ?_
  clear F a H; intro b57 a w F H
  refine sMv F rfl rfl rfl ?_;clear F a;intro a F
  refine sCall Tryz.call13 F rfl rfl rfl (within_true (some ⟨b57, 0, none⟩) A1 1 k1 [finalP z0] l1 _ (RowsAt.ofRange (sz := 38) (rows := [finalP z0].map (bs 38)) (H.whole 0 rfl) (bs38_len _)) (H.rowsAt 3 rfl (bs38_len _) (by decide)) (show 1 ≤ 9223372036854775807 by decide) (fin_short hf1) (fun x hx => by
   obtain rfl : x = toL 38 (finalP z0) := by simpa [tl] using hx
   exact ((hf1.2 hE).2.2.2 _).2 ⟨r, z0, hruns, hz, rfl⟩)) ?_
  rintro e w ⟨rfl, hb⟩
  replace H := H.grow hb; clear hb
  refine ⟨_, rfl, ?_⟩
  clear F a; intro a F
  refine sNot F rfl rfl rfl (qPk rfl rfl rfl rfl (qNK hK9 ?_));clear hK9;clear F a;intro a F
  refine cIf F rfl (fun h61 => ?_) (fun h61 => ?_)
  ·
   replace h61 := notT h61
   cases h61
  replace h61 := notF h61
  refine wp_skip (hK8 _ _ ?_);clear hK8
  refine cSeq (fun K10 hK10 => ?_)
  refine cSeq (fun K11 hK11 => ?_)
  refine cRegRO (by kernel_rfl) H ?_
  replace H := H.drew
  refine eT 0 rfl (by kernel_rfl) F rfl rfl rfl rfl (fun w H=>rLrB Tryz.underlying47 rfl Tryz.sizeOf47 F rfl (H.whole 4 rfl)) H qq0 (qT 1 rfl (by kernel_rfl) rfl rfl rfl rfl (fun a F w H=>rLrB Tryz.underlying47 rfl Tryz.sizeOf47 F rfl (H.whole 2 rfl)) H qq0 (qTF 3 rfl (by kernel_rfl) rfl rfl rfl (fun a F w=>rMv F rfl) H qq0 (qTF 4 rfl (by kernel_rfl) rfl rfl rfl (fun a F w=>rMv F rfl) H qq0 (qT 5 rfl (by kernel_rfl) rfl rfl rfl rfl (fun a F w H=>rLen Tryz.underlying30 F rfl) H qq0 (qT 6 rfl (by kernel_rfl) rfl rfl rfl rfl (fun a F w H=>rMinN (j := 8) F rfl rfl) H qq0 ?_)))));clear F a;intro a F
  refine eTake (k := 6) (i := 7) rfl (by kernel_rfl) F rfl rfl rfl rfl (fun w H => rSlH Tryz.underlying30 (fun w => ⟨_, Tryz.sizeOf47 w⟩) F rfl rfl ?_) (H.sel [0, 1, 2, 3, 4, 5] rfl rfl) (fun _ _ _ h => h) ?_
  focus (first | omega | decide | (simp; omega))
  clear F a; intro a F
  refine eTF 10 rfl (by kernel_rfl) F rfl rfl rfl (fun w=>rMv F rfl) H qq0 ?_;clear F a;intro a F
  refine eOne (k := 8) (i := 2) rfl (by kernel_rfl) F rfl (oBsW (rows := [bs 38 f, bs 38 (finalP z0)]) H Tryz.underlying30 Tryz.sizeOf47 Tryz.zeroValue47 rfl F rfl rfl rfl rfl (⟨by simp [bs_length], by simp [maxLen]⟩) ?_)
  clear F a H; intro b64 a w F H
  refine eKeep (H.sel [1, 2, 3, 4, 5, 6] rfl rfl) ?_
  refine eOne (k := 9) (i := 8) rfl (by kernel_rfl) F rfl (oAppO (bytes := 38) (sz := 38) H 0 Tryz.underlying30 Tryz.typeInfo47 rfl rfl rfl rfl rfl rfl F rfl rfl rfl rfl ?hm (rows_take (H.rowsAt 4 rfl (bs38_len _) (by decide)) 8) (bs38_len _) (bs38_one _) ?hb ?_)
  case hm => first | rfl | (simp; done) | omega | (simp only [List.length_take, List.length_map]; omega) | (simp; omega)
  case hb => exact ((by simp only [List.length_cons, List.length_nil]; omega))
  clear F a H; intro A70 c70 a w F H
  refine ePartO (by kernel_rfl) H ?_
  refine eT 9 rfl (by kernel_rfl) F rfl rfl rfl rfl (fun w H=>rLen Tryz.underlying30 F rfl) H qq0 ?_;clear F a;intro a F
  refine eNil (k := 11) (by kernel_rfl) ?_
  refine hK11 _ _ ?_;clear hK11
  refine wp_block ?_
  have hX1 : [bs 38 f, bs 38 (finalP z0)] ++ (l1.take 8).map (bs 38) = (f :: finalP z0 :: l1.take 8).map (bs 38) := rfl
  have hX2 : ([bs 38 f, bs 38 (finalP z0)] ++ (l1.take 8).map (bs 38)).length = (f :: finalP z0 :: l1.take 8).length := by rw [hX1, List.length_map]
  have hXn : (f :: finalP z0 :: l1.take 8).length ≤ 10 := by simp only [List.length_cons, List.length_take]; omega
  rw [hX2] at F H
  rw [hX1] at H
  generalize hAX : A70 = AX at F H
  generalize hcX : c70 = cX at F H
  refine cLoopR [4, 9, 10, 13, 14, 70, 71] (fun m ups w => ∃ j : Nat, m = (f :: finalP z0 :: l1.take 8).length - j ∧ ups = [(72, .int .i64 ((j : Nat) : Int))] ∧ j ≤ (f :: finalP z0 :: l1.take 8).length ∧ Own w0 none w [.rws 47 38 (.slice AX (f :: finalP z0 :: l1.take 8).length cX) ((f :: finalP z0 :: l1.take 8).map (bs 38)), .rws 86 3 (.slice AO r.length cO) (r.map Pss.cells), .blk b13 (bs 38 (finalP z0)) 47, .rws 47 38 (.slice A1 l1.length k1) (l1.map (bs 38)), .blk b4 ([.string p.name, .slice LA p.locs.length LC, .slice IA p.init.length IC, .slice TA p.threads.length TC, Go.Proofs.YtbgnapmaimkpkaaGreatDoor.b8 p.ask, c1, c2, c3, c4, c5] : List Value) 29]) F ((f :: finalP z0 :: l1.take 8).length) [(72, .int .i64 ((0 : Nat) : Int))] (by repeat (first | exact SubR.nil | (apply SubR.cons; · rfl))) ?_ ?_ ?_
  · exact ⟨0, rfl, rfl, Nat.zero_le _, H.sel [0, 2, 3, 4, 6] rfl rfl⟩
  · repeat (first | exact trivial | refine Le.cons rfl ?_)
  clear F
  clear H
  intro m ups a w hI F
  obtain ⟨j, rfl, rfl, hj, H⟩ := hI
  refine cSR fun K12 hK12=>sBin F rfl rfl rfl rfl bLss (qNK hK12 ?_);clear hK12;clear F a;intro a F
  refine cSeq (fun K13 hK13 => ?_)
  refine cIf F rfl (fun h73 => ?_) (fun h73 => ?_)
  ·
   replace h73 := of_decide_eq_true h73
   have hjl : j < (f :: finalP z0 :: l1.take 8).length := by omega
   obtain ⟨x, hx⟩ : ∃ x, (f :: finalP z0 :: l1.take 8)[j]? = some x := ⟨_, List.getElem?_eq_getElem hjl⟩
   obtain ⟨bX, oX, rfl, _⟩ := H.rowsAt 0 rfl (bs38_len _) (by decide) j (bs 38 x) (by rw [List.getElem?_map, hx]; rfl)
   have hsay := way_says (f := x) hE
   refine wp_skip (hK13 _ _ ?_);clear hK13
   refine cSeq (fun K14 hK14 => ?_)
   refine wp_block ?_
   refine cSR fun K15 hK15=>?_
   refine sIx Tryz.underlying30 Tryz.sizeOf47 F rfl rfl rfl rfl ?_ ?_
   focus exact hjl
   clear F a; intro a F
   refine sLrB Tryz.underlying47 rfl Tryz.sizeOf47 F rfl rfl rfl (by obtain ⟨b', o', g1, g2⟩ := H.rowsAt 0 rfl (bs38_len _) (by decide) j (bs 38 x) (by rw [List.getElem?_map, hx]; rfl); cases g1; exact g2) ?_;clear F a;intro a F
   refine sAlB H zB47 F rfl rfl ?_
   clear F a H; intro b17 a w F H
   refine sSrB H 0 Tryz.sizeOf47 F rfl rfl rfl rfl (by omega) ?_
   clear H; intro w H
   rw [lay_all] at H
   refine nK hK15 (cSR fun K16 hK16=>?_);clear hK15
   refine sLr Tryz.underlying29 rfl ?si F rfl rfl rfl (H.whole 5 rfl) ?_
   case si => exact info_size Tryz.sizeOf29
   clear F a; intro a F
   refine sMv F rfl rfl rfl (qLrB Tryz.underlying47 rfl Tryz.sizeOf47 rfl rfl rfl (H.whole 0 rfl) ?_);clear F a;intro a F
   refine sCall Tryz.call21 F rfl rfl rfl (way_any _ p _ (hP0.own H) (hN.own H) (1 + u % 3) x 600 (by decide) (by decide)) ?_
   rintro e w ⟨AW, kW, rfl, H2⟩
   replace H := H.join H2; clear H2
   refine ⟨_, rfl, ?_⟩
   clear F a; intro a F
   refine sMv F rfl rfl rfl (qExt rfl rfl rfl rfl (qExt rfl rfl rfl rfl (qAs rfl rfl rfl (qAs rfl rfl rfl (qNK hK16 ?_)))));clear hK16;clear F a;intro a F
   refine cSeq (fun K17 hK17 => ?_)
   refine cSR fun K18 hK18=>sLrB Tryz.underlying47 rfl Tryz.sizeOf47 F rfl rfl rfl (H.whole 1 rfl) ?_;clear F a;intro a F
   refine sBsA H Tryz.underlying30 Tryz.sizeOf47 Tryz.zeroValue47 rfl F rfl rfl rfl rfl rfl ?_
   clear F a H; intro b84 a w F H
   refine sMv F rfl rfl rfl ?_;clear F a;intro a F
   refine sCall Tryz.call13 F rfl rfl rfl (within_way (some ⟨b84, 0, none⟩) A1 1 k1 x l1 _ (RowsAt.ofRange (sz := 38) (rows := [x].map (bs 38)) (H.whole 0 rfl) (bs38_len _)) (H.rowsAt 6 rfl (bs38_len _) (by decide)) (fin_short hf1) hE hf1) ?_
   rintro e w ⟨rfl, hb⟩
   replace H := H.grow hb; clear hb
   refine ⟨_, rfl, ?_⟩
   clear F a; intro a F
   refine sMv F rfl rfl rfl (qBin rfl rfl rfl rfl bEql (qBin rfl rfl rfl rfl (bBoolNe Tryz.underlying4) (qMv rfl rfl rfl ?_)));clear F a;intro a F
   refine F.split 90 rfl ?_ ?_ <;> (clear F; intro h90 F)
   ·
    replace h90 := nbeqT h90
    exact absurd rfl h90
   replace h90 := nbeqF h90
   refine sMv F rfl rfl rfl (qBin rfl rfl rfl rfl bNeq (qMv rfl rfl rfl ?_));clear F a;intro a F
   refine F.split 93 rfl ?_ ?_ <;> (clear F; intro h93 F)
   ·
    replace h93 := bneT h93
    refine sMv F rfl rfl rfl (qBin rfl rfl rfl rfl bNeq (qMv rfl rfl rfl ?_));clear F a;intro a F
    refine F.split 96 rfl ?_ ?_ <;> (clear F; intro h96 F)
    ·
     replace h96 := bneT h96
     exact absurd (hsay.resolve_left (fun h => h93 h.1)).1 h96
    replace h96 := bneF h96
    refine sMv F rfl rfl rfl (qLen Tryz.underlying58 rfl rfl rfl (qBin rfl rfl rfl rfl bNeq (qPk rfl rfl rfl rfl (qPk rfl rfl rfl rfl (qPk rfl rfl rfl rfl (qNK hK18 ?_))))));clear hK18;clear F a;intro a F
    refine cIf F rfl (fun h102 => ?_) (fun h102 => ?_)
    ·
     replace h102 := bneT h102
     exact absurd (by rw [(hsay.resolve_left (fun h => h93 h.1)).2.1]; rfl) h102
    replace h102 := bneF h102
    refine wp_skip (hK17 _ _ ?_);clear hK17
    refine cSeq (fun K19 hK19 => ?_)
    refine cSR fun K20 hK20=>sMv F rfl rfl rfl (qBin rfl rfl rfl rfl bNeq (qNK hK20 ?_));clear hK20;clear F a;intro a F
    refine cIf F rfl (fun h104 => ?_) (fun h104 => ?_)
    ·
     replace h104 := bneT h104
     refine wp_exit ?_
     refine hK14 _ _ (cReg ?_);clear hK14
     refine sBin F rfl rfl rfl rfl (bAddN (j := 1) ?_) ?_
     focus omega
     clear F a; intro a F
     refine sMv F rfl rfl rfl ?_;clear F a;intro a F
     refine sNil ?_
     exact ⟨_, by omega, _, ⟨j + 1, rfl, rfl, by omega, H.sel [3, 4, 5, 6, 7] rfl rfl⟩, F.to (by repeat (first | exact trivial | refine Le.cons rfl ?_))⟩
    replace h104 := bneF h104
    exact absurd h104 h93
   replace h93 := bneF h93
   refine sSk F rfl rfl (qSk rfl rfl (qSk rfl rfl (qSk rfl rfl (qSk rfl rfl (qSk rfl rfl (qSk rfl rfl (qPk rfl rfl rfl rfl (qPk rfl rfl rfl rfl (qNK hK18 ?_)))))))));clear hK18;clear F a;intro a F
   refine cIfF F rfl ?_
   refine wp_skip (hK17 _ _ ?_);clear hK17
   refine cSeq (fun K21 hK21 => ?_)
   refine cSR fun K22 hK22=>sMv F rfl rfl rfl (qBin rfl rfl rfl rfl bNeq (qNK hK22 ?_));clear hK22;clear F a;intro a F
   refine cIf F rfl (fun h104 => ?_) (fun h104 => ?_)
   ·
    replace h104 := bneT h104
    exact absurd h93 h104
   replace h104 := bneF h104
   obtain ⟨_, z, hway, hzm, hzf, hzr, hleast⟩ := hsay.resolve_right (fun h => by rw [h93] at h; exact absurd h.1 (by decide))
   refine wp_skip (hK21 _ _ (cSR fun K23 hK23=>?_));clear hK21
   refine sLr Tryz.underlying29 rfl ?si F rfl rfl rfl (H.whole 7 rfl) ?_
   case si => exact info_size Tryz.sizeOf29
   clear F a; intro a F
   refine sCall Tryz.call26 F rfl rfl rfl ((by have := start_any _ p _ (hP0.own H) (hN.own H); rw [eS, eE] at this; exact this)) ?_
   rintro e w ⟨rfl, hb⟩
   replace H := H.grow hb; clear hb
   refine ⟨_, rfl, ?_⟩
   clear F a; intro a F
   refine sMv F rfl rfl rfl (qExt rfl rfl rfl rfl (qExt rfl rfl rfl rfl ?_));clear F a;intro a F
   refine sAlB H zB70 F rfl rfl ?_
   clear F a H; intro b20 a w F H
   refine sSrB H 0 Tryz.sizeOf70 F rfl rfl rfl rfl (by omega) ?_
   clear H; intro w H
   rw [lay_all] at H
   refine sAs F rfl rfl rfl (qNK hK23 ?_);clear hK23;clear F a;intro a F
   refine cSeq (fun K24 hK24 => ?_)
   refine cSR fun K25 hK25=>sMv F rfl rfl rfl (qLen Tryz.underlying58 rfl rfl rfl (qMv rfl rfl rfl (qNK hK25 ?_)));clear hK25;clear F a;intro a F
   refine wp_block ?_
   refine cLoopR [4, 9, 10, 13, 14, 17, 18, 20, 70, 71, 72, 110, 111] (fun m ups w => ∃ (t : Nat) (s : By), m = (wayL p (1 + u % 3) x 600).length - t ∧ ups = [(112, .int .i64 ((t : Nat) : Int))] ∧ t ≤ (wayL p (1 + u % 3) x 600).length ∧ RightM p (1 + u % 3) s ∧ RunM p (1 + u % 3) s ((wayL p (1 + u % 3) x 600).drop t) z ∧ Own w0 none w (.blk b20 (bs 142 s) 70 :: .rws 86 3 (.slice AW (wayL p (1 + u % 3) x 600).length kW) ((wayL p (1 + u % 3) x 600).map Pss.cells) :: .blk b17 (bs 38 x) 47 :: [.rws 47 38 (.slice (some ⟨bX, oX, none⟩) (f :: finalP z0 :: l1.take 8).length cX) ((f :: finalP z0 :: l1.take 8).map (bs 38)), .rws 86 3 (.slice AO r.length cO) (r.map Pss.cells), .blk b13 (bs 38 (finalP z0)) 47, .rws 47 38 (.slice A1 l1.length k1) (l1.map (bs 38)), .blk b4 ([.string p.name, .slice LA p.locs.length LC, .slice IA p.init.length IC, .slice TA p.threads.length TC, Go.Proofs.YtbgnapmaimkpkaaGreatDoor.b8 p.ask, c1, c2, c3, c4, c5] : List Value) 29])) F ((wayL p (1 + u % 3) x 600).length) [(112, .int .i64 ((0 : Nat) : Int))] (by repeat (first | exact SubR.nil | (apply SubR.cons; · rfl))) ?_ ?_ ?_
   · exact ⟨0, startP p, rfl, rfl, Nat.zero_le _, hr0, hway, H.sel [0, 2, 3, 4, 5, 6, 7, 8] rfl rfl⟩
   · repeat (first | exact trivial | refine Le.cons rfl ?_)
   clear F
   clear H
   intro m ups a w hI F
   obtain ⟨t, s, rfl, rfl, ht, hsr, hrest, H⟩ := hI
   have hwl := H.rwsLen 1 rfl
   simp only [maxLen, List.length_map] at hwl
   refine cSR fun K26 hK26=>sBin F rfl rfl rfl rfl bLss (qNK hK26 ?_);clear hK26;clear F a;intro a F
   refine cSeq (fun K27 hK27 => ?_)
   refine cIf F rfl (fun h113 => ?_) (fun h113 => ?_)
   ·
    replace h113 := of_decide_eq_true h113
    have htl : t < (wayL p (1 + u % 3) x 600).length := by omega
    obtain ⟨y, hy⟩ : ∃ y, (wayL p (1 + u % 3) x 600)[t]? = some y := ⟨_, List.getElem?_eq_getElem htl⟩
    rw [drop_next hy] at hrest
    obtain ⟨hym, hrest'⟩ := hrest.uncons
    have hyr := moves_t4w hsr hym
    have eS1 : moveSM p (1 + u % 3) s y = stepM p (1 + u % 3) s y := if_pos hyr
    have eE1 : moveEM p (1 + u % 3) s y = 0 := if_pos hyr
    obtain ⟨bW, oW, rfl, _⟩ := H.rowsAt 1 rfl (rowX _) (by decide) _ _ (by rw [List.getElem?_map, hy]; rfl)
    refine wp_skip (hK27 _ _ ?_);clear hK27
    refine cSeq (fun K28 hK28 => ?_)
    refine wp_block ?_
    refine cSR fun K29 hK29=>?_
    refine sIx Tryz.underlying58 Tryz.sizeOf86 F rfl rfl rfl rfl ?_ ?_
    focus (first | omega | decide | (simp; omega))
    clear F a; intro a F
    refine sLr Tryz.underlying86 rfl ?si F rfl rfl rfl (by obtain ⟨b', o', h1, h2⟩ := H.rowsAt 1 rfl (rowX _) (by decide) _ _ (by rw [List.getElem?_map, hy]; rfl); cases h1; exact h2) ?_
    case si => exact info_size Tryz.sizeOf86
    clear F a; intro a F
    refine sAl H Tryz.zeroValue86 F rfl rfl ?_
    clear F a H; intro b23 a w F H
    refine sSr H 0 ?si F rfl rfl rfl ?s1 rfl rfl ?_
    case si => exact info_size Tryz.sizeOf86
    case s1 => first | rfl | (repeat (first | exact one_nil | (apply one_cons; · first | rfl | assumption | exact one_bif rfl rfl)))
    clear H; intro w H
    refine nK hK29 (cSR fun K30 hK30=>sAs F rfl rfl rfl (qNK hK30 (qSR fun K31 hK31=>?_)));clear hK29 hK30;clear F a;intro a F
    refine sLr Tryz.underlying29 rfl ?si F rfl rfl rfl (H.whole 8 rfl) ?_
    case si => exact info_size Tryz.sizeOf29
    clear F a; intro a F
    refine sMv F rfl rfl rfl (qLrB Tryz.underlying70 rfl Tryz.sizeOf70 rfl rfl rfl (H.whole 1 rfl) ?_);clear F a;intro a F
    refine sLr Tryz.underlying86 rfl ?si F rfl rfl rfl (H.whole 0 rfl) ?_
    case si => exact info_size Tryz.sizeOf86
    clear F a; intro a F
    refine sCall Tryz.call28 F rfl rfl rfl ((by have := moveM_any _ p _ (hP0.own H) (hN.own H) (1 + u % 3) s y; rw [eS1] at this; exact this)) ?_
    rintro e w ⟨rfl, hb⟩
    replace H := H.grow hb; clear hb
    refine ⟨_, rfl, ?_⟩
    clear F a; intro a F
    refine sMv F rfl rfl rfl (qExt rfl rfl rfl rfl (qExt rfl rfl rfl rfl ?_));clear F a;intro a F
    refine sSrB H 1 Tryz.sizeOf70 F rfl rfl rfl rfl (by omega) ?_
    clear H; intro w H
    rw [lay_all] at H
    refine sAs F rfl rfl rfl (qNK hK31 (qSR fun K32 hK32=>qMv rfl rfl rfl (qBin rfl rfl rfl rfl bNeq (qNK hK32 ?_))));clear hK31 hK32;clear F a;intro a F
    refine cIf F rfl (fun h125 => ?_) (fun h125 => ?_)
    ·
     replace h125 := bneT h125
     exact absurd eE1 h125
    replace h125 := bneF h125
    refine wp_skip (hK28 _ _ (cReg ?_));clear hK28
    refine sBin F rfl rfl rfl rfl (bAddN (j := 1) ?_) ?_
    focus omega
    clear F a; intro a F
    refine sMv F rfl rfl rfl ?_;clear F a;intro a F
    refine sNil ?_
    exact ⟨_, by omega, _, ⟨t + 1, stepM p (1 + u % 3) s y, rfl, rfl, by omega, (went hsr hym).right, hrest', H.sel [1, 2, 3, 4, 5, 6, 7, 8] rfl rfl⟩, F.to (by repeat (first | exact trivial | refine Le.cons rfl ?_))⟩
   replace h113 := of_decide_eq_false h113
   obtain rfl : t = (wayL p (1 + u % 3) x 600).length := by omega
   rw [List.drop_length] at hrest
   obtain rfl := hrest.nil
   have hO : (rightM p (1 + u % 3) z && (movesM p (1 + u % 3) z).length == 0) = true := by rw [rightM_iff.2 hzr, hzm]; rfl
   refine wp_exit ?_
   refine hK24 _ _ ?_;clear hK24
   refine cSeq (fun K33 hK33 => ?_)
   refine cRegRO (by kernel_rfl) H ?_
   replace H := H.drew
   refine eTake (k := 0) (i := 0) rfl (by kernel_rfl) F rfl rfl rfl rfl (fun w H => rLr Tryz.underlying29 rfl ?si F rfl (H.whole 7 rfl)) (H.sel [0, 1, 2, 3, 4, 5, 6, 7] rfl rfl) (fun _ _ _ h => h) ?_
   case si => exact info_size Tryz.sizeOf29
   clear F a; intro a F
   refine eTF 1 rfl (by kernel_rfl) F rfl rfl rfl (fun w=>rMv F rfl) H qq0 (qT 2 rfl (by kernel_rfl) rfl rfl rfl rfl (fun a F w H=>rLrB Tryz.underlying70 rfl Tryz.sizeOf70 F rfl (H.whole 0 rfl)) H qq0 ?_);clear F a;intro a F
   refine eOne (k := 3) (i := 3) rfl (by kernel_rfl) F rfl (oCall Tryz.call32 F rfl rfl (overM_any _ p _ (hP0.own H) (hN.own H) (1 + u % 3) z) ?_)
   rintro e w ⟨rfl, hb⟩
   replace H := H.grow hb; clear hb
   refine ⟨_, rfl, ?_⟩
   clear F a; intro a F
   refine ePartO (by kernel_rfl) H ?_
   refine eTF 4 rfl (by kernel_rfl) F rfl rfl rfl (fun w=>rNot F rfl) H qq0 (qTF 5 rfl (by kernel_rfl) rfl rfl rfl (fun a F w=>rMv F rfl) H qq0 ?_);clear F a;intro a F
   refine F.split 132 rfl ?_ ?_ <;> (clear F; intro h132 F)
   ·
    replace h132 := notT h132
    exact notEq hO h132
   replace h132 := notF h132
   refine eT 6 rfl (by kernel_rfl) F rfl rfl rfl rfl (fun w H=>rLrB Tryz.underlying70 rfl Tryz.sizeOf70 F rfl (H.whole 0 rfl)) H qq0 (qT 8 rfl (by kernel_rfl) rfl rfl rfl rfl (fun a F w H=>rLrB Tryz.underlying47 rfl Tryz.sizeOf47 F rfl (H.whole 2 rfl)) H qq0 ?_);clear F a;intro a F
   refine eOne (k := 8) (i := 7) rfl (by kernel_rfl) F rfl (oCall Tryz.call29 F rfl rfl (final_any z _) ?_)
   rintro e w ⟨rfl, hb⟩
   replace H := H.grow hb; clear hb
   refine ⟨_, rfl, ?_⟩
   clear F a; intro a F
   refine eKeep (H.sel [0, 1, 2, 3, 4, 5, 6, 7] rfl rfl) ?_
   refine eTF 9 rfl (by kernel_rfl) F rfl rfl rfl (fun w=>rBin F rfl rfl (bNeY eT47 gT47 rfl)) (H.sel [0, 1, 2, 3, 4, 5, 6, 7] rfl rfl) qq0 (qTF 10 rfl (by kernel_rfl) rfl rfl rfl (fun a F w=>rPk F rfl rfl) (H.sel [0, 1, 2, 3, 4, 5, 6, 7] rfl rfl) qq0 (qTF 11 rfl (by kernel_rfl) rfl rfl rfl (fun a F w=>rMv F rfl) (H.sel [0, 1, 2, 3, 4, 5, 6, 7] rfl rfl) qq0 ?_));clear F a;intro a F
   refine F.split 138 rfl ?_ ?_ <;> (clear F; intro h138 F)
   ·
    replace h138 := notT h138
    exact notEq hzf h138
   replace h138 := notF h138
   refine eT 12 rfl (by kernel_rfl) F rfl rfl rfl rfl (fun w H=>rLrB Tryz.underlying47 rfl Tryz.sizeOf47 F rfl (H.whole 2 rfl)) (H.sel [0, 1, 2, 3, 4, 5, 6, 7] rfl rfl) qq0 (qT 13 rfl (by kernel_rfl) rfl rfl rfl rfl (fun a F w H=>rLrB Tryz.underlying47 rfl Tryz.sizeOf47 F rfl (H.whole 5 rfl)) (H.sel [0, 1, 2, 3, 4, 5, 6, 7] rfl rfl) qq0 (qTF 14 rfl (by kernel_rfl) rfl rfl rfl (fun a F w=>rBin F rfl rfl (bEqY eT47 gT47 rfl)) (H.sel [0, 1, 2, 3, 4, 5, 6, 7] rfl rfl) qq0 (qTF 15 rfl (by kernel_rfl) rfl rfl rfl (fun a F w=>rMv F rfl) (H.sel [0, 1, 2, 3, 4, 5, 6, 7] rfl rfl) qq0 ?_)));clear F a;intro a F
   refine F.split 142 rfl ?_ ?_ <;> (clear F; intro h142 F)
   ·
    refine eTF 16 rfl (by kernel_rfl) F rfl rfl rfl (fun w=>rMv F rfl) (H.sel [0, 1, 2, 3, 4, 5, 6, 7] rfl rfl) qq0 (qT 17 rfl (by kernel_rfl) rfl rfl rfl rfl (fun a F w H=>rLen Tryz.underlying58 F rfl) (H.sel [0, 1, 2, 3, 4, 5, 6, 7] rfl rfl) qq0 (qTF 18 rfl (by kernel_rfl) rfl rfl rfl (fun a F w=>rMv F rfl) (H.sel [0, 1, 2, 3, 4, 5, 6, 7] rfl rfl) qq0 (qT 19 rfl (by kernel_rfl) rfl rfl rfl rfl (fun a F w H=>rLen Tryz.underlying58 F rfl) (H.sel [0, 1, 2, 3, 4, 5, 6, 7] rfl rfl) qq0 (qTF 20 rfl (by kernel_rfl) rfl rfl rfl (fun a F w=>rBin F rfl rfl bGtr) (H.sel [0, 1, 2, 3, 4, 5, 6, 7] rfl rfl) qq0 (qTF 21 rfl (by kernel_rfl) rfl rfl rfl (fun a F w=>rPk F rfl rfl) (H.sel [0, 1, 2, 3, 4, 5, 6, 7] rfl rfl) qq0 (qTF 22 rfl (by kernel_rfl) rfl rfl rfl (fun a F w=>rPk F rfl rfl) (H.sel [0, 1, 2, 3, 4, 5, 6, 7] rfl rfl) qq0 ?_))))));clear F a;intro a F
    refine eNil (k := 23) (by kernel_rfl) ?_
    refine hK33 _ _ ?_;clear hK33
    refine cIf F rfl (fun h149 => ?_) (fun h149 => ?_)
    ·
     replace h149 := of_decide_eq_true h149
     exact absurd (hleast r z0 hruns hz (toL_eq.1 (toL_eq.2 h142).symm)) (by rw [eO] at h149; omega)
    replace h149 := of_decide_eq_false h149
    refine wp_skip (hK14 _ _ (cReg ?_));clear hK14
    refine sBin F rfl rfl rfl rfl (bAddN (j := 1) ?_) ?_
    focus omega
    clear F a; intro a F
    refine sMv F rfl rfl rfl ?_;clear F a;intro a F
    refine sNil ?_
    exact ⟨_, by omega, _, ⟨j + 1, rfl, rfl, by omega, H.sel [3, 4, 5, 6, 7] rfl rfl⟩, F.to (by repeat (first | exact trivial | refine Le.cons rfl ?_))⟩
   refine eSF 16 rfl (by kernel_rfl) F rfl rfl rfl (H.sel [0, 1, 2, 3, 4, 5, 6, 7] rfl rfl) qq0 (qSF 17 rfl (by kernel_rfl) rfl rfl rfl (H.sel [0, 1, 2, 3, 4, 5, 6, 7] rfl rfl) qq0 (qSF 18 rfl (by kernel_rfl) rfl rfl rfl (H.sel [0, 1, 2, 3, 4, 5, 6, 7] rfl rfl) qq0 (qSF 19 rfl (by kernel_rfl) rfl rfl rfl (H.sel [0, 1, 2, 3, 4, 5, 6, 7] rfl rfl) qq0 (qSF 20 rfl (by kernel_rfl) rfl rfl rfl (H.sel [0, 1, 2, 3, 4, 5, 6, 7] rfl rfl) qq0 (qTF 21 rfl (by kernel_rfl) rfl rfl rfl (fun a F w=>rPk F rfl rfl) (H.sel [0, 1, 2, 3, 4, 5, 6, 7] rfl rfl) qq0 (qTF 22 rfl (by kernel_rfl) rfl rfl rfl (fun a F w=>rPk F rfl rfl) (H.sel [0, 1, 2, 3, 4, 5, 6, 7] rfl rfl) qq0 ?_))))));clear F a;intro a F
   refine eNil (k := 23) (by kernel_rfl) ?_
   refine hK33 _ _ ?_;clear hK33
   refine cIfF F rfl ?_
   refine wp_skip (hK14 _ _ (cReg ?_));clear hK14
   refine sBin F rfl rfl rfl rfl (bAddN (j := 1) ?_) ?_
   focus omega
   clear F a; intro a F
   refine sMv F rfl rfl rfl ?_;clear F a;intro a F
   refine sNil ?_
   exact ⟨_, by omega, _, ⟨j + 1, rfl, rfl, by omega, H.sel [3, 4, 5, 6, 7] rfl rfl⟩, F.to (by repeat (first | exact trivial | refine Le.cons rfl ?_))⟩
  replace h73 := of_decide_eq_false h73
  refine wp_exit ?_
  refine hK10 _ _ (cSR fun K34 hK34=>?_);clear hK10
  refine sCall Tryz.call14 F rfl rfl rfl (awake15_any _ (hN.own H)) ?_
  rintro e w ⟨rfl, hb⟩
  replace H := H.grow hb; clear hb
  refine ⟨_, rfl, ?_⟩
  clear F a; intro a F
  refine sAs F rfl rfl rfl (qNK hK34 ?_);clear hK34;clear F a;intro a F
  refine wp_ret ?_
  refine bRet Tryz.results9 F rfl ?_
  exact ⟨rfl, H.below⟩
end Go.Proofs.YtbgnapmaimkpkaaGreatDoor
