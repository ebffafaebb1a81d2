/-
  WALK2. The law PathAll. Conditions: the slices lie in memory; the tables.
-/
import Derived.Test.YtklpiodciblabaaGreatDoorSqR
set_option linter.unusedSimpArgs false
set_option linter.unusedVariables false
namespace Go.Proofs.YtklpiodciblabaaGreatDoor
open Go.Proofs.Tryz
open Go.RowKit
set_option maxRecDepth 100000
section
variable {P : Program} {l : List Oper} {N : Nat} {a : Act} {env : List (Nat × Value)} {d : Tmp} {ty : TypeId} {pos : String} {af : Array Edge} {g : Option (Nat × Bool)} {w : World} {t : TypeId} {x y : Operand}
theorem bGeqS {u v : ByteArray} : BinR P .geq t x y (.string u) (.string v) (.bool (!(Go.Op.bytesLess u.toList v.toList))) := fun w => by simp [eqGuard, go_sem]
theorem rCvY {s t e : TypeId} {x : Operand} {A : Option Addr} {n c : Nat} {xs : List UInt8} (hs : P.underlying s = some (.slice e)) (he : P.underlying e = some (.int .u8)) (ht : P.underlying t = some .string) (F : Has N a env)
    (hx : ev env x = some (.slice A n c)) (hn : n = xs.length) (hc : RowsAt w A 1 (xs.map fun x => [b8 x])) : (execOp a.eval ⟨some d, .convert s t x, ty, pos, af, g⟩).run P w = .ok (.value (.string ⟨xs.toArray⟩)) w := by
  subst hn
  have h : (convert s t (.slice A xs.length c)).run P w = .ok (.string ⟨xs.toArray⟩) w := by
    rcases Nat.eq_zero_or_pos xs.length with h0 | h0
    · obtain rfl := List.eq_nil_of_length_eq_zero h0
      show (convert s t (.slice A 0 c)).run P w = .ok (.string ⟨#[]⟩) w
      rw [run_convert_bytes_string w s t e A 0 c hs he ht]
      cases A with
      | none => rfl
      | some q =>
        have hl := run_loadCells_list (P := P) w q [] (fun j v hj => by simp at hj)
        simp only [List.length_nil] at hl
        exact run_bytesToString (P := P) w q 0 c [] hl
    · obtain ⟨b, o, rfl, _⟩ := BytesAt.get (w := w) (l := xs) hc (List.getElem?_eq_getElem h0)
      refine run_convert_bytes_back (P := P) w s t e ⟨b, o, none⟩ c xs hs he ht (fun j hj => ?_)
      obtain ⟨b', o', he, hv⟩ := BytesAt.get (w := w) (l := xs) hc (List.getElem?_eq_getElem hj)
      cases he
      rw [Addr.add_mid];rw [Nat.mul_one] at hv
      exact hv
  simp only [execOp, F.eval hx, Sem.run_bind, h, Result.andThen_ok]
  rfl
theorem oCvY {Q : Exit → Act → World → Prop} {Kt : Act → World → Prop} {s t e : TypeId} {x : Operand} {A : Option Addr} {n c : Nat} {xs : List UInt8} (hs : P.underlying s = some (.slice e)) (he : P.underlying e = some (.int .u8)) (ht : P.underlying t = some .string) (F : Has N a env) (hN : Nat.blt d N = true)
    (hx : ev env x = some (.slice A n c)) (hn : n = xs.length) (hc : RowsAt w A 1 (xs.map fun x => [b8 x])) (K : ∀ a, Has N a ((d, .string ⟨xs.toArray⟩) :: env) → Kt a w) : (Oper.mk (some d) (.convert s t x) ty pos af g).wp P a w Kt Q :=
  oV F rfl hN (rCvY hs he ht F hx hn hc) K
end
theorem byte_at {w : World} {A : Option Addr} {l : List UInt8} (h : RowsAt w A 1 (l.map fun x => [b8 x])) {j : Nat} {x : UInt8} (hj : l[j]? = some x) : ∃ b off, A = some ⟨b, off, none⟩ ∧ w.cell? ⟨b, off + j * 1, none⟩ = some (b8 x) := BytesAt.get (w := w) (l := l) h hj
theorem in_succ {v y : UInt8} {d : List UInt8} {t : Nat} (hy : d[t]? = some y) : (decide (v ∈ d.take (t + 1))) = (decide (v ∈ d.take t) || v == y) := by
  rw [List.take_add_one, hy]
  by_cases h1 : v ∈ d.take t
  · rw [decide_eq_true (List.mem_append_left _ h1), decide_eq_true h1]; rfl
  · by_cases h2 : v = y
    · subst h2; rw [decide_eq_true (List.mem_append_right _ (by simp)), decide_eq_false h1, beq_self_eq_true]; rfl
    · rw [decide_eq_false (by simp [h1, h2]), decide_eq_false h1, beq_eq_false_iff_ne.2 h2]; rfl
def cntS (ps : List PlP) (p : PathP) (t : Nat) : Nat := ((ps.take t).filter fun q => sameP q.path p).length
theorem cntS_T {ps : List PlP} {p : PathP} {t : Nat} {q : PlP} (hq : ps[t]? = some q) (h : sameP q.path p = true) : cntS ps p (t + 1) = cntS ps p t + 1 := by
  unfold cntS; rw [List.take_add_one, hq, List.filter_append]; simp [h]
theorem cntS_F {ps : List PlP} {p : PathP} {t : Nat} {q : PlP} (hq : ps[t]? = some q) (h : sameP q.path p = false) : cntS ps p (t + 1) = cntS ps p t := by
  unfold cntS; rw [List.take_add_one, hq, List.filter_append]; simp [h]
theorem cntS_le (ps : List PlP) (p : PathP) (t : Nat) : cntS ps p t ≤ t := Nat.le_trans (List.length_filter_le _ _) (by rw [List.length_take]; omega)
theorem cntS_all (ps : List PlP) (p : PathP) : cntS ps p ps.length = (ps.filter fun q => sameP q.path p).length := by unfold cntS; rw [List.take_length]
theorem take4_len (l : List UInt8) : (l.take 4).length = min l.length 4 := by rw [List.length_take]; omega
theorem dist_len {a : List UInt8} : (distL a).length ≤ a.length := by
  have h : ∀ (n : Nat) (r : List UInt8), (∀ x, x ∈ r) → True := fun _ _ _ => trivial
  have hk : ∀ (m b : List UInt8), m.Nodup → (∀ x ∈ m, x ∈ b) → m.length ≤ b.length := by
    intro m
    induction m with
    | nil => intro b _ _; exact Nat.zero_le _
    | cons x m ih =>
      intro b hn hs
      obtain ⟨h1, h2⟩ := List.nodup_cons.1 hn
      have hx := hs x List.mem_cons_self
      have := ih (b.erase x) h2 (fun y hy => (List.mem_erase_of_ne (fun e => h1 (by rw [← e]; exact hy))).2 (hs y (List.mem_cons_of_mem _ hy)))
      rw [List.length_erase_of_mem hx] at this
      have : 0 < b.length := List.length_pos_of_mem hx
      rw [List.length_cons]; omega
  exact hk _ _ ((dist_inc a).imp fun {x y} h e => by subst e; omega) fun x hx => (dist_mem a x).1 hx
theorem few_facts {l : List Ins} (h : fewP l = true) : l.length ≤ 12 ∧ rcL l 0 ≤ 4 := by
  simpa [fewP] using h
theorem pathsR_few {l : List Ins} {dom : List UInt8} (hl : threadOk 6 l = true) (h : fewP l = true) : pathsR l (dom.take 4) 256 = ((endsL l (distL (dom.take 4))).map runPath, 0) := by
  refine paths_ok (by decide) (by decide) hl ?_
  have := ends_few (l := l) (few_facts h).2 (dom := distL (dom.take 4)) (Nat.le_trans dist_len (by rw [take4_len]; omega))
  omega
set_option maxHeartbeats 16000000 in
theorem pathAll_any (A : Option Addr) (C : Nat) (l : List Ins) (DA : Option Addr) (DC : Nat) (dom : List UInt8) (BA : Option Addr) (BC : Nat) (byl : List UInt8) (w0 : World) (hA : RowsAt w0 A 10 (l.map Ins.cells)) (hn : l.length ≤ 9223372036854775807) (hD : RowsAt w0 DA 1 (dom.map fun x => [b8 x])) (hdc : dom.length ≤ DC) (hdn : dom.length ≤ 140737488351232) (hB : RowsAt w0 BA 1 (byl.map fun x => [b8 x])) (hbn : byl.length ≤ 140737488351232) (hN : NeedsAt w0) (hT : TabAt w0) :
    Calls Tryz.prog 10 #[.slice A l.length C, .slice DA dom.length DC, .slice BA byl.length BC] w0 fun e w' => e = .returned (.bool true) ∧ Below w0.heap.size w0 w' := by
  have H := Own.start w0 none
  obtain ⟨d4, hd4⟩ : ∃ d4, d4 = dom.take 4 := ⟨_, rfl⟩
  have hd4l : d4.length = min dom.length 4 := by rw [hd4]; exact take4_len dom
  have hD4 : RowsAt w0 DA 1 (d4.map fun x => [b8 x]) := by rw [hd4]; exact rows_take8 hD 4
  have hlt4 : d4.length ≤ 4 := by omega
  refine enterF func10 rfl ntmps10 rfl (fun a F => ?_);refine cSR fun K1 hK1=>sAs F rfl rfl rfl (qNK hK1 (qSR fun K2 hK2=>qMv rfl rfl rfl (qMv rfl rfl rfl (qLen underlying23 rfl rfl rfl (qMinN (j := 4) rfl rfl rfl rfl ?_)))));clear hK1;clear F a;intro a F
  refine sSlH underlying23 (fun w => ⟨_, sizeOf5 w⟩) F rfl rfl rfl rfl ?_ ?_
  focus omega
  clear F a; intro a F;refine sAs F rfl rfl rfl (qNK hK2 ?_);clear hK2;clear F a;intro a F;refine cSeq (fun K3 hK3 => ?_);refine cSR fun K4 hK4=>sMv F rfl rfl rfl ?_;clear F a;intro a F;refine sCall call14 F rfl rfl rfl (Few_any A C l _ (hA.own H) hn) ?_;rintro e w ⟨rfl, hb⟩;replace H := H.grow hb; clear hb;refine ⟨_, rfl, ?_⟩;clear F a; intro a F;refine sNot F rfl rfl rfl (qNK hK4 ?_);clear hK4;clear F a;intro a F
  refine cIf F rfl (fun h33 => ?_) (fun h33 => ?_)
  ·
   replace h33 := notT h33;refine cSR fun K5 hK5=>?_;refine sCall call12 F rfl rfl rfl (awake8_any _ (hN.own H) (hT.own H)) ?_;rintro e w ⟨rfl, hb⟩;replace H := H.grow hb; clear hb;refine ⟨_, rfl, ?_⟩;clear F a; intro a F;refine sAs F rfl rfl rfl (qNK hK5 ?_);clear hK5;clear F a;intro a F;refine wp_ret ?_;simp only [Exit.then];refine bRet results10 F rfl ?_
   first | exact ⟨rfl, H.below⟩ | exact ⟨rfl, (H1.grow H.below).below⟩
  replace h33 := notF h33
  have hfw : fewP l = true := h33
  obtain ⟨hl12, hrc⟩ := few_facts hfw
  refine wp_skip (hK3 _ _ (cSR fun K6 hK6=>sMv F rfl rfl rfl (qMv rfl rfl rfl ?_)));clear hK3;clear F a;intro a F;refine sCall call17 F rfl rfl rfl (Paths_n A C l.length l DA DC (min dom.length 4) d4 256 _ (hA.own H) rfl hn (RowsAt.own hD4 H) hd4l.symm (by omega) (hN.own H) (hT.own H)) ?_;rintro e w ⟨ps, LA, LC, hps, rfl, H2⟩;replace H := H.join H2
  clear H2
  obtain ⟨W1, rfl⟩ : ∃ W1, W1 = w := ⟨_, rfl⟩
  have H1 := H.front (xs := _ :: ps.flatMap PlP.res)
  have hLP := H1.rowsAt 0 rfl pl12 (by omega)
  have hPl := fun (i : Nat) (q : PlP) (hq : ps[i]? = some q) (hs : smallP q.path = true) => pl_at H1 hq hs
  replace hA := hA.own H1
  replace hD4 := RowsAt.own hD4 H1
  replace hB := RowsAt.own hB H1
  replace hN := hN.own H1
  replace hT := hT.own H1
  replace H := Own.start W1 none
  refine ⟨_, rfl, ?_⟩;clear F a; intro a F;refine sMv F rfl rfl rfl (qExt rfl rfl rfl rfl (qExt rfl rfl rfl rfl (qAs rfl rfl rfl (qAs rfl rfl rfl (qNK hK6 ?_)))));clear hK6;clear F a;intro a F;refine cSeq (fun K7 hK7 => ?_);refine cSR fun K8 hK8=>sMv F rfl rfl rfl ?_;clear F a;intro a F;refine sCall call26 F rfl rfl rfl (thread_any A C l 6 _ (hA.own H) (hN.own H) hn) ?_;rintro e w ⟨rfl, hb⟩;replace H := H.grow hb; clear hb;refine ⟨_, rfl, ?_⟩;clear F a; intro a F;refine sNot F rfl rfl rfl (qNK hK8 ?_);clear hK8;clear F a;intro a F
  refine cIf F rfl (fun h43 => ?_) (fun h43 => ?_)
  ·
   replace h43 := notT h43
   have hpb := paths_bad (l := l) (dom := d4) (most := 256) (.inr (.inr h43))
   have hpl : ps.length = 0 := by have := congrArg List.length hps; rw [hpb] at this; simpa using this
   refine cSR fun K9 hK9=>sMv F rfl rfl rfl (qBin rfl rfl rfl rfl bEql (qMv rfl rfl rfl ?_));clear F a;intro a F
   refine F.split 46 rfl ?_ ?_ <;> (clear F; intro h46 F)
   ·
    replace h46 := beqT h46;refine sMv F rfl rfl rfl (qLen underlying52 rfl rfl rfl (qBin rfl rfl rfl rfl bEql (qPk rfl rfl rfl rfl (qMv rfl rfl rfl ?_))));clear F a;intro a F
    refine F.split 51 rfl ?_ ?_ <;> (clear F; intro h51 F)
    ·
     replace h51 := beqT h51;refine sCall call12 F rfl rfl rfl (awake8_any _ (hN.own H) (hT.own H)) ?_;rintro e w ⟨rfl, hb⟩;replace H := H.grow hb; clear hb;refine ⟨_, rfl, ?_⟩;clear F a; intro a F;refine sPk F rfl rfl rfl rfl (qAs rfl rfl rfl (qNK hK9 ?_));clear hK9;clear F a;intro a F;refine wp_ret ?_;simp only [Exit.then];refine bRet results10 F rfl ?_
     first | exact ⟨rfl, H.below⟩ | exact ⟨rfl, (H1.grow H.below).below⟩
    replace h51 := beqF h51
    omega
   replace h46 := beqF h46
   exact absurd (by rw [hpb]; rfl) h46
  replace h43 := notF h43
  have hl : threadOk 6 l = true := h43
  have hpk : pathsR l d4 256 = ((endsL l (distL d4)).map runPath, 0) := by rw [hd4]; exact pathsR_few hl hfw
  rw [hpk] at hps
  have hps : ps.map PlP.path = (endsL l (distL d4)).map runPath := hps
  have hpn : ps.length ≤ 256 := by
    have h1 := congrArg List.length hps
    rw [List.length_map, List.length_map] at h1
    have := ends_few (l := l) hrc (dom := distL d4) (Nat.le_trans dist_len hlt4)
    omega
  refine wp_skip (hK7 _ _ ?_);clear hK7;refine cSeq (fun K10 hK10 => ?_);refine cSR fun K11 hK11=>sMv F rfl rfl rfl (qBin rfl rfl rfl rfl bNeq (qNK hK11 ?_));clear hK11;clear F a;intro a F
  refine cIf F rfl (fun h55 => ?_) (fun h55 => ?_)
  ·
   replace h55 := bneT h55
   exact absurd (by rw [hpk]; rfl) h55
  replace h55 := bneF h55;refine wp_skip (hK10 _ _ ?_);clear hK10;refine cSeq (fun K12 hK12 => ?_);refine cSR fun K13 hK13=>sMv F rfl rfl rfl (qLen underlying52 rfl rfl rfl (qMv rfl rfl rfl (qNK hK13 ?_)));clear hK13;clear F a;intro a F;refine wp_block ?_
  refine cLoopR [0, 1, 2, 7, 56, 57] (fun m ups w => ∃ i : Nat, m = ps.length - i ∧ ups = [(58, .int .i64 ((i : Nat) : Int))] ∧ i ≤ ps.length ∧ Own W1 none w []) F (ps.length) [(58, .int .i64 ((0 : Nat) : Int))] (by repeat (first | exact SubR.nil | (apply SubR.cons; · rfl))) ?_ ?_ ?_
  · exact ⟨0, rfl, rfl, by omega, H⟩
  · repeat (first | exact trivial | refine Le.cons rfl ?_)
  clear F
  clear H
  intro m ups a w hI F
  obtain ⟨i, rfl, rfl, hi, H⟩ := hI
  refine cSR fun K14 hK14=>sBin F rfl rfl rfl rfl bLss (qNK hK14 ?_);clear hK14;clear F a;intro a F;refine cSeq (fun K15 hK15 => ?_)
  refine cIf F rfl (fun h59 => ?_) (fun h59 => ?_)
  ·
   replace h59 := of_decide_eq_true h59
   have hil : i < ps.length := by omega
   obtain ⟨q, hq⟩ : ∃ q, ps[i]? = some q := ⟨_, List.getElem?_eq_getElem hil⟩
   obtain ⟨z, hz, hqz⟩ := ps_at hps hq
   have hzm := List.mem_of_getElem? hz
   have hqs : smallP q.path = true := by
     obtain ⟨vs, _, hv⟩ := mem_ends.1 hzm
     rw [hqz]; exact small_run hl (hv.inv hl (inv_zero l))
   have hqr : readsL q.path.evs = rdL (evsP z) := by rw [hqz]; rfl
   have hrl : (readsL q.path.evs).length ≤ q.path.evs.length := by have := readsL_le q.path.evs q.path.evs.length; rwa [List.take_length] at this
   have hqn : q.path.evs.length ≤ 1000000 := (hPl i q hq hqs).evsN
   obtain ⟨bL, oL, rfl, hRL⟩ := hLP i q.cells (by rw [List.getElem?_map, hq]; rfl)
   refine wp_skip (hK15 _ _ ?_);clear hK15;refine cSeq (fun K16 hK16 => ?_);refine wp_block ?_;refine cSR fun K17 hK17=>sMv F rfl rfl rfl ?_;clear F a;intro a F
   refine sIx underlying52 sizeOf28 F rfl rfl rfl rfl ?_ ?_
   focus exact hil
   clear F a; intro a F
   refine sLr underlying28 rfl ?si F rfl rfl rfl (H.argR hRL) ?_
   case si => exact info_size sizeOf28
   clear F a; intro a F;refine sAl H zeroValue28 F rfl rfl ?_;clear F a H; intro b10 a w F H;refine sAs F rfl rfl rfl ?_;clear F a;intro a F
   refine sSr H 0 ?si F rfl rfl rfl ?s1 rfl rfl ?_
   case si => exact info_size sizeOf28
   case s1 => first | rfl | (repeat (first | exact one_nil | (apply one_cons; · first | rfl | assumption | exact one_bif rfl rfl)))
   clear H; intro w H;refine nK hK17 (cSR fun K18 hK18=>?_);clear hK17
   refine sLr underlying28 rfl ?si F rfl rfl rfl (H.whole 0 rfl) ?_
   case si => exact info_size sizeOf28
   clear F a; intro a F;refine sCall call23 F rfl rfl rfl (Reads_any q _ ((hPl i q hq hqs).own H).evs hqn) ?_;rintro e w ⟨A7, c7, rfl, H2⟩;replace H := H.join H2; clear H2;refine ⟨_, rfl, ?_⟩;clear F a; intro a F;refine sAs F rfl rfl rfl (qNK hK18 ?_);clear hK18;clear F a;intro a F;refine cSeq (fun K19 hK19 => ?_);refine cSeq (fun K20 hK20 => ?_);refine cRegRO (by kernel_rfl) H ?_;replace H := H.drew;refine eTF 0 rfl (by kernel_rfl) F rfl rfl rfl (fun w=>rMv F rfl) H qq0 (qTF 1 rfl (by kernel_rfl) rfl rfl rfl (fun a F w=>rBin F rfl rfl bGtr) H qq0 (qTF 2 rfl (by kernel_rfl) rfl rfl rfl (fun a F w=>rMv F rfl) H qq0 ?_));clear F a;intro a F
   refine F.split 67 rfl ?_ ?_ <;> (clear F; intro h67 F)
   ·
    replace h67 := of_decide_eq_true h67
    have hi1 : i - 1 < ps.length := by omega
    obtain ⟨q0, hq0⟩ : ∃ q0, ps[i - 1]? = some q0 := ⟨_, List.getElem?_eq_getElem hi1⟩
    obtain ⟨z0, hz0, hqz0⟩ := ps_at hps hq0
    have hqs0 : smallP q0.path = true := by
      obtain ⟨vs, _, hv⟩ := mem_ends.1 (List.mem_of_getElem? hz0)
      rw [hqz0]; exact small_run hl (hv.inv hl (inv_zero l))
    have hqr0 : readsL q0.path.evs = rdL (evsP z0) := by rw [hqz0]; rfl
    have hqn0 : q0.path.evs.length ≤ 1000000 := (hPl (i - 1) q0 hq0 hqs0).evsN
    have hRp : World.rangeAt W1 bL (oL + (i - 1) * 12) q0.cells := by
      obtain ⟨b', o', he, hr⟩ := hLP (i - 1) q0.cells (by rw [List.getElem?_map, hq0]; rfl)
      cases he; exact hr
    have hls := ends_next hz0 hz (by omega)
    refine eTF 3 rfl (by kernel_rfl) F rfl rfl rfl (fun w=>rMv F rfl) H qq0 (qTF 4 rfl (by kernel_rfl) rfl rfl rfl (fun a F w=>rMv F rfl) H qq0 ?_);clear F a;intro a F
    refine eTakeF (k := 5) (i := 5) rfl (by kernel_rfl) F rfl rfl rfl (fun w => rBin F rfl rfl (bSubN (j := 1) ?_ ?_)) H (fun _ _ _ h => h) ?_
    focus omega
    focus omega
    clear F a; intro a F
    refine eTakeF (k := 6) (i := 6) rfl (by kernel_rfl) F rfl rfl rfl (fun w => rIx underlying52 sizeOf28 F rfl rfl ?_) H (fun _ _ _ h => h) ?_
    focus exact hi1
    clear F a; intro a F
    refine eTake (k := 7) (i := 7) rfl (by kernel_rfl) F rfl rfl rfl rfl (fun w H => rLr underlying28 rfl ?si F rfl (H.argR hRp)) H (fun _ _ _ h => h) ?_
    case si => exact info_size sizeOf28
    clear F a; intro a F;refine eTF 10 rfl (by kernel_rfl) F rfl rfl rfl (fun w=>rMv F rfl) H qq0 ?_;clear F a;intro a F
    refine eJoin F H [0, 1, 2, 7, 11, 56, 57, 58] 14 [true, true, true, true, true, true, true, true, true, true, true, true, true, true] (fun rs ups w => ups = [(78, .bool (!(Go.Op.bytesLess (ByteArray.toList ⟨(readsL q0.path.evs).toArray⟩) (ByteArray.toList ⟨(readsL q.path.evs).toArray⟩))))] ∧ Own W1 none w (rs)) (by repeat (first | exact SubR.nil | (apply SubR.cons; · rfl))) ?_ (fun hJ => ?_)
    rotate_left
    ·
     refine eTwo (k := 9) (i := 8) (j := 11) (by kernel_rfl) F rfl rfl rfl rfl ?_ ?_
     ·
      refine oCall call23 F rfl rfl (Reads_any q0 _ ((hPl (i - 1) q0 hq0 hqs0).own H).evs hqn0) ?_;rintro e w ⟨A8, c8, rfl, H2⟩;replace H := H.join H2; clear H2;refine ⟨_, rfl, ?_⟩;clear F a; intro a F;refine eKeep H.tail ?_
      refine eTwo (k := 10) (i := 9) (j := 11) (by kernel_rfl) F rfl rfl rfl rfl ?_ ?_
      ·
       refine oCvY (xs := readsL q0.path.evs) underlying23 underlying5 underlying9 F rfl rfl rfl ((H.rowsAt 0 rfl bRows_one (by omega))) ?_;clear F a;intro a F;refine eKeep H.tail ?_;refine eOne (k := 11) (i := 11) rfl (by kernel_rfl) F rfl (oCvY (xs := readsL q.path.evs) underlying23 underlying5 underlying9 F rfl rfl rfl ((H.rowsAt 1 rfl bRows_one (by omega))) ?_);clear F a; intro a F;refine eKeep H.tail ?_;refine eTF 12 rfl (by kernel_rfl) F rfl rfl rfl (fun w=>rBin F rfl rfl bGeqS) H.tail qq0 (qTF 13 rfl (by kernel_rfl) rfl rfl rfl (fun a F w=>rPk F rfl rfl) H.tail qq0 ?_);clear F a;intro a F;refine eNil (k := 14) (by kernel_rfl) ?_;refine hK20 _ _ ?_;clear hK20
       refine cIf F rfl (fun h78 => ?_) (fun h78 => ?_)
       ·
        rw [bytes_toL, bytes_toL, hqr, hqr0, hls] at h78
        cases h78
       refine wp_skip (hK19 _ _ (cSR fun K21 hK21=>sMv F rfl rfl rfl (qLen underlying23 rfl rfl rfl (qMv rfl rfl rfl (qNK hK21 ?_)))));clear hK19 hK21;clear F a;intro a F;refine wp_block ?_
       refine cLoopR [0, 1, 2, 7, 56, 57, 58, 79, 80] (fun m ups w => ∃ j : Nat, m = (readsL q.path.evs).length - j ∧ ups = [(81, .int .i64 ((j : Nat) : Int))] ∧ j ≤ (readsL q.path.evs).length ∧ Own W1 none w [.rws 5 1 (.slice A7 (readsL q.path.evs).length c7) (bRows (readsL q.path.evs))]) F ((readsL q.path.evs).length) [(81, .int .i64 ((0 : Nat) : Int))] (by repeat (first | exact SubR.nil | (apply SubR.cons; · rfl))) ?_ ?_ ?_
       · exact ⟨0, rfl, rfl, by omega, H.sel [1] rfl rfl⟩
       · repeat (first | exact trivial | refine Le.cons rfl ?_)
       clear F
       clear H
       intro m ups a w hI F
       obtain ⟨j, rfl, rfl, hj, H⟩ := hI
       refine cSR fun K22 hK22=>sBin F rfl rfl rfl rfl bLss (qNK hK22 ?_);clear hK22;clear F a;intro a F;refine cSeq (fun K23 hK23 => ?_)
       refine cIf F rfl (fun h82 => ?_) (fun h82 => ?_)
       ·
        replace h82 := of_decide_eq_true h82
        have hjl : j < (readsL q.path.evs).length := by omega
        obtain ⟨v, hv⟩ : ∃ v, (readsL q.path.evs)[j]? = some v := ⟨_, List.getElem?_eq_getElem hjl⟩
        have hvd : v ∈ d4 := ends_dom hzm v (by rw [← hqr]; exact List.mem_of_getElem? hv)
        obtain ⟨bV, oV, rfl, hcV⟩ := byte_at (H.rowsAt 0 rfl bRows_one (by omega)) hv
        refine wp_skip (hK23 _ _ ?_);clear hK23;refine cSeq (fun K24 hK24 => ?_);refine wp_block ?_;refine cSR fun K25 hK25=>?_
        refine sIx underlying23 sizeOf5 F rfl rfl rfl rfl ?_ ?_
        focus exact hjl
        clear F a; intro a F;refine sLd isAgg5 F rfl rfl rfl hcV (qAs rfl rfl rfl (qNK hK25 (qSR fun K26 hK26=>qAs rfl rfl rfl (qNK hK26 ?_))));clear hK25 hK26;clear F a;intro a F;refine cSeq (fun K27 hK27 => ?_);refine cSR fun K28 hK28=>sMv F rfl rfl rfl (qLen underlying23 rfl rfl rfl (qMv rfl rfl rfl (qNK hK28 ?_)));clear hK28;clear F a;intro a F;refine wp_block ?_
        refine cLoopR [0, 1, 2, 7, 13, 56, 57, 58, 79, 80, 81, 85, 86] (fun m ups w => ∃ t : Nat, m = d4.length - t ∧ ups = [(14, .bool (decide (v ∈ d4.take t))), (87, .int .i64 ((t : Nat) : Int))] ∧ t ≤ d4.length ∧ Own W1 none w [.rws 5 1 (.slice (some ⟨bV, oV, none⟩) (readsL q.path.evs).length c7) (bRows (readsL q.path.evs))]) F (d4.length) [(14, .bool false), (87, .int .i64 ((0 : Nat) : Int))] (by repeat (first | exact SubR.nil | (apply SubR.cons; · rfl))) ?_ ?_ ?_
        · exact ⟨0, rfl, by simp, by omega, H.sel [0] rfl rfl⟩
        · repeat (first | exact trivial | refine Le.cons rfl ?_)
        clear F
        clear H
        intro m ups a w hI F
        obtain ⟨t, rfl, rfl, ht, H⟩ := hI
        refine cSR fun K29 hK29=>sBin F rfl rfl rfl rfl bLss (qNK hK29 ?_);clear hK29;clear F a;intro a F;refine cSeq (fun K30 hK30 => ?_)
        refine cIf F rfl (fun h88 => ?_) (fun h88 => ?_)
        ·
         replace h88 := of_decide_eq_true h88
         have htl : t < d4.length := by omega
         obtain ⟨y, hy⟩ : ∃ y, d4[t]? = some y := ⟨_, List.getElem?_eq_getElem htl⟩
         obtain ⟨bY, oY, rfl, hcY⟩ := byte_at hD4 hy
         refine wp_skip (hK30 _ _ ?_);clear hK30;refine cSeq (fun K31 hK31 => ?_);refine wp_block ?_;refine cSR fun K32 hK32=>?_
         refine sIx underlying23 sizeOf5 F rfl rfl rfl rfl ?_ ?_
         focus omega
         clear F a; intro a F;refine sLd isAgg5 F rfl rfl rfl (H.arg hcY) (qAs rfl rfl rfl (qNK hK32 (qReg (qMv rfl rfl rfl (qMv rfl rfl rfl ?_)))));clear hK32;clear F a;intro a F
         refine F.split 92 rfl ?_ ?_ <;> (clear F; intro h92 F)
         ·
          refine sSk F rfl rfl (qSk rfl rfl (qSk rfl rfl (qPk rfl rfl rfl rfl (qAs rfl rfl rfl (qNK hK31 (qReg ?_))))));clear hK31;clear F a;intro a F
          refine sBin F rfl rfl rfl rfl (bAddN (j := 1) ?_) ?_
          focus omega
          clear F a; intro a F;refine sMv F rfl rfl rfl ?_;clear F a;intro a F;refine sNil ?_
          have e9 := in_succ (v := v) hy
          first
          | (have e8 : decide (v ∈ d4.take (t + 1)) = true := by rw [e9, h92]; rfl
             refine ⟨_, ?_, _, ⟨t + 1, rfl, rfl, by omega, H.sel [0] rfl rfl⟩, by rw [e8]; exact F.to (by repeat (first | exact trivial | refine Le.cons rfl ?_))⟩
             omega)
          | (have e8 : decide (v ∈ d4.take (t + 1)) = (v == y) := by rw [e9, h92]; rfl
             refine ⟨_, ?_, _, ⟨t + 1, rfl, rfl, by omega, H.sel [0] rfl rfl⟩, by rw [e8]; exact F.to (by repeat (first | exact trivial | refine Le.cons rfl ?_))⟩
             omega)
         refine sMv F rfl rfl rfl (qMv rfl rfl rfl (qBin rfl rfl rfl rfl bEqlB (qPk rfl rfl rfl rfl (qAs rfl rfl rfl (qNK hK31 (qReg ?_))))));clear hK31;clear F a;intro a F
         refine sBin F rfl rfl rfl rfl (bAddN (j := 1) ?_) ?_
         focus omega
         clear F a; intro a F;refine sMv F rfl rfl rfl ?_;clear F a;intro a F;refine sNil ?_
         have e9 := in_succ (v := v) hy
         first
         | (have e8 : decide (v ∈ d4.take (t + 1)) = true := by rw [e9, h92]; rfl
            refine ⟨_, ?_, _, ⟨t + 1, rfl, rfl, by omega, H.sel [0] rfl rfl⟩, by rw [e8]; exact F.to (by repeat (first | exact trivial | refine Le.cons rfl ?_))⟩
            omega)
         | (have e8 : decide (v ∈ d4.take (t + 1)) = (v == y) := by rw [e9, h92]; rfl
            refine ⟨_, ?_, _, ⟨t + 1, rfl, rfl, by omega, H.sel [0] rfl rfl⟩, by rw [e8]; exact F.to (by repeat (first | exact trivial | refine Le.cons rfl ?_))⟩
            omega)
        replace h88 := of_decide_eq_false h88
        obtain rfl : t = d4.length := by omega
        refine wp_exit ?_;refine hK27 _ _ (cSR fun K33 hK33=>sMv F rfl rfl rfl (qNot rfl rfl rfl (qNK hK33 ?_)));clear hK27 hK33;clear F a;intro a F
        refine cIf F rfl (fun h99 => ?_) (fun h99 => ?_)
        ·
         replace h99 := notT h99
         exact notEq8 (by rw [List.take_length]; exact decide_eq_true hvd) h99
        replace h99 := notF h99;refine wp_skip (hK24 _ _ (cReg ?_));clear hK24
        refine sBin F rfl rfl rfl rfl (bAddN (j := 1) ?_) ?_
        focus omega
        clear F a; intro a F;refine sMv F rfl rfl rfl ?_;clear F a;intro a F;refine sNil ?_
        refine ⟨_, ?_, _, ⟨j + 1, rfl, rfl, by omega, H.sel [0] rfl rfl⟩, F.to (by repeat (first | exact trivial | refine Le.cons rfl ?_))⟩
        omega
       replace h82 := of_decide_eq_false h82;refine wp_exit ?_;refine hK16 _ _ (cReg ?_);clear hK16
       refine sBin F rfl rfl rfl rfl (bAddN (j := 1) ?_) ?_
       focus omega
       clear F a; intro a F;refine sMv F rfl rfl rfl ?_;clear F a;intro a F;refine sNil ?_
       refine ⟨_, ?_, _, ⟨i + 1, rfl, rfl, by omega, H.sel [] rfl rfl⟩, F.to (by repeat (first | exact trivial | refine Le.cons rfl ?_))⟩
       omega
      refine oCvY (xs := readsL q.path.evs) underlying23 underlying5 underlying9 F rfl rfl rfl ((H.rowsAt 1 rfl bRows_one (by omega))) ?_;clear F a;intro a F;refine eKeep H.tail ?_;refine eOne (k := 11) (i := 9) rfl (by kernel_rfl) F rfl (oCvY (xs := readsL q0.path.evs) underlying23 underlying5 underlying9 F rfl rfl rfl ((H.rowsAt 0 rfl bRows_one (by omega))) ?_);clear F a; intro a F;refine eKeep H.tail ?_;refine eTF 12 rfl (by kernel_rfl) F rfl rfl rfl (fun w=>rBin F rfl rfl bGeqS) H.tail qq0 (qTF 13 rfl (by kernel_rfl) rfl rfl rfl (fun a F w=>rPk F rfl rfl) H.tail qq0 ?_);clear F a;intro a F;refine eNil (k := 14) (by kernel_rfl) ?_;refine hK20 _ _ ?_;clear hK20
      refine cIf F rfl (fun h78 => ?_) (fun h78 => ?_)
      ·
       rw [bytes_toL, bytes_toL, hqr, hqr0, hls] at h78
       cases h78
      refine wp_skip (hK19 _ _ (cSR fun K34 hK34=>sMv F rfl rfl rfl (qLen underlying23 rfl rfl rfl (qMv rfl rfl rfl (qNK hK34 ?_)))));clear hK19 hK34;clear F a;intro a F;refine wp_block ?_
      refine cLoopR [0, 1, 2, 7, 56, 57, 58, 79, 80] (fun m ups w => ∃ j : Nat, m = (readsL q.path.evs).length - j ∧ ups = [(81, .int .i64 ((j : Nat) : Int))] ∧ j ≤ (readsL q.path.evs).length ∧ Own W1 none w [.rws 5 1 (.slice A7 (readsL q.path.evs).length c7) (bRows (readsL q.path.evs))]) F ((readsL q.path.evs).length) [(81, .int .i64 ((0 : Nat) : Int))] (by repeat (first | exact SubR.nil | (apply SubR.cons; · rfl))) ?_ ?_ ?_
      · exact ⟨0, rfl, rfl, by omega, H.sel [1] rfl rfl⟩
      · repeat (first | exact trivial | refine Le.cons rfl ?_)
      clear F
      clear H
      intro m ups a w hI F
      obtain ⟨j, rfl, rfl, hj, H⟩ := hI
      refine cSR fun K35 hK35=>sBin F rfl rfl rfl rfl bLss (qNK hK35 ?_);clear hK35;clear F a;intro a F;refine cSeq (fun K36 hK36 => ?_)
      refine cIf F rfl (fun h82 => ?_) (fun h82 => ?_)
      ·
       replace h82 := of_decide_eq_true h82
       have hjl : j < (readsL q.path.evs).length := by omega
       obtain ⟨v, hv⟩ : ∃ v, (readsL q.path.evs)[j]? = some v := ⟨_, List.getElem?_eq_getElem hjl⟩
       have hvd : v ∈ d4 := ends_dom hzm v (by rw [← hqr]; exact List.mem_of_getElem? hv)
       obtain ⟨bV, oV, rfl, hcV⟩ := byte_at (H.rowsAt 0 rfl bRows_one (by omega)) hv
       refine wp_skip (hK36 _ _ ?_);clear hK36;refine cSeq (fun K37 hK37 => ?_);refine wp_block ?_;refine cSR fun K38 hK38=>?_
       refine sIx underlying23 sizeOf5 F rfl rfl rfl rfl ?_ ?_
       focus exact hjl
       clear F a; intro a F;refine sLd isAgg5 F rfl rfl rfl hcV (qAs rfl rfl rfl (qNK hK38 (qSR fun K39 hK39=>qAs rfl rfl rfl (qNK hK39 ?_))));clear hK38 hK39;clear F a;intro a F;refine cSeq (fun K40 hK40 => ?_);refine cSR fun K41 hK41=>sMv F rfl rfl rfl (qLen underlying23 rfl rfl rfl (qMv rfl rfl rfl (qNK hK41 ?_)));clear hK41;clear F a;intro a F;refine wp_block ?_
       refine cLoopR [0, 1, 2, 7, 13, 56, 57, 58, 79, 80, 81, 85, 86] (fun m ups w => ∃ t : Nat, m = d4.length - t ∧ ups = [(14, .bool (decide (v ∈ d4.take t))), (87, .int .i64 ((t : Nat) : Int))] ∧ t ≤ d4.length ∧ Own W1 none w [.rws 5 1 (.slice (some ⟨bV, oV, none⟩) (readsL q.path.evs).length c7) (bRows (readsL q.path.evs))]) F (d4.length) [(14, .bool false), (87, .int .i64 ((0 : Nat) : Int))] (by repeat (first | exact SubR.nil | (apply SubR.cons; · rfl))) ?_ ?_ ?_
       · exact ⟨0, rfl, by simp, by omega, H.sel [0] rfl rfl⟩
       · repeat (first | exact trivial | refine Le.cons rfl ?_)
       clear F
       clear H
       intro m ups a w hI F
       obtain ⟨t, rfl, rfl, ht, H⟩ := hI
       refine cSR fun K42 hK42=>sBin F rfl rfl rfl rfl bLss (qNK hK42 ?_);clear hK42;clear F a;intro a F;refine cSeq (fun K43 hK43 => ?_)
       refine cIf F rfl (fun h88 => ?_) (fun h88 => ?_)
       ·
        replace h88 := of_decide_eq_true h88
        have htl : t < d4.length := by omega
        obtain ⟨y, hy⟩ : ∃ y, d4[t]? = some y := ⟨_, List.getElem?_eq_getElem htl⟩
        obtain ⟨bY, oY, rfl, hcY⟩ := byte_at hD4 hy
        refine wp_skip (hK43 _ _ ?_);clear hK43;refine cSeq (fun K44 hK44 => ?_);refine wp_block ?_;refine cSR fun K45 hK45=>?_
        refine sIx underlying23 sizeOf5 F rfl rfl rfl rfl ?_ ?_
        focus omega
        clear F a; intro a F;refine sLd isAgg5 F rfl rfl rfl (H.arg hcY) (qAs rfl rfl rfl (qNK hK45 (qReg (qMv rfl rfl rfl (qMv rfl rfl rfl ?_)))));clear hK45;clear F a;intro a F
        refine F.split 92 rfl ?_ ?_ <;> (clear F; intro h92 F)
        ·
         refine sSk F rfl rfl (qSk rfl rfl (qSk rfl rfl (qPk rfl rfl rfl rfl (qAs rfl rfl rfl (qNK hK44 (qReg ?_))))));clear hK44;clear F a;intro a F
         refine sBin F rfl rfl rfl rfl (bAddN (j := 1) ?_) ?_
         focus omega
         clear F a; intro a F;refine sMv F rfl rfl rfl ?_;clear F a;intro a F;refine sNil ?_
         have e9 := in_succ (v := v) hy
         first
         | (have e8 : decide (v ∈ d4.take (t + 1)) = true := by rw [e9, h92]; rfl
            refine ⟨_, ?_, _, ⟨t + 1, rfl, rfl, by omega, H.sel [0] rfl rfl⟩, by rw [e8]; exact F.to (by repeat (first | exact trivial | refine Le.cons rfl ?_))⟩
            omega)
         | (have e8 : decide (v ∈ d4.take (t + 1)) = (v == y) := by rw [e9, h92]; rfl
            refine ⟨_, ?_, _, ⟨t + 1, rfl, rfl, by omega, H.sel [0] rfl rfl⟩, by rw [e8]; exact F.to (by repeat (first | exact trivial | refine Le.cons rfl ?_))⟩
            omega)
        refine sMv F rfl rfl rfl (qMv rfl rfl rfl (qBin rfl rfl rfl rfl bEqlB (qPk rfl rfl rfl rfl (qAs rfl rfl rfl (qNK hK44 (qReg ?_))))));clear hK44;clear F a;intro a F
        refine sBin F rfl rfl rfl rfl (bAddN (j := 1) ?_) ?_
        focus omega
        clear F a; intro a F;refine sMv F rfl rfl rfl ?_;clear F a;intro a F;refine sNil ?_
        have e9 := in_succ (v := v) hy
        first
        | (have e8 : decide (v ∈ d4.take (t + 1)) = true := by rw [e9, h92]; rfl
           refine ⟨_, ?_, _, ⟨t + 1, rfl, rfl, by omega, H.sel [0] rfl rfl⟩, by rw [e8]; exact F.to (by repeat (first | exact trivial | refine Le.cons rfl ?_))⟩
           omega)
        | (have e8 : decide (v ∈ d4.take (t + 1)) = (v == y) := by rw [e9, h92]; rfl
           refine ⟨_, ?_, _, ⟨t + 1, rfl, rfl, by omega, H.sel [0] rfl rfl⟩, by rw [e8]; exact F.to (by repeat (first | exact trivial | refine Le.cons rfl ?_))⟩
           omega)
       replace h88 := of_decide_eq_false h88
       obtain rfl : t = d4.length := by omega
       refine wp_exit ?_;refine hK40 _ _ (cSR fun K46 hK46=>sMv F rfl rfl rfl (qNot rfl rfl rfl (qNK hK46 ?_)));clear hK40 hK46;clear F a;intro a F
       refine cIf F rfl (fun h99 => ?_) (fun h99 => ?_)
       ·
        replace h99 := notT h99
        exact notEq8 (by rw [List.take_length]; exact decide_eq_true hvd) h99
       replace h99 := notF h99;refine wp_skip (hK37 _ _ (cReg ?_));clear hK37
       refine sBin F rfl rfl rfl rfl (bAddN (j := 1) ?_) ?_
       focus omega
       clear F a; intro a F;refine sMv F rfl rfl rfl ?_;clear F a;intro a F;refine sNil ?_
       refine ⟨_, ?_, _, ⟨j + 1, rfl, rfl, by omega, H.sel [0] rfl rfl⟩, F.to (by repeat (first | exact trivial | refine Le.cons rfl ?_))⟩
       omega
      replace h82 := of_decide_eq_false h82;refine wp_exit ?_;refine hK16 _ _ (cReg ?_);clear hK16
      refine sBin F rfl rfl rfl rfl (bAddN (j := 1) ?_) ?_
      focus omega
      clear F a; intro a F;refine sMv F rfl rfl rfl ?_;clear F a;intro a F;refine sNil ?_
      refine ⟨_, ?_, _, ⟨i + 1, rfl, rfl, by omega, H.sel [] rfl rfl⟩, F.to (by repeat (first | exact trivial | refine Le.cons rfl ?_))⟩
      omega
     refine oCvY (xs := readsL q.path.evs) underlying23 underlying5 underlying9 F rfl rfl rfl ((H.rowsAt 0 rfl bRows_one (by omega))) ?_;clear F a;intro a F;refine eKeep H ?_;refine eOne (k := 10) (i := 8) rfl (by kernel_rfl) F rfl (oCall call23 F rfl rfl (Reads_any q0 _ ((hPl (i - 1) q0 hq0 hqs0).own H).evs hqn0) ?_);rintro e w ⟨A8, c8, rfl, H2⟩;replace H := H.join H2; clear H2;refine ⟨_, rfl, ?_⟩;clear F a; intro a F;refine eKeep H.tail ?_;refine eOne (k := 11) (i := 9) rfl (by kernel_rfl) F rfl (oCvY (xs := readsL q0.path.evs) underlying23 underlying5 underlying9 F rfl rfl rfl ((H.rowsAt 0 rfl bRows_one (by omega))) ?_);clear F a; intro a F;refine eKeep H.tail ?_;refine eTF 12 rfl (by kernel_rfl) F rfl rfl rfl (fun w=>rBin F rfl rfl bGeqS) H.tail qq0 (qTF 13 rfl (by kernel_rfl) rfl rfl rfl (fun a F w=>rPk F rfl rfl) H.tail qq0 ?_);clear F a;intro a F;refine eNil (k := 14) (by kernel_rfl) ?_;refine hK20 _ _ ?_;clear hK20
     refine cIf F rfl (fun h78 => ?_) (fun h78 => ?_)
     ·
      rw [bytes_toL, bytes_toL, hqr, hqr0, hls] at h78
      cases h78
     refine wp_skip (hK19 _ _ (cSR fun K47 hK47=>sMv F rfl rfl rfl (qLen underlying23 rfl rfl rfl (qMv rfl rfl rfl (qNK hK47 ?_)))));clear hK19 hK47;clear F a;intro a F;refine wp_block ?_
     refine cLoopR [0, 1, 2, 7, 56, 57, 58, 79, 80] (fun m ups w => ∃ j : Nat, m = (readsL q.path.evs).length - j ∧ ups = [(81, .int .i64 ((j : Nat) : Int))] ∧ j ≤ (readsL q.path.evs).length ∧ Own W1 none w [.rws 5 1 (.slice A7 (readsL q.path.evs).length c7) (bRows (readsL q.path.evs))]) F ((readsL q.path.evs).length) [(81, .int .i64 ((0 : Nat) : Int))] (by repeat (first | exact SubR.nil | (apply SubR.cons; · rfl))) ?_ ?_ ?_
     · exact ⟨0, rfl, rfl, by omega, H.sel [1] rfl rfl⟩
     · repeat (first | exact trivial | refine Le.cons rfl ?_)
     clear F
     clear H
     intro m ups a w hI F
     obtain ⟨j, rfl, rfl, hj, H⟩ := hI
     refine cSR fun K48 hK48=>sBin F rfl rfl rfl rfl bLss (qNK hK48 ?_);clear hK48;clear F a;intro a F;refine cSeq (fun K49 hK49 => ?_)
     refine cIf F rfl (fun h82 => ?_) (fun h82 => ?_)
     ·
      replace h82 := of_decide_eq_true h82
      have hjl : j < (readsL q.path.evs).length := by omega
      obtain ⟨v, hv⟩ : ∃ v, (readsL q.path.evs)[j]? = some v := ⟨_, List.getElem?_eq_getElem hjl⟩
      have hvd : v ∈ d4 := ends_dom hzm v (by rw [← hqr]; exact List.mem_of_getElem? hv)
      obtain ⟨bV, oV, rfl, hcV⟩ := byte_at (H.rowsAt 0 rfl bRows_one (by omega)) hv
      refine wp_skip (hK49 _ _ ?_);clear hK49;refine cSeq (fun K50 hK50 => ?_);refine wp_block ?_;refine cSR fun K51 hK51=>?_
      refine sIx underlying23 sizeOf5 F rfl rfl rfl rfl ?_ ?_
      focus exact hjl
      clear F a; intro a F;refine sLd isAgg5 F rfl rfl rfl hcV (qAs rfl rfl rfl (qNK hK51 (qSR fun K52 hK52=>qAs rfl rfl rfl (qNK hK52 ?_))));clear hK51 hK52;clear F a;intro a F;refine cSeq (fun K53 hK53 => ?_);refine cSR fun K54 hK54=>sMv F rfl rfl rfl (qLen underlying23 rfl rfl rfl (qMv rfl rfl rfl (qNK hK54 ?_)));clear hK54;clear F a;intro a F;refine wp_block ?_
      refine cLoopR [0, 1, 2, 7, 13, 56, 57, 58, 79, 80, 81, 85, 86] (fun m ups w => ∃ t : Nat, m = d4.length - t ∧ ups = [(14, .bool (decide (v ∈ d4.take t))), (87, .int .i64 ((t : Nat) : Int))] ∧ t ≤ d4.length ∧ Own W1 none w [.rws 5 1 (.slice (some ⟨bV, oV, none⟩) (readsL q.path.evs).length c7) (bRows (readsL q.path.evs))]) F (d4.length) [(14, .bool false), (87, .int .i64 ((0 : Nat) : Int))] (by repeat (first | exact SubR.nil | (apply SubR.cons; · rfl))) ?_ ?_ ?_
      · exact ⟨0, rfl, by simp, by omega, H.sel [0] rfl rfl⟩
      · repeat (first | exact trivial | refine Le.cons rfl ?_)
      clear F
      clear H
      intro m ups a w hI F
      obtain ⟨t, rfl, rfl, ht, H⟩ := hI
      refine cSR fun K55 hK55=>sBin F rfl rfl rfl rfl bLss (qNK hK55 ?_);clear hK55;clear F a;intro a F;refine cSeq (fun K56 hK56 => ?_)
      refine cIf F rfl (fun h88 => ?_) (fun h88 => ?_)
      ·
       replace h88 := of_decide_eq_true h88
       have htl : t < d4.length := by omega
       obtain ⟨y, hy⟩ : ∃ y, d4[t]? = some y := ⟨_, List.getElem?_eq_getElem htl⟩
       obtain ⟨bY, oY, rfl, hcY⟩ := byte_at hD4 hy
       refine wp_skip (hK56 _ _ ?_);clear hK56;refine cSeq (fun K57 hK57 => ?_);refine wp_block ?_;refine cSR fun K58 hK58=>?_
       refine sIx underlying23 sizeOf5 F rfl rfl rfl rfl ?_ ?_
       focus omega
       clear F a; intro a F;refine sLd isAgg5 F rfl rfl rfl (H.arg hcY) (qAs rfl rfl rfl (qNK hK58 (qReg (qMv rfl rfl rfl (qMv rfl rfl rfl ?_)))));clear hK58;clear F a;intro a F
       refine F.split 92 rfl ?_ ?_ <;> (clear F; intro h92 F)
       ·
        refine sSk F rfl rfl (qSk rfl rfl (qSk rfl rfl (qPk rfl rfl rfl rfl (qAs rfl rfl rfl (qNK hK57 (qReg ?_))))));clear hK57;clear F a;intro a F
        refine sBin F rfl rfl rfl rfl (bAddN (j := 1) ?_) ?_
        focus omega
        clear F a; intro a F;refine sMv F rfl rfl rfl ?_;clear F a;intro a F;refine sNil ?_
        have e9 := in_succ (v := v) hy
        first
        | (have e8 : decide (v ∈ d4.take (t + 1)) = true := by rw [e9, h92]; rfl
           refine ⟨_, ?_, _, ⟨t + 1, rfl, rfl, by omega, H.sel [0] rfl rfl⟩, by rw [e8]; exact F.to (by repeat (first | exact trivial | refine Le.cons rfl ?_))⟩
           omega)
        | (have e8 : decide (v ∈ d4.take (t + 1)) = (v == y) := by rw [e9, h92]; rfl
           refine ⟨_, ?_, _, ⟨t + 1, rfl, rfl, by omega, H.sel [0] rfl rfl⟩, by rw [e8]; exact F.to (by repeat (first | exact trivial | refine Le.cons rfl ?_))⟩
           omega)
       refine sMv F rfl rfl rfl (qMv rfl rfl rfl (qBin rfl rfl rfl rfl bEqlB (qPk rfl rfl rfl rfl (qAs rfl rfl rfl (qNK hK57 (qReg ?_))))));clear hK57;clear F a;intro a F
       refine sBin F rfl rfl rfl rfl (bAddN (j := 1) ?_) ?_
       focus omega
       clear F a; intro a F;refine sMv F rfl rfl rfl ?_;clear F a;intro a F;refine sNil ?_
       have e9 := in_succ (v := v) hy
       first
       | (have e8 : decide (v ∈ d4.take (t + 1)) = true := by rw [e9, h92]; rfl
          refine ⟨_, ?_, _, ⟨t + 1, rfl, rfl, by omega, H.sel [0] rfl rfl⟩, by rw [e8]; exact F.to (by repeat (first | exact trivial | refine Le.cons rfl ?_))⟩
          omega)
       | (have e8 : decide (v ∈ d4.take (t + 1)) = (v == y) := by rw [e9, h92]; rfl
          refine ⟨_, ?_, _, ⟨t + 1, rfl, rfl, by omega, H.sel [0] rfl rfl⟩, by rw [e8]; exact F.to (by repeat (first | exact trivial | refine Le.cons rfl ?_))⟩
          omega)
      replace h88 := of_decide_eq_false h88
      obtain rfl : t = d4.length := by omega
      refine wp_exit ?_;refine hK53 _ _ (cSR fun K59 hK59=>sMv F rfl rfl rfl (qNot rfl rfl rfl (qNK hK59 ?_)));clear hK53 hK59;clear F a;intro a F
      refine cIf F rfl (fun h99 => ?_) (fun h99 => ?_)
      ·
       replace h99 := notT h99
       exact notEq8 (by rw [List.take_length]; exact decide_eq_true hvd) h99
      replace h99 := notF h99;refine wp_skip (hK50 _ _ (cReg ?_));clear hK50
      refine sBin F rfl rfl rfl rfl (bAddN (j := 1) ?_) ?_
      focus omega
      clear F a; intro a F;refine sMv F rfl rfl rfl ?_;clear F a;intro a F;refine sNil ?_
      refine ⟨_, ?_, _, ⟨j + 1, rfl, rfl, by omega, H.sel [0] rfl rfl⟩, F.to (by repeat (first | exact trivial | refine Le.cons rfl ?_))⟩
      omega
     replace h82 := of_decide_eq_false h82;refine wp_exit ?_;refine hK16 _ _ (cReg ?_);clear hK16
     refine sBin F rfl rfl rfl rfl (bAddN (j := 1) ?_) ?_
     focus omega
     clear F a; intro a F;refine sMv F rfl rfl rfl ?_;clear F a;intro a F;refine sNil ?_
     refine ⟨_, ?_, _, ⟨i + 1, rfl, rfl, by omega, H.sel [] rfl rfl⟩, F.to (by repeat (first | exact trivial | refine Le.cons rfl ?_))⟩
     omega
    clear F H; intro ups a w hI F
    obtain ⟨rfl, H⟩ := hI
    refine eNil (k := 14) (by kernel_rfl) ?_;refine hK20 _ _ ?_;clear hK20
    refine cIf F rfl (fun h78 => ?_) (fun h78 => ?_)
    ·
     rw [bytes_toL, bytes_toL, hqr, hqr0, hls] at h78
     cases h78
    refine wp_skip (hK19 _ _ (cSR fun K60 hK60=>sMv F rfl rfl rfl (qLen underlying23 rfl rfl rfl (qMv rfl rfl rfl (qNK hK60 ?_)))));clear hK19 hK60;clear F a;intro a F;refine wp_block ?_
    refine cLoopR [0, 1, 2, 7, 56, 57, 58, 79, 80] (fun m ups w => ∃ j : Nat, m = (readsL q.path.evs).length - j ∧ ups = [(81, .int .i64 ((j : Nat) : Int))] ∧ j ≤ (readsL q.path.evs).length ∧ Own W1 none w [.rws 5 1 (.slice A7 (readsL q.path.evs).length c7) (bRows (readsL q.path.evs))]) F ((readsL q.path.evs).length) [(81, .int .i64 ((0 : Nat) : Int))] (by repeat (first | exact SubR.nil | (apply SubR.cons; · rfl))) ?_ ?_ ?_
    · exact ⟨0, rfl, rfl, by omega, H.sel [0] rfl rfl⟩
    · repeat (first | exact trivial | refine Le.cons rfl ?_)
    clear F
    clear H
    intro m ups a w hI F
    obtain ⟨j, rfl, rfl, hj, H⟩ := hI
    refine cSR fun K61 hK61=>sBin F rfl rfl rfl rfl bLss (qNK hK61 ?_);clear hK61;clear F a;intro a F;refine cSeq (fun K62 hK62 => ?_)
    refine cIf F rfl (fun h82 => ?_) (fun h82 => ?_)
    ·
     replace h82 := of_decide_eq_true h82
     have hjl : j < (readsL q.path.evs).length := by omega
     obtain ⟨v, hv⟩ : ∃ v, (readsL q.path.evs)[j]? = some v := ⟨_, List.getElem?_eq_getElem hjl⟩
     have hvd : v ∈ d4 := ends_dom hzm v (by rw [← hqr]; exact List.mem_of_getElem? hv)
     obtain ⟨bV, oV, rfl, hcV⟩ := byte_at (H.rowsAt 0 rfl bRows_one (by omega)) hv
     refine wp_skip (hK62 _ _ ?_);clear hK62;refine cSeq (fun K63 hK63 => ?_);refine wp_block ?_;refine cSR fun K64 hK64=>?_
     refine sIx underlying23 sizeOf5 F rfl rfl rfl rfl ?_ ?_
     focus exact hjl
     clear F a; intro a F;refine sLd isAgg5 F rfl rfl rfl hcV (qAs rfl rfl rfl (qNK hK64 (qSR fun K65 hK65=>qAs rfl rfl rfl (qNK hK65 ?_))));clear hK64 hK65;clear F a;intro a F;refine cSeq (fun K66 hK66 => ?_);refine cSR fun K67 hK67=>sMv F rfl rfl rfl (qLen underlying23 rfl rfl rfl (qMv rfl rfl rfl (qNK hK67 ?_)));clear hK67;clear F a;intro a F;refine wp_block ?_
     refine cLoopR [0, 1, 2, 7, 13, 56, 57, 58, 79, 80, 81, 85, 86] (fun m ups w => ∃ t : Nat, m = d4.length - t ∧ ups = [(14, .bool (decide (v ∈ d4.take t))), (87, .int .i64 ((t : Nat) : Int))] ∧ t ≤ d4.length ∧ Own W1 none w [.rws 5 1 (.slice (some ⟨bV, oV, none⟩) (readsL q.path.evs).length c7) (bRows (readsL q.path.evs))]) F (d4.length) [(14, .bool false), (87, .int .i64 ((0 : Nat) : Int))] (by repeat (first | exact SubR.nil | (apply SubR.cons; · rfl))) ?_ ?_ ?_
     · exact ⟨0, rfl, by simp, by omega, H.sel [0] rfl rfl⟩
     · repeat (first | exact trivial | refine Le.cons rfl ?_)
     clear F
     clear H
     intro m ups a w hI F
     obtain ⟨t, rfl, rfl, ht, H⟩ := hI
     refine cSR fun K68 hK68=>sBin F rfl rfl rfl rfl bLss (qNK hK68 ?_);clear hK68;clear F a;intro a F;refine cSeq (fun K69 hK69 => ?_)
     refine cIf F rfl (fun h88 => ?_) (fun h88 => ?_)
     ·
      replace h88 := of_decide_eq_true h88
      have htl : t < d4.length := by omega
      obtain ⟨y, hy⟩ : ∃ y, d4[t]? = some y := ⟨_, List.getElem?_eq_getElem htl⟩
      obtain ⟨bY, oY, rfl, hcY⟩ := byte_at hD4 hy
      refine wp_skip (hK69 _ _ ?_);clear hK69;refine cSeq (fun K70 hK70 => ?_);refine wp_block ?_;refine cSR fun K71 hK71=>?_
      refine sIx underlying23 sizeOf5 F rfl rfl rfl rfl ?_ ?_
      focus omega
      clear F a; intro a F;refine sLd isAgg5 F rfl rfl rfl (H.arg hcY) (qAs rfl rfl rfl (qNK hK71 (qReg (qMv rfl rfl rfl (qMv rfl rfl rfl ?_)))));clear hK71;clear F a;intro a F
      refine F.split 92 rfl ?_ ?_ <;> (clear F; intro h92 F)
      ·
       refine sSk F rfl rfl (qSk rfl rfl (qSk rfl rfl (qPk rfl rfl rfl rfl (qAs rfl rfl rfl (qNK hK70 (qReg ?_))))));clear hK70;clear F a;intro a F
       refine sBin F rfl rfl rfl rfl (bAddN (j := 1) ?_) ?_
       focus omega
       clear F a; intro a F;refine sMv F rfl rfl rfl ?_;clear F a;intro a F;refine sNil ?_
       have e9 := in_succ (v := v) hy
       first
       | (have e8 : decide (v ∈ d4.take (t + 1)) = true := by rw [e9, h92]; rfl
          refine ⟨_, ?_, _, ⟨t + 1, rfl, rfl, by omega, H.sel [0] rfl rfl⟩, by rw [e8]; exact F.to (by repeat (first | exact trivial | refine Le.cons rfl ?_))⟩
          omega)
       | (have e8 : decide (v ∈ d4.take (t + 1)) = (v == y) := by rw [e9, h92]; rfl
          refine ⟨_, ?_, _, ⟨t + 1, rfl, rfl, by omega, H.sel [0] rfl rfl⟩, by rw [e8]; exact F.to (by repeat (first | exact trivial | refine Le.cons rfl ?_))⟩
          omega)
      refine sMv F rfl rfl rfl (qMv rfl rfl rfl (qBin rfl rfl rfl rfl bEqlB (qPk rfl rfl rfl rfl (qAs rfl rfl rfl (qNK hK70 (qReg ?_))))));clear hK70;clear F a;intro a F
      refine sBin F rfl rfl rfl rfl (bAddN (j := 1) ?_) ?_
      focus omega
      clear F a; intro a F;refine sMv F rfl rfl rfl ?_;clear F a;intro a F;refine sNil ?_
      have e9 := in_succ (v := v) hy
      first
      | (have e8 : decide (v ∈ d4.take (t + 1)) = true := by rw [e9, h92]; rfl
         refine ⟨_, ?_, _, ⟨t + 1, rfl, rfl, by omega, H.sel [0] rfl rfl⟩, by rw [e8]; exact F.to (by repeat (first | exact trivial | refine Le.cons rfl ?_))⟩
         omega)
      | (have e8 : decide (v ∈ d4.take (t + 1)) = (v == y) := by rw [e9, h92]; rfl
         refine ⟨_, ?_, _, ⟨t + 1, rfl, rfl, by omega, H.sel [0] rfl rfl⟩, by rw [e8]; exact F.to (by repeat (first | exact trivial | refine Le.cons rfl ?_))⟩
         omega)
     replace h88 := of_decide_eq_false h88
     obtain rfl : t = d4.length := by omega
     refine wp_exit ?_;refine hK66 _ _ (cSR fun K72 hK72=>sMv F rfl rfl rfl (qNot rfl rfl rfl (qNK hK72 ?_)));clear hK66 hK72;clear F a;intro a F
     refine cIf F rfl (fun h99 => ?_) (fun h99 => ?_)
     ·
      replace h99 := notT h99
      exact notEq8 (by rw [List.take_length]; exact decide_eq_true hvd) h99
     replace h99 := notF h99;refine wp_skip (hK63 _ _ (cReg ?_));clear hK63
     refine sBin F rfl rfl rfl rfl (bAddN (j := 1) ?_) ?_
     focus omega
     clear F a; intro a F;refine sMv F rfl rfl rfl ?_;clear F a;intro a F;refine sNil ?_
     refine ⟨_, ?_, _, ⟨j + 1, rfl, rfl, by omega, H.sel [0] rfl rfl⟩, F.to (by repeat (first | exact trivial | refine Le.cons rfl ?_))⟩
     omega
    replace h82 := of_decide_eq_false h82;refine wp_exit ?_;refine hK16 _ _ (cReg ?_);clear hK16
    refine sBin F rfl rfl rfl rfl (bAddN (j := 1) ?_) ?_
    focus omega
    clear F a; intro a F;refine sMv F rfl rfl rfl ?_;clear F a;intro a F;refine sNil ?_
    refine ⟨_, ?_, _, ⟨i + 1, rfl, rfl, by omega, H.sel [] rfl rfl⟩, F.to (by repeat (first | exact trivial | refine Le.cons rfl ?_))⟩
    omega
   replace h67 := of_decide_eq_false h67;refine eSF 3 rfl (by kernel_rfl) F rfl rfl rfl H qq0 (qSF 4 rfl (by kernel_rfl) rfl rfl rfl H qq0 (qSF 5 rfl (by kernel_rfl) rfl rfl rfl H qq0 (qSF 6 rfl (by kernel_rfl) rfl rfl rfl H qq0 (qSF 7 rfl (by kernel_rfl) rfl rfl rfl H qq0 (qSF 8 rfl (by kernel_rfl) rfl rfl rfl H qq0 (qSF 9 rfl (by kernel_rfl) rfl rfl rfl H qq0 (qSF 10 rfl (by kernel_rfl) rfl rfl rfl H qq0 (qSF 11 rfl (by kernel_rfl) rfl rfl rfl H qq0 (qSF 12 rfl (by kernel_rfl) rfl rfl rfl H qq0 (qTF 13 rfl (by kernel_rfl) rfl rfl rfl (fun a F w=>rPk F rfl rfl) H qq0 ?_))))))))));clear F a;intro a F;refine eNil (k := 14) (by kernel_rfl) ?_;refine hK20 _ _ ?_;clear hK20;refine cIfF F rfl ?_;refine wp_skip (hK19 _ _ (cSR fun K73 hK73=>sMv F rfl rfl rfl (qLen underlying23 rfl rfl rfl (qMv rfl rfl rfl (qNK hK73 ?_)))));clear hK19 hK73;clear F a;intro a F;refine wp_block ?_
   refine cLoopR [0, 1, 2, 7, 56, 57, 58, 79, 80] (fun m ups w => ∃ j : Nat, m = (readsL q.path.evs).length - j ∧ ups = [(81, .int .i64 ((j : Nat) : Int))] ∧ j ≤ (readsL q.path.evs).length ∧ Own W1 none w [.rws 5 1 (.slice A7 (readsL q.path.evs).length c7) (bRows (readsL q.path.evs))]) F ((readsL q.path.evs).length) [(81, .int .i64 ((0 : Nat) : Int))] (by repeat (first | exact SubR.nil | (apply SubR.cons; · rfl))) ?_ ?_ ?_
   · exact ⟨0, rfl, rfl, by omega, H.sel [0] rfl rfl⟩
   · repeat (first | exact trivial | refine Le.cons rfl ?_)
   clear F
   clear H
   intro m ups a w hI F
   obtain ⟨j, rfl, rfl, hj, H⟩ := hI
   refine cSR fun K74 hK74=>sBin F rfl rfl rfl rfl bLss (qNK hK74 ?_);clear hK74;clear F a;intro a F;refine cSeq (fun K75 hK75 => ?_)
   refine cIf F rfl (fun h82 => ?_) (fun h82 => ?_)
   ·
    replace h82 := of_decide_eq_true h82
    have hjl : j < (readsL q.path.evs).length := by omega
    obtain ⟨v, hv⟩ : ∃ v, (readsL q.path.evs)[j]? = some v := ⟨_, List.getElem?_eq_getElem hjl⟩
    have hvd : v ∈ d4 := ends_dom hzm v (by rw [← hqr]; exact List.mem_of_getElem? hv)
    obtain ⟨bV, oV, rfl, hcV⟩ := byte_at (H.rowsAt 0 rfl bRows_one (by omega)) hv
    refine wp_skip (hK75 _ _ ?_);clear hK75;refine cSeq (fun K76 hK76 => ?_);refine wp_block ?_;refine cSR fun K77 hK77=>?_
    refine sIx underlying23 sizeOf5 F rfl rfl rfl rfl ?_ ?_
    focus exact hjl
    clear F a; intro a F;refine sLd isAgg5 F rfl rfl rfl hcV (qAs rfl rfl rfl (qNK hK77 (qSR fun K78 hK78=>qAs rfl rfl rfl (qNK hK78 ?_))));clear hK77 hK78;clear F a;intro a F;refine cSeq (fun K79 hK79 => ?_);refine cSR fun K80 hK80=>sMv F rfl rfl rfl (qLen underlying23 rfl rfl rfl (qMv rfl rfl rfl (qNK hK80 ?_)));clear hK80;clear F a;intro a F;refine wp_block ?_
    refine cLoopR [0, 1, 2, 7, 13, 56, 57, 58, 79, 80, 81, 85, 86] (fun m ups w => ∃ t : Nat, m = d4.length - t ∧ ups = [(14, .bool (decide (v ∈ d4.take t))), (87, .int .i64 ((t : Nat) : Int))] ∧ t ≤ d4.length ∧ Own W1 none w [.rws 5 1 (.slice (some ⟨bV, oV, none⟩) (readsL q.path.evs).length c7) (bRows (readsL q.path.evs))]) F (d4.length) [(14, .bool false), (87, .int .i64 ((0 : Nat) : Int))] (by repeat (first | exact SubR.nil | (apply SubR.cons; · rfl))) ?_ ?_ ?_
    · exact ⟨0, rfl, by simp, by omega, H.sel [0] rfl rfl⟩
    · repeat (first | exact trivial | refine Le.cons rfl ?_)
    clear F
    clear H
    intro m ups a w hI F
    obtain ⟨t, rfl, rfl, ht, H⟩ := hI
    refine cSR fun K81 hK81=>sBin F rfl rfl rfl rfl bLss (qNK hK81 ?_);clear hK81;clear F a;intro a F;refine cSeq (fun K82 hK82 => ?_)
    refine cIf F rfl (fun h88 => ?_) (fun h88 => ?_)
    ·
     replace h88 := of_decide_eq_true h88
     have htl : t < d4.length := by omega
     obtain ⟨y, hy⟩ : ∃ y, d4[t]? = some y := ⟨_, List.getElem?_eq_getElem htl⟩
     obtain ⟨bY, oY, rfl, hcY⟩ := byte_at hD4 hy
     refine wp_skip (hK82 _ _ ?_);clear hK82;refine cSeq (fun K83 hK83 => ?_);refine wp_block ?_;refine cSR fun K84 hK84=>?_
     refine sIx underlying23 sizeOf5 F rfl rfl rfl rfl ?_ ?_
     focus omega
     clear F a; intro a F;refine sLd isAgg5 F rfl rfl rfl (H.arg hcY) (qAs rfl rfl rfl (qNK hK84 (qReg (qMv rfl rfl rfl (qMv rfl rfl rfl ?_)))));clear hK84;clear F a;intro a F
     refine F.split 92 rfl ?_ ?_ <;> (clear F; intro h92 F)
     ·
      refine sSk F rfl rfl (qSk rfl rfl (qSk rfl rfl (qPk rfl rfl rfl rfl (qAs rfl rfl rfl (qNK hK83 (qReg ?_))))));clear hK83;clear F a;intro a F
      refine sBin F rfl rfl rfl rfl (bAddN (j := 1) ?_) ?_
      focus omega
      clear F a; intro a F;refine sMv F rfl rfl rfl ?_;clear F a;intro a F;refine sNil ?_
      have e9 := in_succ (v := v) hy
      first
      | (have e8 : decide (v ∈ d4.take (t + 1)) = true := by rw [e9, h92]; rfl
         refine ⟨_, ?_, _, ⟨t + 1, rfl, rfl, by omega, H.sel [0] rfl rfl⟩, by rw [e8]; exact F.to (by repeat (first | exact trivial | refine Le.cons rfl ?_))⟩
         omega)
      | (have e8 : decide (v ∈ d4.take (t + 1)) = (v == y) := by rw [e9, h92]; rfl
         refine ⟨_, ?_, _, ⟨t + 1, rfl, rfl, by omega, H.sel [0] rfl rfl⟩, by rw [e8]; exact F.to (by repeat (first | exact trivial | refine Le.cons rfl ?_))⟩
         omega)
     refine sMv F rfl rfl rfl (qMv rfl rfl rfl (qBin rfl rfl rfl rfl bEqlB (qPk rfl rfl rfl rfl (qAs rfl rfl rfl (qNK hK83 (qReg ?_))))));clear hK83;clear F a;intro a F
     refine sBin F rfl rfl rfl rfl (bAddN (j := 1) ?_) ?_
     focus omega
     clear F a; intro a F;refine sMv F rfl rfl rfl ?_;clear F a;intro a F;refine sNil ?_
     have e9 := in_succ (v := v) hy
     first
     | (have e8 : decide (v ∈ d4.take (t + 1)) = true := by rw [e9, h92]; rfl
        refine ⟨_, ?_, _, ⟨t + 1, rfl, rfl, by omega, H.sel [0] rfl rfl⟩, by rw [e8]; exact F.to (by repeat (first | exact trivial | refine Le.cons rfl ?_))⟩
        omega)
     | (have e8 : decide (v ∈ d4.take (t + 1)) = (v == y) := by rw [e9, h92]; rfl
        refine ⟨_, ?_, _, ⟨t + 1, rfl, rfl, by omega, H.sel [0] rfl rfl⟩, by rw [e8]; exact F.to (by repeat (first | exact trivial | refine Le.cons rfl ?_))⟩
        omega)
    replace h88 := of_decide_eq_false h88
    obtain rfl : t = d4.length := by omega
    refine wp_exit ?_;refine hK79 _ _ (cSR fun K85 hK85=>sMv F rfl rfl rfl (qNot rfl rfl rfl (qNK hK85 ?_)));clear hK79 hK85;clear F a;intro a F
    refine cIf F rfl (fun h99 => ?_) (fun h99 => ?_)
    ·
     replace h99 := notT h99
     exact notEq8 (by rw [List.take_length]; exact decide_eq_true hvd) h99
    replace h99 := notF h99;refine wp_skip (hK76 _ _ (cReg ?_));clear hK76
    refine sBin F rfl rfl rfl rfl (bAddN (j := 1) ?_) ?_
    focus omega
    clear F a; intro a F;refine sMv F rfl rfl rfl ?_;clear F a;intro a F;refine sNil ?_
    refine ⟨_, ?_, _, ⟨j + 1, rfl, rfl, by omega, H.sel [0] rfl rfl⟩, F.to (by repeat (first | exact trivial | refine Le.cons rfl ?_))⟩
    omega
   replace h82 := of_decide_eq_false h82;refine wp_exit ?_;refine hK16 _ _ (cReg ?_);clear hK16
   refine sBin F rfl rfl rfl rfl (bAddN (j := 1) ?_) ?_
   focus omega
   clear F a; intro a F;refine sMv F rfl rfl rfl ?_;clear F a;intro a F;refine sNil ?_
   refine ⟨_, ?_, _, ⟨i + 1, rfl, rfl, by omega, H.sel [] rfl rfl⟩, F.to (by repeat (first | exact trivial | refine Le.cons rfl ?_))⟩
   omega
  replace h59 := of_decide_eq_false h59;refine wp_exit ?_;refine hK12 _ _ (cSR fun K86 hK86=>sAs F rfl rfl rfl ?_);clear hK12;clear F a;intro a F
  replace H := H.nilRws 5 1
  refine nK hK86 ?_;clear hK86;refine cSeq (fun K87 hK87 => ?_);refine cSR fun K88 hK88=>sMv F rfl rfl rfl (qNK hK88 ?_);clear hK88;clear F a;intro a F;refine wp_block ?_
  refine cLoopR [0, 1, 2, 7] (fun m ups w => ∃ (k : Nat) (A5 : Option Addr) (c5 : Nat) (rs : List UInt8), m = 5 - k ∧ ups = [(17, .slice A5 rs.length c5), (102, .int .i64 ((k : Nat) : Int))] ∧ rs.length = k ∧ (∀ v ∈ rs, v ∈ d4) ∧ followP l rs ≠ .many ∧ Own W1 none w [.rws 5 1 (.slice A5 rs.length c5) (bRows rs)]) F (5) [(17, .slice none 0 0), (102, .int .i64 ((0 : Nat) : Int))] (by repeat (first | exact SubR.nil | (apply SubR.cons; · rfl))) ?_ ?_ ?_
  · exact ⟨0, none, 0, [], rfl, rfl, rfl, fun v h => by simp at h, (by show goP l [] zRun ≠ .many; unfold goP; split <;> exact fun e => by cases e), H.sel [0] rfl rfl⟩
  · repeat (first | exact trivial | refine Le.cons rfl ?_)
  clear F
  clear H
  intro m ups a w hI F
  obtain ⟨k, A5, c5, rs, rfl, rfl, hrk, hrd, hnm, H⟩ := hI
  have hk4 : k ≤ 4 := by
    rcases fol_not_many hl hnm with ⟨_, hw⟩ | ⟨z, hz⟩
    · have := wants_rc hl hw; omega
    · have := hz.rc; omega
  refine cSR fun K89 hK89=>sBin F rfl rfl rfl rfl bLss (qNK hK89 ?_);clear hK89;clear F a;intro a F;refine cSeq (fun K90 hK90 => ?_)
  refine cIf F rfl (fun h103 => ?_) (fun h103 => ?_)
  ·
   replace h103 := of_decide_eq_true h103;refine wp_skip (hK90 _ _ ?_);clear hK90;refine cSeq (fun K91 hK91 => ?_);refine wp_block ?_;refine cSR fun K92 hK92=>sMv F rfl rfl rfl (qAs rfl rfl rfl (qNK hK92 (qSR fun K93 hK93=>qMv rfl rfl rfl (qMv rfl rfl rfl ?_))));clear hK92;clear F a;intro a F;refine sCall call11 F rfl rfl rfl (Follow_pl A C l.length l A5 c5 rs.length rs _ (hA.own H) rfl hn (H.rowsAt 0 rfl bRows_one (by omega)) rfl (by omega) (hN.own H) (hT.own H)) ?_;rintro e w ⟨qf, hqf, rfl, H2⟩;replace H := H.join H2
   clear H2
   have hqfs : smallP qf.path = true := by rw [hqf]; exact small_fol _ _
   refine ⟨_, rfl, ?_⟩;clear F a; intro a F;refine sMv F rfl rfl rfl (qExt rfl rfl rfl rfl (qExt rfl rfl rfl rfl (qExt rfl rfl rfl rfl ?_)));clear F a;intro a F;refine sAl H zeroValue28 F rfl rfl ?_;clear F a H; intro b19 a w F H
   refine sSr H 0 ?si F rfl rfl rfl ?s1 rfl rfl ?_
   case si => exact info_size sizeOf28
   case s1 => first | rfl | (repeat (first | exact one_nil | (apply one_cons; · first | rfl | assumption | exact one_bif rfl rfl)))
   clear H; intro w H;refine sAs F rfl rfl rfl (qAs rfl rfl rfl (qNK hK93 ?_));clear hK93;clear F a;intro a F;refine cSeq (fun K94 hK94 => ?_);refine cSR fun K95 hK95=>sMv F rfl rfl rfl (qBin rfl rfl rfl rfl bNeq (qNK hK95 ?_));clear hK95;clear F a;intro a F
   refine cIf F rfl (fun h113 => ?_) (fun h113 => ?_)
   ·
    replace h113 := bneT h113
    exfalso
    rcases fol_not_many hl hnm with ⟨hw, _⟩ | ⟨z, hz⟩
    · rw [hw] at h113; exact h113 rfl
    · rw [hz.fol] at h113; exact h113 rfl
   replace h113 := bneF h113;refine wp_skip (hK94 _ _ ?_);clear hK94;refine cSeq (fun K96 hK96 => ?_);refine cSR fun K97 hK97=>sMv F rfl rfl rfl (qNot rfl rfl rfl (qNK hK97 ?_));clear hK97;clear F a;intro a F
   refine cIf F rfl (fun h115 => ?_) (fun h115 => ?_)
   ·
    replace h115 := notT h115
    obtain ⟨z, hz⟩ : ∃ z, Done8 l rs z := by
      rcases fol_not_many hl hnm with ⟨hw, _⟩ | hz
      · rw [hw] at h115; cases h115
      · exact hz
    have hone : cntS ps qf.path ps.length = 1 := by
      rw [cntS_all]
      exact ends_once (mem_ends.2 ⟨rs, fun v hv => (dist_mem d4 v).2 (hrd v hv), hz.path⟩) hps (by rw [hqf, hz.fol])
    refine cSR fun K98 hK98=>sAs F rfl rfl rfl (qNK hK98 ?_);clear hK98;clear F a;intro a F;refine cSeq (fun K99 hK99 => ?_);refine cSR fun K100 hK100=>sMv F rfl rfl rfl (qLen underlying52 rfl rfl rfl (qMv rfl rfl rfl (qNK hK100 ?_)));clear hK100;clear F a;intro a F;refine wp_block ?_
    refine cLoopR [19, 116, 117] (fun m ups w => ∃ t : Nat, m = ps.length - t ∧ ups = [(22, .int .i64 ((cntS ps qf.path t : Nat) : Int)), (118, .int .i64 ((t : Nat) : Int))] ∧ t ≤ ps.length ∧ Own W1 none w (.blk b19 qf.cells 28 :: qf.res)) F (ps.length) [(22, .int .i64 ((0 : Nat) : Int)), (118, .int .i64 ((0 : Nat) : Int))] (by repeat (first | exact SubR.nil | (apply SubR.cons; · rfl))) ?_ ?_ ?_
    · exact ⟨0, rfl, rfl, by omega, H.sel [0, 1, 2, 3, 4] rfl rfl⟩
    · repeat (first | exact trivial | refine Le.cons rfl ?_)
    clear F
    clear H
    intro m ups a w hI F
    obtain ⟨t, rfl, rfl, ht, H⟩ := hI
    have hct := cntS_le ps qf.path t
    refine cSR fun K101 hK101=>sBin F rfl rfl rfl rfl bLss (qNK hK101 ?_);clear hK101;clear F a;intro a F;refine cSeq (fun K102 hK102 => ?_)
    refine cIf F rfl (fun h119 => ?_) (fun h119 => ?_)
    ·
     replace h119 := of_decide_eq_true h119
     have htl : t < ps.length := by omega
     obtain ⟨q, hq⟩ : ∃ q, ps[t]? = some q := ⟨_, List.getElem?_eq_getElem htl⟩
     obtain ⟨z9, hz9, hqz⟩ := ps_at hps hq
     have hqs : smallP q.path = true := by
       obtain ⟨vs, _, hv⟩ := mem_ends.1 (List.mem_of_getElem? hz9)
       rw [hqz]; exact small_run hl (hv.inv hl (inv_zero l))
     obtain ⟨bL, oL, rfl, hRL⟩ := hLP t q.cells (by rw [List.getElem?_map, hq]; rfl)
     refine wp_skip (hK102 _ _ ?_);clear hK102;refine cSeq (fun K103 hK103 => ?_);refine wp_block ?_;refine cSR fun K104 hK104=>?_
     refine sIx underlying52 sizeOf28 F rfl rfl rfl rfl ?_ ?_
     focus exact htl
     clear F a; intro a F
     refine sLr underlying28 rfl ?si F rfl rfl rfl (H.argR hRL) ?_
     case si => exact info_size sizeOf28
     clear F a; intro a F;refine sAl H zeroValue28 F rfl rfl ?_;clear F a H; intro b24 a w F H
     refine sSr H 0 ?si F rfl rfl rfl ?s1 rfl rfl ?_
     case si => exact info_size sizeOf28
     case s1 => first | rfl | (repeat (first | exact one_nil | (apply one_cons; · first | rfl | assumption | exact one_bif rfl rfl)))
     clear H; intro w H;refine nK hK104 (cSR fun K105 hK105=>?_);clear hK104
     refine sLr underlying28 rfl ?si F rfl rfl rfl (H.whole 0 rfl) ?_
     case si => exact info_size sizeOf28
     clear F a; intro a F
     refine sLr underlying28 rfl ?si F rfl rfl rfl (show World.rangeAt _ b19 0 qf.cells from H.whole 1 rfl) ?_
     case si => exact info_size sizeOf28
     clear F a; intro a F;refine sCall call13 F rfl rfl rfl (Same_any q qf _ ((hPl t q hq hqs).own H) (small_at (H.sel [2, 3, 4, 5] rfl rfl) hqfs)) ?_;rintro e w ⟨rfl, hb⟩;replace H := H.grow hb; clear hb;refine ⟨_, rfl, ?_⟩;clear F a; intro a F;refine nK hK105 ?_;clear hK105
     refine cIf F rfl (fun h124 => ?_) (fun h124 => ?_)
     ·
      refine cReg (sMv F rfl rfl rfl ?_);clear F a;intro a F
      refine sBin F rfl rfl rfl rfl (bAddN (j := 1) ?_) ?_
      focus omega
      clear F a; intro a F;refine sAs F rfl rfl rfl (qNK hK103 (qReg ?_));clear hK103;clear F a;intro a F
      refine sBin F rfl rfl rfl rfl (bAddN (j := 1) ?_) ?_
      focus omega
      clear F a; intro a F;refine sMv F rfl rfl rfl ?_;clear F a;intro a F;refine sNil ?_
      first
      | (rw [← cntS_T hq h124] at F
         exact ⟨_, by omega, _, ⟨t + 1, rfl, rfl, by omega, H.sel [1, 2, 3, 4, 5] rfl rfl⟩, F.to (by repeat (first | exact trivial | refine Le.cons rfl ?_))⟩)
      | (rw [← cntS_F hq h124] at F
         exact ⟨_, by omega, _, ⟨t + 1, rfl, rfl, by omega, H.sel [1, 2, 3, 4, 5] rfl rfl⟩, F.to (by repeat (first | exact trivial | refine Le.cons rfl ?_))⟩)
     refine wp_skip (hK103 _ _ (cReg ?_));clear hK103
     refine sBin F rfl rfl rfl rfl (bAddN (j := 1) ?_) ?_
     focus omega
     clear F a; intro a F;refine sMv F rfl rfl rfl ?_;clear F a;intro a F;refine sNil ?_
     first
     | (rw [← cntS_T hq h124] at F
        exact ⟨_, by omega, _, ⟨t + 1, rfl, rfl, by omega, H.sel [1, 2, 3, 4, 5] rfl rfl⟩, F.to (by repeat (first | exact trivial | refine Le.cons rfl ?_))⟩)
     | (rw [← cntS_F hq h124] at F
        exact ⟨_, by omega, _, ⟨t + 1, rfl, rfl, by omega, H.sel [1, 2, 3, 4, 5] rfl rfl⟩, F.to (by repeat (first | exact trivial | refine Le.cons rfl ?_))⟩)
    replace h119 := of_decide_eq_false h119
    obtain rfl : t = ps.length := by omega
    refine wp_exit ?_;refine hK99 _ _ (cSR fun K106 hK106=>sMv F rfl rfl rfl (qBin rfl rfl rfl rfl bEql (qMv rfl rfl rfl ?_)));clear hK99;clear F a;intro a F
    refine F.split 130 rfl ?_ ?_ <;> (clear F; intro h130 F)
    ·
     replace h130 := beqT h130;refine sCall call12 F rfl rfl rfl (awake8_any _ (hN.own H) (hT.own H)) ?_;rintro e w ⟨rfl, hb⟩;replace H := H.grow hb; clear hb;refine ⟨_, rfl, ?_⟩;clear F a; intro a F;refine sPk F rfl rfl rfl rfl (qAs rfl rfl rfl (qNK hK106 ?_));clear hK106;clear F a;intro a F;refine wp_ret ?_;simp only [Exit.inBlock, Exit.then];refine bRet results10 F rfl ?_
     first | exact ⟨rfl, H.below⟩ | exact ⟨rfl, (H1.grow H.below).below⟩
    replace h130 := beqF h130
    omega
   replace h115 := notF h115
   obtain ⟨hw0, hw⟩ : followR l rs = ⟨zPathP, true, 0⟩ ∧ followP l rs = .wants := by
     rcases fol_not_many hl hnm with h | ⟨z, hz⟩
     · exact h
     · rw [hz.fol] at h115; cases h115
   have hwl := wants_rc hl hw
   refine wp_skip (hK96 _ _ ?_);clear hK96;refine cSeq (fun K107 hK107 => ?_);refine cSR fun K108 hK108=>sMv F rfl rfl rfl (qLen underlying23 rfl rfl rfl (qBin rfl rfl rfl rfl bEql (qNK hK108 ?_)));clear hK108;clear F a;intro a F
   refine cIf F rfl (fun h135 => ?_) (fun h135 => ?_)
   ·
    replace h135 := beqT h135
    have hd0 : d4 = [] := List.eq_nil_of_length_eq_zero (by omega)
    have hr0 : rs = [] := by
      cases rs with
      | nil => rfl
      | cons v rs => have := hrd v List.mem_cons_self; rw [hd0] at this; cases this
    have hp0 : ps.length = 0 := by
      have h1 := congrArg List.length hps
      rw [hr0] at hw;rw [hd0, ends_nil hw] at h1
      simpa using h1
    refine cSR fun K109 hK109=>sMv F rfl rfl rfl (qLen underlying52 rfl rfl rfl (qBin rfl rfl rfl rfl bEql (qMv rfl rfl rfl ?_)));clear F a;intro a F
    refine F.split 139 rfl ?_ ?_ <;> (clear F; intro h139 F)
    ·
     replace h139 := beqT h139;refine sCall call12 F rfl rfl rfl (awake8_any _ (hN.own H) (hT.own H)) ?_;rintro e w ⟨rfl, hb⟩;replace H := H.grow hb; clear hb;refine ⟨_, rfl, ?_⟩;clear F a; intro a F;refine sPk F rfl rfl rfl rfl (qAs rfl rfl rfl (qNK hK109 ?_));clear hK109;clear F a;intro a F;refine wp_ret ?_;simp only [Exit.inBlock, Exit.then];refine bRet results10 F rfl ?_
     first | exact ⟨rfl, H.below⟩ | exact ⟨rfl, (H1.grow H.below).below⟩
    replace h139 := beqF h139
    omega
   replace h135 := beqF h135
   have hpos4 : 0 < min dom.length 4 := by omega
   have hpos : 0 < d4.length := by omega
   refine wp_skip (hK107 _ _ (cSR fun K110 hK110=>sAs F rfl rfl rfl (qNK hK110 ?_)));clear hK107 hK110;clear F a;intro a F
   refine cSeqJ [0, 1, 2, 7, 17, 102] (fun ups w => ∃ ai : Nat, ups = [(25, .int .i64 ((ai : Nat) : Int))] ∧ ai < d4.length ∧ Own W1 none w [.rws 5 1 (.slice A5 rs.length c5) (bRows rs)]) F (by repeat (first | exact SubR.nil | (apply SubR.cons; · rfl))) ?_ ?_
   ·
    refine cSR fun K111 hK111=>sMv F rfl rfl rfl (qMv rfl rfl rfl (qLen underlying23 rfl rfl rfl (qBin rfl rfl rfl rfl bLss (qNK hK111 ?_))));clear hK111;clear F a;intro a F
    refine cIf F rfl (fun h145 => ?_) (fun h145 => ?_)
    ·
     replace h145 := of_decide_eq_true h145
     have hkb : k < byl.length := by omega
     obtain ⟨y, hy⟩ : ∃ y, byl[k]? = some y := ⟨_, List.getElem?_eq_getElem hkb⟩
     obtain ⟨bY, oY, rfl, hcY⟩ := byte_at hB hy
     refine cReg (sMv F rfl rfl rfl (qMv rfl rfl rfl ?_));clear F a;intro a F
     refine sIx underlying23 sizeOf5 F rfl rfl rfl rfl ?_ ?_
     focus omega
     clear F a; intro a F;refine sLd isAgg5 F rfl rfl rfl (H.arg hcY) (qCv underlying5 underlying3 rfl rfl rfl (wrapB _) (qMv rfl rfl rfl (qLen underlying23 rfl rfl rfl ?_)));clear F a;intro a F
     refine sBin F rfl rfl rfl rfl (bRemN ?_) ?_
     focus omega
     clear F a; intro a F;refine sAs F rfl rfl rfl ?_;clear F a;intro a F;refine sNil ?_
     first
     | (have hin := hcY
        have hml : y.toNat % min dom.length 4 < d4.length := by rw [hd4l]; exact Nat.mod_lt _ hpos4
        exact ⟨_, ⟨_, rfl, hml, H.sel [5] rfl rfl⟩, F.to (by repeat (first | exact trivial | refine Le.cons rfl ?_))⟩)
     | exact ⟨_, ⟨0, rfl, hpos, H.sel [5] rfl rfl⟩, F.to (by repeat (first | exact trivial | refine Le.cons rfl ?_))⟩
    replace h145 := of_decide_eq_false h145;refine wp_skip ?_
    first
    | (have hin := hcY
       have hml : y.toNat % min dom.length 4 < d4.length := by rw [hd4l]; exact Nat.mod_lt _ hpos4
       exact ⟨_, ⟨_, rfl, hml, H.sel [5] rfl rfl⟩, F.to (by repeat (first | exact trivial | refine Le.cons rfl ?_))⟩)
    | exact ⟨_, ⟨0, rfl, hpos, H.sel [5] rfl rfl⟩, F.to (by repeat (first | exact trivial | refine Le.cons rfl ?_))⟩
   clear F H
   intro ups a w hI F
   obtain ⟨ai, rfl, hai, H⟩ := hI
   obtain ⟨y, hy⟩ : ∃ y, d4[ai]? = some y := ⟨_, List.getElem?_eq_getElem hai⟩
   obtain ⟨bY, oY, rfl, hcY⟩ := byte_at hD4 hy
   refine cReg (sMv F rfl rfl rfl (qMv rfl rfl rfl (qMv rfl rfl rfl ?_)));clear F a;intro a F
   refine sIx underlying23 sizeOf5 F rfl rfl rfl rfl ?_ ?_
   focus omega
   clear F a; intro a F;refine sLd isAgg5 F rfl rfl rfl (H.arg hcY) ?_;clear F a;intro a F;refine sBs1 H underlying23 sizeOf5 zeroValue5 rfl F rfl rfl rfl rfl ?_;clear F a H; intro b159 a w F H
   refine sApp1 (bytes := 1) H 1 underlying23 typeInfo5 rfl rfl rfl rfl rfl rfl F rfl rfl rfl rfl rfl (H.whole 0 rfl) rfl ?s1 ?s2 ?_
   case s1 => first | rfl | (repeat (first | exact one_nil | (apply one_cons; · first | rfl | assumption | exact one_bif rfl rfl)))
   case s2 => (rw [List.length_map]; omega)
   clear F a H; intro A160 c160 a w F H;refine sAs F rfl rfl rfl (qNK hK91 (qReg ?_));clear hK91;clear F a;intro a F
   refine sBin F rfl rfl rfl rfl (bAddN (j := 1) ?_) ?_
   focus omega
   clear F a; intro a F;refine sMv F rfl rfl rfl ?_;clear F a;intro a F;refine sNil ?_
   have e9 : bRows rs ++ [[Go.Proofs.YtklpiodciblabaaGreatDoor.b8 y]] = bRows (rs ++ [y]) := by simp [bRows]
   have e8 : (bRows (rs ++ [y])).length = (rs ++ [y]).length := List.length_map _
   rw [e9, e8] at H F
   refine ⟨_, ?_, _, ⟨k + 1, _, _, rs ++ [y], rfl, rfl, by rw [List.length_append, List.length_singleton, hrk], fun v hv => ?_, wants_snoc hl hw y, H.sel [1] rfl rfl⟩, F.to (by repeat (first | exact trivial | refine Le.cons rfl ?_))⟩
   · omega
   · rcases List.mem_append.1 hv with h | h
     · exact hrd v h
     · obtain rfl := List.mem_singleton.1 h
       exact List.mem_of_getElem? hy
  replace h103 := of_decide_eq_false h103
  omega
end Go.Proofs.YtklpiodciblabaaGreatDoor
