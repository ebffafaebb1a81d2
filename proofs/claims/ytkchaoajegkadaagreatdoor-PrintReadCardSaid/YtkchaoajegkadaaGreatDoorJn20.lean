/-
  WALK2. seisinkit: SizeCond. Conditions: the condition lies in memory, its slices within their capacities.
-/
import Derived.Test.YtkchaoajegkadaaGreatDoorJn2
import Derived.Test.YtkchaoajegkadaaGreatDoorJn19
import Derived.Test.YtkchaoajegkadaaGreatDoorJn8
set_option linter.unusedSimpArgs false
set_option linter.unusedVariables false
namespace Go.Proofs.YtkchaoajegkadaaGreatDoor
-- KtD
open Go.Proofs.Tryz
open Go.RowKit
set_option maxRecDepth 100000

mutual
def sizeC : Cnd → Nat
  | .mk _ _ _ _ l => sizeL l + 1
def sizeL : List Cnd → Nat
  | [] => 0
  | c :: r => sizeC c + sizeL r
end
theorem sizeL_append : ∀ (a b : List Cnd), sizeL (a ++ b) = sizeL a + sizeL b
  | [], b => by simp [sizeL]
  | c :: r, b => by simp [sizeL, sizeL_append r b]; omega
structure Trees (w : World) (rows : List (List Value)) (cs : List Cnd) : Prop where
  len : rows.length = cs.length
  each : ∀ (j : Nat) (r : List Value) (c : Cnd), rows[j]? = some r → cs[j]? = some c → ∃ h, CapAt w h r c
theorem Trees.add {w : World} {ra rb : List (List Value)} {ca cb : List Cnd} (ha : Trees w ra ca) (hb : Trees w rb cb) : Trees w (ra ++ rb) (ca ++ cb) where
  len := by simp [ha.len, hb.len]
  each := fun j r c h1 h2 => by
    rcases Nat.lt_or_ge j ra.length with hj | hj
    · rw [List.getElem?_append_left hj] at h1
      rw [List.getElem?_append_left (by rw [← ha.len]; exact hj)] at h2
      exact ha.each j r c h1 h2
    · rw [List.getElem?_append_right hj] at h1
      rw [List.getElem?_append_right (by rw [← ha.len]; exact hj), ← ha.len] at h2
      exact hb.each _ r c h1 h2
theorem Trees.take {w : World} {ra : List (List Value)} {ca : List Cnd} (ha : Trees w ra ca) (n : Nat) : Trees w (ra.take n) (ca.take n) where
  len := by simp [ha.len]
  each := fun j r c h1 h2 => by
    rw [List.getElem?_take] at h1 h2
    split at h1
    · rename_i hj
      rw [if_pos hj] at h2
      exact ha.each j r c h1 h2
    · cases h1
theorem Trees.one {w : World} {h : Nat} {r : List Value} {c : Cnd} (hc : CapAt w h r c) : Trees w [r] [c] where
  len := rfl
  each := fun j r' c' h1 h2 => by
    match j with
    | 0 => cases h1; cases h2; exact ⟨h, hc⟩
    | j + 1 => simp at h1
theorem Trees.shape {w : World} {rows : List (List Value)} {cs : List Cnd} (hT : Trees w rows cs) : ∀ r ∈ rows, r.length = 5 ∧ r.all (·.oneCell') = true := fun r hr => by
  obtain ⟨j, hj⟩ := List.mem_iff_getElem?.1 hr
  have hjl := (List.getElem?_eq_some_iff.1 hj).1
  obtain ⟨h, hc⟩ := hT.each j r (cs[j]'(by rw [← hT.len]; exact hjl)) hj (List.getElem?_eq_getElem _)
  obtain ⟨k, t, n, v, A, m, C, rfl⟩ := condShape hc.at
  exact ⟨rfl, rfl⟩
theorem RowsAt.taken {w : World} {A : Option Addr} {sz : Nat} {rows : List (List Value)} (h : RowsAt w A sz rows) (n : Nat) : RowsAt w A sz (rows.take n) := fun j cs hj => by
  rw [List.getElem?_take] at hj
  split at hj
  · exact h j cs hj
  · cases hj
theorem kidRows {w : World} {h : Nat} {A : Option Addr} {kids : List Cnd} (hk : ∀ j kid, kids[j]? = some kid → ∃ b off cs', A = some ⟨b, off, none⟩ ∧ w.rangeAt b (off + j * 5) cs' ∧ CapAt w h cs' kid) :
    ∃ rows, RowsAt w A 5 rows ∧ Trees w rows kids := by
  suffices key : ∀ n, n ≤ kids.length → ∃ rows : List (List Value), rows.length = n ∧ ∀ j r, rows[j]? = some r → ∃ kid b off, kids[j]? = some kid ∧ A = some ⟨b, off, none⟩ ∧ w.rangeAt b (off + j * 5) r ∧ CapAt w h r kid by
    obtain ⟨rows, hl, hr⟩ := key kids.length (Nat.le_refl _)
    refine ⟨rows, fun j r hj => ?_, ⟨hl, fun j r c h1 h2 => ?_⟩⟩
    · obtain ⟨_, b, off, _, h1, h2, _⟩ := hr j r hj
      exact ⟨b, off, h1, h2⟩
    · obtain ⟨kid, _, _, h3, _, _, h4⟩ := hr j r h1
      rw [h2] at h3
      cases h3
      exact ⟨h, h4⟩
  intro n
  induction n with
  | zero => exact fun _ => ⟨[], rfl, fun j r h => by simp at h⟩
  | succ n ih =>
    intro hn
    obtain ⟨rows, hl, hr⟩ := ih (by omega)
    obtain ⟨b, off, cs', h1, h2, h3⟩ := hk n (kids[n]'(by omega)) (List.getElem?_eq_getElem _)
    refine ⟨rows ++ [cs'], by simp [hl], fun j r hj => ?_⟩
    rcases Nat.lt_or_ge j n with hjn | hjn
    · rw [List.getElem?_append_left (by omega)] at hj
      exact hr j r hj
    · rw [List.getElem?_append_right (by omega)] at hj
      obtain rfl : j = n := by
        rcases Nat.eq_or_lt_of_le hjn with e | e
        · exact e.symm
        · rw [List.getElem?_eq_none (by simp; omega)] at hj; cases hj
      rw [hl, Nat.sub_self] at hj
      cases hj
      exact ⟨_, b, off, List.getElem?_eq_getElem (by omega), h1, h2, h3⟩
theorem Own.rowsOf {w0 w : World} {row : Option Nat} {rs : List Res} {b sz : Nat} {e : TypeId} {rows : List (List Value)} (H : Own w0 row w (.blk b rows.flatten e :: rs)) (hl : rows.flatten.length = rows.length * sz) (hm : rows.length ≤ maxLen) :
    Own w0 row w (.rws e sz (.slice (some ⟨b, 0, .none⟩) rows.length rows.length) rows :: rs) :=
  H.seen _ (show w.ownsRow 0 e sz (.slice (some ⟨b, 0, .none⟩) rows.length rows.length) rows.length rows.flatten from ⟨hl, .inr ⟨b, rows.length, rows.flatten.toArray, rfl, Nat.zero_le _, H.blk 0 rfl, Nat.le_refl _, hm, by simpa using hl, by rw [← hl]; exact List.take_length⟩⟩)
    (fun c hc => by
      have : b = c := by simpa [Res.rws, Res.arr, Value.ownBlock] using hc
      exact this.symm)
set_option maxHeartbeats 4000000 in
theorem sizeCond_any (h most : Nat) (ccs : List Value) (c : Cnd) (w0 : World) (hc : CapAt w0 h ccs c) (hm : 0 < most) (hm2 : most ≤ 1000000) :
    Calls Tryz.prog 13 #[.agg ccs.toArray, .int .i64 (most : Int)] w0 fun e w' => ∃ n : Nat, e = .returned (.int .i64 (n : Int)) ∧ n ≤ most ∧ (n < most → sizeC c = n) ∧ Below w0.heap.size w0 w' := by
  obtain ⟨c1, c2, c3, c4, A9, m9, C9, rfl⟩ := condShape hc.at
  have H := Own.start w0 none
  refine enterF func13 rfl ntmps13 rfl (fun a F => ?_);refine cSR fun K1 hK1=>?_;refine sBx H F rfl rfl rfl ?_;clear F a H; intro b2 a w F H;refine sAs F rfl rfl rfl (qNK hK1 (qSR fun K2 hK2=>?_));clear hK1;clear F a;intro a F
  refine sLr underlying27 rfl ?si F rfl rfl rfl (H.whole 0 rfl) ?_
  case si => exact info_size sizeOf27
  clear F a; intro a F;refine sBsA H underlying25 sizeOf27 zeroValue27 rfl F rfl rfl rfl rfl rfl ?_;clear F a H; intro b8 a w F H;refine sAs F rfl rfl rfl (qNK hK2 ?_);clear hK2;clear F a;intro a F;refine cSeq (fun K3 hK3 => ?_);refine cSR fun K4 hK4=>sAs F rfl rfl rfl (qNK hK4 ?_);clear hK4;clear F a;intro a F;refine wp_block ?_
  refine cLoopR [1] (fun m ups w => ∃ (i : Nat) (A5 : Option Addr) (k5 : Nat) (rows : List (List Value)) (cs : List Cnd), m = most - i ∧ ups = [(5, .slice A5 rows.length k5), (6, .int .i64 ((i : Nat) : Int))] ∧ Trees w0 rows cs ∧ i ≤ rows.length ∧ i ≤ most ∧ (rows.length < most → sizeC c = i + sizeL (cs.drop i)) ∧ rows.length ≤ 2 * most ∧ Own w0 none w [.rws 27 5 (.slice A5 rows.length k5) rows]) F (most) [(5, .slice (some ⟨b8, 0, none⟩) 1 1), (6, .int .i64 ((0 : Nat) : Int))] (by repeat (first | exact SubR.nil | (apply SubR.cons; · rfl))) ?_ ?_ ?_
  · exact ⟨0, some ⟨b8, 0, none⟩, 1, [_], [c], rfl, rfl, .one hc, by simp, by omega, fun _ => by simp [sizeL], by simp; omega, (H.pick 0 rfl).rowsOf (rows := [_]) rfl (show 1 ≤ maxLen by decide)⟩
  · repeat (first | exact trivial | refine Le.cons rfl ?_)
  clear F
  clear H
  intro m ups a w hI F
  obtain ⟨i, A5, k5, rows, cs, rfl, rfl, hT, hi, him, hs, hb, H⟩ := hI
  have hsh := hT.shape
  refine cSeq (fun K5 hK5 => ?_);refine cSR fun K6 hK6=>sMv F rfl rfl rfl (qMv rfl rfl rfl (qLen underlying25 rfl rfl rfl (qBin rfl rfl rfl rfl bLss (qMv rfl rfl rfl ?_))));clear F a;intro a F
  refine F.split 13 rfl ?_ ?_ <;> (clear F; intro h13 F)
  ·
   replace h13 := of_decide_eq_true h13;refine sMv F rfl rfl rfl (qLen underlying25 rfl rfl rfl (qMv rfl rfl rfl (qBin rfl rfl rfl rfl bLss (qPk rfl rfl rfl rfl (qNK hK6 ?_)))));clear hK6;clear F a;intro a F
   refine cIf F rfl (fun h18 => ?_) (fun h18 => ?_)
   ·
    replace h18 := of_decide_eq_true h18
    have hil : i < rows.length := by omega
    obtain ⟨r, hr⟩ : ∃ r, rows[i]? = some r := ⟨_, List.getElem?_eq_getElem hil⟩
    obtain ⟨x, hx⟩ : ∃ x, cs[i]? = some x := ⟨_, List.getElem?_eq_getElem (by rw [← hT.len]; exact hil)⟩
    obtain ⟨h9, hc9⟩ := hT.each i r x hr hx
    obtain ⟨k', t', n', v', kids⟩ := x
    obtain ⟨h9, rfl⟩ : ∃ q, h9 = q + 1 := by
     cases h9 with
     | zero => exact hc9.elim
     | succ q => exact ⟨q, rfl⟩
    obtain ⟨KA, KC, rfl, hk1, hk2, hk3⟩ := hc9
    obtain ⟨krows, hkr, hkt⟩ := kidRows hk3
    have hksh := hkt.shape
    have hkl := hkt.len
    obtain ⟨bR, oR, rfl, _⟩ := H.rowsAt 0 rfl (fun r hr => (hsh r hr).1) (by decide) i _ hr
    have hrow : ∀ w, Own w0 none w [.rws 27 5 (.slice (some ⟨bR, oR, none⟩) rows.length k5) rows] → w.rangeAt bR (oR + i * 5) [Go.Proofs.YtkchaoajegkadaaGreatDoor.b8 k', Go.Proofs.YtkchaoajegkadaaGreatDoor.b8 t', Go.Proofs.YtkchaoajegkadaaGreatDoor.b8 n', Go.Proofs.YtkchaoajegkadaaGreatDoor.b8 v', .slice KA kids.length KC] := fun w H => by
     obtain ⟨_, _, he, hq⟩ := H.rowsAt 0 rfl (fun r hr => (hsh r hr).1) (by decide) i _ hr
     cases he
     exact hq
    refine wp_skip (hK5 _ _ ?_);clear hK5;refine cSeq (fun K7 hK7 => ?_);refine wp_block ?_;refine cRegRO (by kernel_rfl) H ?_;replace H := H.drew;refine eTF 0 rfl (by kernel_rfl) F rfl rfl rfl (fun w=>rMv F rfl) H qq0 (qTF 1 rfl (by kernel_rfl) rfl rfl rfl (fun a F w=>rMv F rfl) H qq0 (qTF 2 rfl (by kernel_rfl) rfl rfl rfl (fun a F w=>rMv F rfl) H qq0 ?_));clear F a;intro a F
    refine eTakeF (k := 3) (i := 3) rfl (by kernel_rfl) F rfl rfl rfl (fun w => rIx underlying25 sizeOf27 F rfl rfl ?_) H (fun _ _ _ h => h) ?_
    focus (first | omega | decide | (simp; omega))
    clear F a; intro a F;refine eTF 4 rfl (by kernel_rfl) F rfl rfl rfl (fun w=>rFa (f := 4) (k := _ + 4) underlying27 rfl sizeOf25 rfl rfl F rfl) H qq0 (qT 5 rfl (by kernel_rfl) rfl rfl rfl rfl (fun a F w H=>rLd isAgg25 F rfl (hrow _ H 4 _ rfl)) H qq0 (qTF 6 rfl (by kernel_rfl) rfl rfl rfl (fun a F w=>rMv F rfl) H qq0 (qTF 7 rfl (by kernel_rfl) rfl rfl rfl (fun a F w=>rMv F rfl) H qq0 ?_)));clear F a;intro a F
    refine eTakeF (k := 8) (i := 8) rfl (by kernel_rfl) F rfl rfl rfl (fun w => rIx underlying25 sizeOf27 F rfl rfl ?_) H (fun _ _ _ h => h) ?_
    focus (first | omega | decide | (simp; omega))
    clear F a; intro a F;refine eTF 9 rfl (by kernel_rfl) F rfl rfl rfl (fun w=>rFa (f := 4) (k := _ + 4) underlying27 rfl sizeOf25 rfl rfl F rfl) H qq0 (qT 10 rfl (by kernel_rfl) rfl rfl rfl rfl (fun a F w H=>rLd isAgg25 F rfl (hrow _ H 4 _ rfl)) H qq0 (qT 11 rfl (by kernel_rfl) rfl rfl rfl rfl (fun a F w H=>rLen underlying25 F rfl) H qq0 (qTF 12 rfl (by kernel_rfl) rfl rfl rfl (fun a F w=>rMv F rfl) H qq0 (qT 13 rfl (by kernel_rfl) rfl rfl rfl rfl (fun a F w H=>rMinN F rfl rfl) H qq0 ?_))));clear F a;intro a F
    refine eTake (k := 14) (i := 14) rfl (by kernel_rfl) F rfl rfl rfl rfl (fun w H => rSlH underlying25 (fun w => ⟨_, sizeOf27 w⟩) F rfl rfl ?_) H (fun _ _ _ h => h) ?_
    focus (first | omega | decide | (simp; omega))
    clear F a; intro a F;refine eOne (k := 15) (i := 15) rfl (by kernel_rfl) F rfl (oAppO (bytes := 32) (sz := 5) H 0 underlying25 typeInfo27 rfl rfl rfl rfl rfl rfl F rfl rfl rfl rfl ?hm (((hkr.taken (min kids.length most)).own H)) ((fun r hr => (hksh r (List.mem_of_mem_take hr)).1)) ((fun r hr => (hksh r (List.mem_of_mem_take hr)).2)) ?hb ?_)
    case hm => first | rfl | (simp; done) | omega | (simp only [List.length_take, List.length_map]; omega) | (simp; omega)
    case hb => exact ((by omega))
    clear F a H; intro A36 c36 a w F H;refine ePartO (by kernel_rfl) H ?_;refine eTF 16 rfl (by kernel_rfl) F rfl rfl rfl (fun w=>rAs F rfl) H qq0 ?_;clear F a;intro a F;refine eNil (k := 17) (by kernel_rfl) ?_;refine hK7 _ _ (cReg (sMv F rfl rfl rfl ?_));clear hK7;clear F a;intro a F
    refine sBin F rfl rfl rfl rfl (bAddN (j := 1) ?_) ?_
    focus omega
    clear F a; intro a F;refine sAs F rfl rfl rfl ?_;clear F a;intro a F;refine sNil ?_
    (have e : (rows ++ krows.take (min kids.length most)).length = rows.length + min kids.length most := by rw [List.length_append, List.length_take]; omega
     have hq : (rows ++ krows.take (min kids.length most)).length < most → sizeC c = i + 1 + sizeL ((cs ++ kids.take (min kids.length most)).drop (i + 1)) := fun hlt => by
      have e1 := hs (by omega)
      have hic := (List.getElem?_eq_some_iff.1 hx).1
      rw [(List.drop_eq_getElem_cons hic), (List.getElem?_eq_some_iff.1 hx).2] at e1;rw [List.take_of_length_le (by omega), List.drop_append_of_le_length (by omega), sizeL_append, e1, sizeL, sizeC]
      omega
     exact ⟨_, by omega, _, ⟨i + 1, A36, c36, _, _, rfl, rfl, hT.add (hkt.take _), by omega, by omega, hq, by omega, H.sel [0] rfl rfl⟩, F.to (by repeat (first | exact trivial | refine Le.cons rfl ?_))⟩)
   replace h18 := of_decide_eq_false h18;refine wp_exit ?_;refine hK3 _ _ (cSR fun K8 hK8=>sMv F rfl rfl rfl (qLen underlying25 rfl rfl rfl (qMv rfl rfl rfl (qMinN rfl rfl rfl rfl (qAs rfl rfl rfl (qNK hK8 ?_))))));clear hK3 hK8;clear F a;intro a F;refine wp_ret ?_;refine bRet results13 F rfl ?_
   refine ⟨min rows.length most, rfl, by omega, fun hlt => ?_, H.below⟩
   have hlt2 : rows.length < most := by omega
   obtain rfl : i = rows.length := Nat.le_antisymm hi (by omega)
   rw [hs hlt2, List.drop_eq_nil_of_le (by rw [hT.len]; exact Nat.le_refl _), sizeL]
   omega
  replace h13 := of_decide_eq_false h13;refine sSk F rfl rfl (qSk rfl rfl (qSk rfl rfl (qSk rfl rfl (qPk rfl rfl rfl rfl (qNK hK6 ?_)))));clear hK6;clear F a;intro a F;refine cIfF F rfl ?_;refine wp_exit ?_;refine hK3 _ _ (cSR fun K9 hK9=>sMv F rfl rfl rfl (qLen underlying25 rfl rfl rfl (qMv rfl rfl rfl (qMinN rfl rfl rfl rfl (qAs rfl rfl rfl (qNK hK9 ?_))))));clear hK3 hK9;clear F a;intro a F;refine wp_ret ?_;refine bRet results13 F rfl ?_
  refine ⟨min rows.length most, rfl, by omega, fun hlt => ?_, H.below⟩
  have hlt2 : rows.length < most := by omega
  obtain rfl : i = rows.length := Nat.le_antisymm hi (by omega)
  rw [hs hlt2, List.drop_eq_nil_of_le (by rw [hT.len]; exact Nat.le_refl _), sizeL]
  omega
-- PgC
open Go.RowKit
def ThreadsCap (w : World) (A : Option Addr) (l : List (List Ins)) : Prop := ∀ (j : Nat) (t : List Ins), l[j]? = some t → ∃ b off B C, A = some ⟨b, off, none⟩ ∧ w.cell? ⟨b, off + j * 1, none⟩ = some (.slice B t.length C) ∧ RowsAt w B 10 (t.map Ins.cells) ∧ t.length ≤ C ∧ C ≤ 9223372036854775807
theorem ThreadsCap.at {w : World} {A : Option Addr} {l : List (List Ins)} (h : ThreadsCap w A l) : ThreadsAt w A l := fun j t hj => by
  obtain ⟨b, off, B, C, h1, h2, h3, h4, h5⟩ := h j t hj
  exact ⟨b, off, B, C, h1, h2, h3, by omega⟩
structure ProgCapIn (w : World) (cs : List Value) (p : Prg) (LA : Option Addr) (LC : Nat) (IA : Option Addr) (IC : Nat) (TA : Option Addr) (TC h : Nat) (ccs : List Value) : Prop where
  prog : ProgIn w cs p LA LC IA IC TA TC h ccs
  cond : CapAt w h ccs p.cond
  threads : ThreadsCap w TA p.threads
  initC : p.init.length ≤ IC
  threadsC : p.threads.length ≤ TC
def ProgCap (w : World) (cs : List Value) (p : Prg) : Prop := ∃ LA LC IA IC TA TC h ccs, ProgCapIn w cs p LA LC IA IC TA TC h ccs
theorem ThreadsCap.own {w0 w : World} {rs : List Res} {A : Option Addr} {l : List (List Ins)} (h : ThreadsCap w0 A l) (H : Own w0 none w rs) : ThreadsCap w A l := fun j t hj => by
  obtain ⟨b, off, B, C, h1, h2, h3, h4, h5⟩ := h j t hj
  exact ⟨b, off, B, C, h1, H.arg h2, h3.own H, h4, h5⟩
theorem ProgCapIn.own {w0 w : World} {rs : List Res} {cs : List Value} {p : Prg} {LA IA TA : Option Addr} {LC IC TC h : Nat} {ccs : List Value} (hp : ProgCapIn w0 cs p LA LC IA IC TA TC h ccs) (H : Own w0 none w rs) : ProgCapIn w cs p LA LC IA IC TA TC h ccs :=
  ⟨hp.prog.own H, hp.cond.own H, hp.threads.own H, hp.initC, hp.threadsC⟩
-- KtG
open Go.Proofs.Tryz
open Go.RowKit
set_option maxRecDepth 100000

section
variable {P : Program} {t : TypeId} {x y : Operand} {n m : Int}
theorem bAddW : BinR P .add t x y (.int .i64 n) (.int .i64 m) (.int .i64 (IntKind.i64.wrap (n + m))) := fun w => by
  have : (do eqGuard .add t x y (.int .i64 n) (.int .i64 m); binOp .add t (.int .i64 n) (.int .i64 m) : Sem Value).run P w = .ok (.int .i64 (IntKind.i64.wrap (n + m))) w := by simp [eqGuard, binOp, Op.intArith, go_sem]
  exact this
end
theorem wrapI {n : Int} (h1 : -9223372036854775808 ≤ n) (h2 : n ≤ 9223372036854775807) : IntKind.i64.wrap n = n := by
  simp [IntKind.wrap, IntKind.signed, IntKind.bits, IntKind.min, IntKind.max]
  omega
def Small (p : Prg) : Prop := p.locs.length ≤ 1000 ∧ p.init.length ≤ 1000 ∧ p.threads.length ≤ 1000 ∧ ∀ t ∈ p.threads, t.length ≤ 1000
set_option maxHeartbeats 4000000 in
theorem sizeProg_any (cs : List Value) (p : Prg) (LA : Option Addr) (LC : Nat) (IA : Option Addr) (IC : Nat) (TA : Option Addr) (TC h : Nat) (ccs : List Value) (most : Nat) (w0 : World) (hp : ProgCapIn w0 cs p LA LC IA IC TA TC h ccs) (hm : most ≤ 100000) :
    Calls Tryz.prog 8 #[.agg cs.toArray, .int .i64 (most : Int)] w0 fun e w' => ∃ r : Int, e = .returned (.int .i64 r) ∧ (Small p → r ≤ (most : Int) → sizeC p.cond ≤ most) ∧ Below w0.heap.size w0 w' := by
  obtain ⟨a1, a2, a3, a4, a5, a6, a7, rfl⟩ := condShape hp.cond.at
  have hcs := hp.prog.cs
  simp only [List.cons_append, List.nil_append] at hcs
  subst hcs
  have hl1 := hp.prog.locsN
  have hl2 := hp.prog.initN
  have hl3 := hp.prog.threadsN
  have H := Own.start w0 none
  refine enterF func8 rfl ntmps8 rfl (fun a F => ?_);refine cSR fun K1 hK1=>?_;refine sBx H F rfl rfl rfl ?_;clear F a H; intro b2 a w F H;refine sAs F rfl rfl rfl (qNK hK1 (qSR fun K2 hK2=>qFa (f := 1) (k := 1) underlying29 rfl sizeOf22 rfl rfl rfl rfl rfl (qLd isAgg22 rfl rfl rfl (H.cell 0 rfl rfl) (qLen underlying22 rfl rfl rfl (qFa (f := 2) (k := 2) underlying29 rfl sizeOf23 rfl rfl rfl rfl rfl (qLd isAgg23 rfl rfl rfl (H.cell 0 rfl rfl) (qLen underlying23 rfl rfl rfl (qBin rfl rfl rfl rfl bAddW (qFa (f := 3) (k := 3) underlying29 rfl sizeOf24 rfl rfl rfl rfl rfl (qLd isAgg24 rfl rfl rfl (H.cell 0 rfl rfl) (qLen underlying24 rfl rfl rfl (qBin rfl rfl rfl rfl bAddW (qAs rfl rfl rfl (qNK hK2 ?_))))))))))))));clear hK1 hK2;clear F a;intro a F;refine cSeq (fun K3 hK3 => ?_);refine cSR fun K4 hK4=>sAs F rfl rfl rfl (qNK hK4 ?_);clear hK4;clear F a;intro a F;refine wp_block ?_
  refine cLoopR [1, 2] (fun m ups w => ∃ (i : Nat) (n : Int), m = p.threads.length - i ∧ ups = [(5, .int .i64 n), (6, .int .i64 ((i : Nat) : Int))] ∧ i ≤ p.threads.length ∧ (Small p → 0 ≤ n ∧ n ≤ 3000 + 1000 * i) ∧ Own w0 none w [.blk b2 ([.string p.name, .slice LA p.locs.length LC, .slice IA p.init.length IC, .slice TA p.threads.length TC, b8 p.ask] ++ [Go.Proofs.YtkchaoajegkadaaGreatDoor.b8 a1, Go.Proofs.YtkchaoajegkadaaGreatDoor.b8 a2, Go.Proofs.YtkchaoajegkadaaGreatDoor.b8 a3, Go.Proofs.YtkchaoajegkadaaGreatDoor.b8 a4, .slice a5 a6 a7]) 29]) F (p.threads.length) [(5, .int .i64 (IntKind.i64.wrap (IntKind.i64.wrap (((p.locs.length : Nat) : Int) + ((p.init.length : Nat) : Int)) + ((p.threads.length : Nat) : Int)))), (6, .int .i64 ((0 : Nat) : Int))] (by repeat (first | exact SubR.nil | (apply SubR.cons; · rfl))) ?_ ?_ ?_
  · refine ⟨0, _, rfl, rfl, by omega, fun hs => ?_, H.sel [0] rfl rfl⟩
    obtain ⟨h1, h2, h3, _⟩ := hs
    rw [wrapI (n := ((p.locs.length : Nat) : Int) + ((p.init.length : Nat) : Int)) (by omega) (by omega), wrapI (by omega) (by omega)]
    omega
  · repeat (first | exact trivial | refine Le.cons rfl ?_)
  clear F
  clear H
  intro m ups a w hI F
  obtain ⟨i, n, rfl, rfl, hi, hn, H⟩ := hI
  refine cSeq (fun K5 hK5 => ?_);refine cSR fun K6 hK6=>sMv F rfl rfl rfl (qFa (f := 3) (k := 3) underlying29 rfl sizeOf24 rfl rfl rfl rfl rfl (qLd isAgg24 rfl rfl rfl (H.cell 0 rfl rfl) (qLen underlying24 rfl rfl rfl (qBin rfl rfl rfl rfl bLss (qMv rfl rfl rfl ?_)))));clear F a;intro a F
  refine F.split 23 rfl ?_ ?_ <;> (clear F; intro h23 F)
  ·
   replace h23 := of_decide_eq_true h23;refine sMv F rfl rfl rfl (qMv rfl rfl rfl (qBin rfl rfl rfl rfl bLeq (qPk rfl rfl rfl rfl (qNK hK6 ?_))));clear hK6;clear F a;intro a F
   refine cIf F rfl (fun h27 => ?_) (fun h27 => ?_)
   ·
    replace h27 := of_decide_eq_true h27
    obtain ⟨t, ht⟩ : ∃ t, p.threads[i]? = some t := ⟨_, List.getElem?_eq_getElem (by omega)⟩
    obtain ⟨bT, oT, XT, XC, rfl, hTx, _, htl, htc⟩ := hp.threads i t ht
    refine wp_skip (hK5 _ _ ?_);clear hK5;refine cSeq (fun K7 hK7 => ?_);refine wp_block ?_;refine cReg (sMv F rfl rfl rfl (qFa (f := 3) (k := 3) underlying29 rfl sizeOf24 rfl rfl rfl rfl rfl (qLd isAgg24 rfl rfl rfl (H.cell 0 rfl rfl) (qMv rfl rfl rfl ?_))));clear F a;intro a F
    refine sIx underlying24 sizeOf52 F rfl rfl rfl rfl ?_ ?_
    focus (first | omega | decide | (simp; omega))
    clear F a; intro a F;refine sLd isAgg52 F rfl rfl rfl (H.arg hTx) (qLen underlying52 rfl rfl rfl (qBin rfl rfl rfl rfl bAddW (qAs rfl rfl rfl (qNK hK7 (qReg (qMv rfl rfl rfl ?_))))));clear hK7;clear F a;intro a F
    refine sBin F rfl rfl rfl rfl (bAddN (j := 1) ?_) ?_
    focus omega
    clear F a; intro a F;refine sAs F rfl rfl rfl ?_;clear F a;intro a F;refine sNil ?_
    (refine ⟨_, by omega, _, ⟨i + 1, _, rfl, rfl, by omega, fun hs => ?_, H.sel [0] rfl rfl⟩, F.to (by repeat (first | exact trivial | refine Le.cons rfl ?_))⟩
     obtain ⟨hn1, hn2⟩ := hn hs
     have ht1 := hs.2.2.2 t (List.mem_of_getElem? ht)
     rw [wrapI (by omega) (by omega)]
     omega)
   replace h27 := of_decide_eq_false h27;refine wp_exit ?_;refine hK3 _ _ (cSR fun K8 hK8=>sMv F rfl rfl rfl (qFa (f := 5) (k := 5) underlying29 rfl sizeOf27 rfl rfl rfl rfl rfl ?_));clear hK3;clear F a;intro a F
   refine sLr underlying27 rfl ?si F rfl rfl rfl (H.range 0 rfl _ 5) ?_
   case si => exact info_size sizeOf27
   clear F a; intro a F;refine sMv F rfl rfl rfl ?_;clear F a;intro a F
   refine sBin F rfl rfl rfl rfl (bAddI ?_) ?_
   focus omega
   clear F a; intro a F;refine sCall call13 F rfl rfl rfl (sizeCond_any h (most + 1) _ p.cond _ (hp.cond.own H) (by omega) (by omega)) ?_;rintro e w ⟨n43, rfl, hn1, hn2, hb⟩;replace H := H.grow hb; clear hb;refine ⟨_, rfl, ?_⟩;clear F a; intro a F;refine sBin F rfl rfl rfl rfl bAddW (qAs rfl rfl rfl (qNK hK8 ?_));clear hK8;clear F a;intro a F;refine wp_ret ?_;refine bRet results8 F rfl ?_
   refine ⟨_, rfl, fun hs hr => ?_, H.below⟩
   obtain ⟨hk1, hk2⟩ := hn hs
   have ht3 := hs.2.2.1
   rw [wrapI (by omega) (by omega)] at hr;rw [hn2 (by omega)]
   omega
  replace h23 := of_decide_eq_false h23;refine sSk F rfl rfl (qSk rfl rfl (qSk rfl rfl (qPk rfl rfl rfl rfl (qNK hK6 ?_))));clear hK6;clear F a;intro a F;refine cIfF F rfl ?_;refine wp_exit ?_;refine hK3 _ _ (cSR fun K9 hK9=>sMv F rfl rfl rfl (qFa (f := 5) (k := 5) underlying29 rfl sizeOf27 rfl rfl rfl rfl rfl ?_));clear hK3;clear F a;intro a F
  refine sLr underlying27 rfl ?si F rfl rfl rfl (H.range 0 rfl _ 5) ?_
  case si => exact info_size sizeOf27
  clear F a; intro a F;refine sMv F rfl rfl rfl ?_;clear F a;intro a F
  refine sBin F rfl rfl rfl rfl (bAddI ?_) ?_
  focus omega
  clear F a; intro a F;refine sCall call13 F rfl rfl rfl (sizeCond_any h (most + 1) _ p.cond _ (hp.cond.own H) (by omega) (by omega)) ?_;rintro e w ⟨n43, rfl, hn1, hn2, hb⟩;replace H := H.grow hb; clear hb;refine ⟨_, rfl, ?_⟩;clear F a; intro a F;refine sBin F rfl rfl rfl rfl bAddW (qAs rfl rfl rfl (qNK hK9 ?_));clear hK9;clear F a;intro a F;refine wp_ret ?_;refine bRet results8 F rfl ?_
  refine ⟨_, rfl, fun hs hr => ?_, H.below⟩
  obtain ⟨hk1, hk2⟩ := hn hs
  have ht3 := hs.2.2.1
  rw [wrapI (by omega) (by omega)] at hr;rw [hn2 (by omega)]
  omega
-- LcA
open Go.Proofs.Tryz
open Go.RowKit
set_option maxRecDepth 100000
theorem size6_any (A : Option Addr) (C : Nat) (l : List ByteArray) (w0 : World) (hA : StrsAt w0 A l) (hl : l.length ≤ 9223372036854775807) :
    Calls Tryz.prog 9 #[.slice A l.length C] w0 fun e w' => ∃ r : Int, e = .returned (.int .i64 r) ∧ Below w0.heap.size w0 w' := by
  have H := Own.start w0 none
  refine enterF func9 rfl ntmps9 rfl (fun a F => ?_);refine cSR fun K1 hK1=>sAs F rfl rfl rfl (qNK hK1 (qSR fun K2 hK2=>qAs rfl rfl rfl (qNK hK2 ?_)));clear hK1 hK2;clear F a;intro a F;refine cSeq (fun K3 hK3 => ?_);refine cSR fun K4 hK4=>sAs F rfl rfl rfl (qNK hK4 ?_);clear hK4;clear F a;intro a F;refine wp_block ?_
  refine cLoopR [0] (fun m ups w => ∃ (i : Nat) (n : Int), m = l.length - i ∧ ups = [(3, .int .i64 n), (4, .int .i64 ((i : Nat) : Int))] ∧ i ≤ l.length ∧ Own w0 none w []) F (l.length) [(3, .int .i64 (0 : Int)), (4, .int .i64 ((0 : Nat) : Int))] (by repeat (first | exact SubR.nil | (apply SubR.cons; · rfl))) ?_ ?_ ?_
  · exact ⟨0, _, rfl, rfl, Nat.zero_le _, H.sel [] rfl rfl⟩
  · repeat (first | exact trivial | refine Le.cons rfl ?_)
  clear F
  clear H
  intro m ups a w hI F
  obtain ⟨i, n, rfl, rfl, hi, H⟩ := hI
  refine cSeq (fun K5 hK5 => ?_);refine cSR fun K6 hK6=>sMv F rfl rfl rfl (qMv rfl rfl rfl (qLen underlying22 rfl rfl rfl (qBin rfl rfl rfl rfl bLss (qMv rfl rfl rfl ?_))));clear F a;intro a F
  refine F.split 9 rfl ?_ ?_ <;> (clear F; intro h9 F)
  ·
   replace h9 := of_decide_eq_true h9;refine sMv F rfl rfl rfl (qBin rfl rfl rfl rfl bLeq (qPk rfl rfl rfl rfl (qNK hK6 ?_)));clear hK6;clear F a;intro a F
   refine cIf F rfl (fun h12 => ?_) (fun h12 => ?_)
   ·
    replace h12 := of_decide_eq_true h12
    have hil : i < l.length := by omega
    obtain ⟨x, hx⟩ : ∃ x, l[i]? = some x := ⟨_, List.getElem?_eq_getElem hil⟩
    obtain ⟨bL, oL, rfl, hLx⟩ := mapAt hA hx
    refine wp_skip (hK5 _ _ ?_);clear hK5;refine cSeq (fun K7 hK7 => ?_);refine wp_block ?_;refine cReg (sMv F rfl rfl rfl (qMv rfl rfl rfl (qMv rfl rfl rfl ?_)));clear F a;intro a F
    refine sIx underlying22 sizeOf9 F rfl rfl rfl rfl ?_ ?_
    focus (first | omega | decide | (simp; omega))
    clear F a; intro a F;refine sLd isAgg9 F rfl rfl rfl (H.arg (hLx 0 _ rfl)) (qLenS underlying9 rfl rfl rfl (qBin rfl rfl rfl rfl bAddW (qAs rfl rfl rfl (qNK hK7 (qReg (qMv rfl rfl rfl ?_))))));clear hK7;clear F a;intro a F
    refine sBin F rfl rfl rfl rfl (bAddN (j := 1) ?_) ?_
    focus omega
    clear F a; intro a F;refine sAs F rfl rfl rfl ?_;clear F a;intro a F;refine sNil ?_
    exact ⟨_, by omega, _, ⟨i + 1, _, rfl, rfl, by omega, H.sel [] rfl rfl⟩, F.to (by repeat (first | exact trivial | refine Le.cons rfl ?_))⟩
   replace h12 := of_decide_eq_false h12;refine wp_exit ?_;refine hK3 _ _ (cSR fun K8 hK8=>sMv F rfl rfl rfl (qAs rfl rfl rfl (qNK hK8 ?_)));clear hK3 hK8;clear F a;intro a F;refine wp_ret ?_;refine bRet results9 F rfl ?_
   exact ⟨_, rfl, H.below⟩
  replace h9 := of_decide_eq_false h9;refine sSk F rfl rfl (qSk rfl rfl (qPk rfl rfl rfl rfl (qNK hK6 ?_)));clear hK6;clear F a;intro a F;refine cIfF F rfl ?_;refine wp_exit ?_;refine hK3 _ _ (cSR fun K9 hK9=>sMv F rfl rfl rfl (qAs rfl rfl rfl (qNK hK9 ?_)));clear hK3 hK9;clear F a;intro a F;refine wp_ret ?_;refine bRet results9 F rfl ?_
  exact ⟨_, rfl, H.below⟩
def exP6 : Prg := ⟨⟨#[83, 66]⟩, [⟨#[120]⟩, ⟨#[121]⟩], [1, 0], [[⟨2, 0, 0, false, 1, false, 0, 0, 0, 0⟩, ⟨1, 1, 1, false, 0, false, 0, 0, 1, 0⟩], [⟨2, 0, 1, false, 2, false, 0, 0, 2, 0⟩]], 1, .mk 4 0 0 0 [.mk 3 0 0 0 [.mk 1 0 1 0 [], .mk 5 0 0 0 [.mk 2 0 0 1 []]], .mk 0 0 0 0 []]⟩
def exT6 : List UInt8 := [116, 101, 115, 116, 32, 83, 66, 10, 105, 110, 105, 116, 32, 120, 32, 61, 32, 49, 32, 121, 32, 61, 32, 48, 10, 116, 104, 114, 101, 97, 100, 10, 120, 32, 61, 32, 49, 10, 114, 49, 32, 61, 32, 121, 32, 97, 99, 113, 10, 116, 104, 114, 101, 97, 100, 10, 121, 32, 61, 32, 50, 32, 114, 101, 108, 10, 115, 111, 109, 101, 32, 48, 58, 114, 49, 32, 61, 32, 48, 32, 38, 32, 33, 32, 120, 32, 61, 32, 49, 32, 124, 32, 116, 114, 117, 101, 10]
def exC6 : Cnd := .mk 5 0 0 0 [.mk 4 0 0 0 [.mk 2 0 0 1 [], .mk 2 0 1 2 []]]
def exN6 : List ByteArray := [⟨#[120]⟩, ⟨#[121]⟩]
theorem ex6_text : printT exP6 = exT6 := by decide +kernel
theorem ex6_parse : parseT (mk exT6) = .inr exP6 := by kernel_rfl
theorem ex6_ans {s : ByteArray} {n : Int} (h : PrintAns exP6 s n) : s = mk exT6 ∧ n = 0 := by
  unfold PrintAns at h
  rw [ex6_text] at h
  rcases h with ⟨h, _⟩ | ⟨_, h, _⟩ | ⟨_, _, h1, h2⟩
  · exact absurd h (by decide)
  · exact absurd ex6_parse h
  · exact ⟨h1, h2⟩
def exU6 : List UInt8 := [33, 32, 40, 32, 120, 32, 61, 32, 49, 32, 124, 32, 121, 32, 61, 32, 50, 32, 41]
theorem ex6_ctext : condTx exN6 exC6 = exU6 := by decide +kernel
theorem ex6_cparse : condT (mk exU6) exN6 = .inr exC6 := by kernel_rfl
theorem ex6_cans {s : ByteArray} {n : Int} (h : CondAns exN6 exC6 s n) : s = mk exU6 ∧ n = 0 := by
  unfold CondAns at h
  rw [ex6_ctext] at h
  rcases h with ⟨h, _⟩ | ⟨_, h, _⟩ | ⟨_, _, h1, h2⟩
  · exact absurd h (by decide)
  · exact absurd ex6_cparse h
  · exact ⟨h1, h2⟩
theorem rowsOf {w : World} {b sz : Nat} {rows : List (List Value)} (h : w.rangeAt b 0 rows.flatten) (hr : ∀ r ∈ rows, r.length = sz) : RowsAt w (some ⟨b, 0, none⟩) sz rows := by
  intro j cs hj
  refine ⟨b, 0, rfl, fun k v hk => ?_⟩
  have key : ∀ (rows : List (List Value)), (∀ r ∈ rows, r.length = sz) → ∀ j cs, rows[j]? = some cs → ∀ k v, cs[k]? = some v → rows.flatten[j * sz + k]? = some v := by
    intro rows
    induction rows with
    | nil => intro _ j cs hj; simp at hj
    | cons r rs ih =>
      intro hr j cs hj k v hk
      have h0 := hr r (by simp)
      cases j with
      | zero =>
        cases hj
        have hkl := (List.getElem?_eq_some_iff.1 hk).1
        rw [Nat.zero_mul, Nat.zero_add, List.flatten_cons, List.getElem?_append_left hkl]
        exact hk
      | succ j =>
        rw [List.flatten_cons, List.getElem?_append_right (by rw [h0, Nat.succ_mul]; omega)]
        have := ih (fun r h => hr r (by simp [h])) j cs (by simpa using hj) k v hk
        rw [h0, show (j + 1) * sz + k - sz = j * sz + k by rw [Nat.succ_mul]; omega]
        exact this
  have := h (j * sz + k) v (key rows hr j cs hj k v hk)
  rw [← Nat.add_assoc] at this
  exact this
theorem condMk {w : World} {h : Nat} {k t n v : UInt8} {A : Option Addr} {C : Nat} {kids : List Cnd} {rows : List (List Value)} (hl : kids.length ≤ 9223372036854775807) (hA : RowsAt w A 5 rows) (hn : kids.length = rows.length) (hk : ∀ (j : Nat) (r : List Value) (kid : Cnd), rows[j]? = some r → kids[j]? = some kid → CondAt w h r kid) :
    CondAt w (h + 1) [Go.Proofs.YtkchaoajegkadaaGreatDoor.b8 k, Go.Proofs.YtkchaoajegkadaaGreatDoor.b8 t, Go.Proofs.YtkchaoajegkadaaGreatDoor.b8 n, Go.Proofs.YtkchaoajegkadaaGreatDoor.b8 v, .slice A kids.length C] (.mk k t n v kids) := ⟨A, C, rfl, hl, fun j kid hj => by
  have hjl := (List.getElem?_eq_some_iff.1 hj).1
  obtain ⟨r, hr⟩ : ∃ r, rows[j]? = some r := ⟨_, List.getElem?_eq_getElem (by omega)⟩
  obtain ⟨b, off, h1, h2⟩ := hA j r hr
  exact ⟨b, off, r, h1, h2, hk j r kid hr hj⟩⟩
theorem condLeaf {w : World} {h : Nat} {k t n v : UInt8} : CondAt w (h + 1) [Go.Proofs.YtkchaoajegkadaaGreatDoor.b8 k, Go.Proofs.YtkchaoajegkadaaGreatDoor.b8 t, Go.Proofs.YtkchaoajegkadaaGreatDoor.b8 n, Go.Proofs.YtkchaoajegkadaaGreatDoor.b8 v, .slice none 0 0] (.mk k t n v []) := ⟨none, 0, rfl, Nat.zero_le _, fun j kid hj => by simp at hj⟩
theorem two {α β : Type} {p : Nat → α → β → Prop} {x y : α} {u v : β} (h0 : p 0 x u) (h1 : p 1 y v) : ∀ (j : Nat) (r : α) (s : β), [x, y][j]? = some r → [u, v][j]? = some s → p j r s
  | 0, _, _, h, k => by cases h; cases k; exact h0
  | 1, _, _, h, k => by cases h; cases k; exact h1
  | j + 2, _, _, h, _ => by simp at h
theorem one1 {α β : Type} {p : Nat → α → β → Prop} {x : α} {u : β} (h0 : p 0 x u) : ∀ (j : Nat) (r : α) (s : β), [x][j]? = some r → [u][j]? = some s → p j r s
  | 0, _, _, h, k => by cases h; cases k; exact h0
  | j + 1, _, _, h, _ => by simp at h
set_option maxHeartbeats 4000000 in
theorem example6_any (w0 : World) : Calls Tryz.prog 22 #[] w0 fun e w' => ∃ (cs : List Value) (LA : Option Addr) (LC : Nat) (IA : Option Addr) (IC : Nat) (TA : Option Addr) (TC h : Nat) (ccs : List Value), e = .returned (.agg cs.toArray) ∧ Below w0.heap.size w0 w' ∧ ProgIn w' cs exP6 LA LC IA IC TA TC h ccs := by
  have H := Own.start w0 none
  refine enterF func22 rfl ntmps22 rfl (fun a F => ?_);refine cSR fun K1 hK1=>?_;refine sAl H zeroValue29 F rfl rfl ?_;clear F a H; intro b0 a w F H;refine nK hK1 (cSR fun K2 hK2=>sBd (cs := [Go.Proofs.YtkchaoajegkadaaGreatDoor.b8 2, Go.Proofs.YtkchaoajegkadaaGreatDoor.b8 0, Go.Proofs.YtkchaoajegkadaaGreatDoor.b8 0, Go.Proofs.YtkchaoajegkadaaGreatDoor.b8 1, .slice none 0 0]) (places := [(0, 1), (1, 1), (2, 1), (3, 1), (4, 1)]) zeroValue27 underlying27 (by kernel_rfl) F rfl rfl rfl rfl ?_);clear hK1;clear F a;intro a F;refine sBsA H underlying25 sizeOf27 zeroValue27 rfl F rfl rfl rfl rfl rfl ?_;clear F a H; intro b4 a w F H;refine sBd (cs := [Go.Proofs.YtkchaoajegkadaaGreatDoor.b8 5, Go.Proofs.YtkchaoajegkadaaGreatDoor.b8 0, Go.Proofs.YtkchaoajegkadaaGreatDoor.b8 0, Go.Proofs.YtkchaoajegkadaaGreatDoor.b8 0, .slice (some ⟨b4, 0, none⟩) 1 1]) (places := [(0, 1), (1, 1), (2, 1), (3, 1), (4, 1)]) zeroValue27 underlying27 (by kernel_rfl) F rfl rfl rfl rfl ?_;clear F a;intro a F;refine sAl H zeroValue27 F rfl rfl ?_;clear F a H; intro b1 a w F H
  refine sSr H 0 ?si F rfl rfl rfl ?s1 rfl rfl ?_
  case si => exact info_size sizeOf27
  case s1 => first | rfl | (repeat (first | exact one_nil | (apply one_cons; · first | rfl | assumption | exact one_bif rfl rfl)))
  clear H; intro w H;refine nK hK2 (cSR fun K3 hK3=>sBd (cs := [Go.Proofs.YtkchaoajegkadaaGreatDoor.b8 1, Go.Proofs.YtkchaoajegkadaaGreatDoor.b8 0, Go.Proofs.YtkchaoajegkadaaGreatDoor.b8 1, Go.Proofs.YtkchaoajegkadaaGreatDoor.b8 0, .slice none 0 0]) (places := [(0, 1), (1, 1), (2, 1), (3, 1), (4, 1)]) zeroValue27 underlying27 (by kernel_rfl) F rfl rfl rfl rfl ?_);clear hK2;clear F a;intro a F
  refine sLr underlying27 rfl ?si F rfl rfl rfl (H.whole 0 rfl) ?_
  case si => exact info_size sizeOf27
  clear F a; intro a F;refine sBs (cs := [Go.Proofs.YtkchaoajegkadaaGreatDoor.b8 1, Go.Proofs.YtkchaoajegkadaaGreatDoor.b8 0, Go.Proofs.YtkchaoajegkadaaGreatDoor.b8 1, Go.Proofs.YtkchaoajegkadaaGreatDoor.b8 0, .slice none 0 0, Go.Proofs.YtkchaoajegkadaaGreatDoor.b8 5, Go.Proofs.YtkchaoajegkadaaGreatDoor.b8 0, Go.Proofs.YtkchaoajegkadaaGreatDoor.b8 0, Go.Proofs.YtkchaoajegkadaaGreatDoor.b8 0, .slice (some ⟨b4, 0, none⟩) 1 1]) H underlying25 sizeOf27 zeroValue27 rfl F rfl rfl rfl rfl rfl ?_;clear F a H; intro b8 a w F H;refine sBd (cs := [Go.Proofs.YtkchaoajegkadaaGreatDoor.b8 3, Go.Proofs.YtkchaoajegkadaaGreatDoor.b8 0, Go.Proofs.YtkchaoajegkadaaGreatDoor.b8 0, Go.Proofs.YtkchaoajegkadaaGreatDoor.b8 0, .slice (some ⟨b8, 0, none⟩) 2 2]) (places := [(0, 1), (1, 1), (2, 1), (3, 1), (4, 1)]) zeroValue27 underlying27 (by kernel_rfl) F rfl rfl rfl rfl ?_;clear F a;intro a F;refine sAl H zeroValue27 F rfl rfl ?_;clear F a H; intro b2 a w F H
  refine sSr H 0 ?si F rfl rfl rfl ?s1 rfl rfl ?_
  case si => exact info_size sizeOf27
  case s1 => first | rfl | (repeat (first | exact one_nil | (apply one_cons; · first | rfl | assumption | exact one_bif rfl rfl)))
  clear H; intro w H;refine nK hK3 (cSR fun K4 hK4=>?_);clear hK3;refine sBs H underlying22 sizeOf9 zeroValue9 rfl F rfl rfl rfl rfl rfl ?_;clear F a H; intro b10 a w F H;refine sBs H underlying23 sizeOf5 zeroValue5 rfl F rfl rfl rfl rfl rfl ?_;clear F a H; intro b11 a w F H;refine sBd (places := [(0, 1), (1, 1)]) zeroValue42 underlying42 (by kernel_rfl) F rfl rfl rfl rfl (qBd (cs := (Ins.mk 2 0 0 false 1 false 0 0 0 0).cells) (places := [(0, 1), (1, 1), (2, 1), (3, 2), (5, 2), (7, 1), (8, 1), (9, 1)]) zeroValue44 underlying44 (by kernel_rfl) rfl rfl rfl rfl (qBd (cs := (Ins.mk 1 1 1 false 0 false 0 0 1 0).cells) (places := [(0, 1), (1, 1), (2, 1), (3, 2), (5, 2), (7, 1), (8, 1), (9, 1)]) zeroValue44 underlying44 (by kernel_rfl) rfl rfl rfl rfl ?_));clear F a;intro a F;refine sBs (cs := ((Ins.mk 2 0 0 false 1 false 0 0 0 0).cells ++ (Ins.mk 1 1 1 false 0 false 0 0 1 0).cells)) H underlying52 sizeOf44 zeroValue44 rfl F rfl rfl rfl rfl rfl ?_;clear F a H; intro b15 a w F H;refine sBd (places := [(0, 1), (1, 1)]) zeroValue42 underlying42 (by kernel_rfl) F rfl rfl rfl rfl (qBd (cs := (Ins.mk 2 0 1 false 2 false 0 0 2 0).cells) (places := [(0, 1), (1, 1), (2, 1), (3, 2), (5, 2), (7, 1), (8, 1), (9, 1)]) zeroValue44 underlying44 (by kernel_rfl) rfl rfl rfl rfl ?_);clear F a;intro a F;refine sBsA H underlying52 sizeOf44 zeroValue44 rfl F rfl rfl rfl rfl rfl ?_;clear F a H; intro b18 a w F H;refine sBs (cs := [.slice (some ⟨b15, 0, none⟩) 2 2, .slice (some ⟨b18, 0, none⟩) 1 1]) H underlying24 sizeOf52 zeroValue52 rfl F rfl rfl rfl rfl rfl ?_
  clear F a H; intro b19 a w F H
  refine sLr underlying27 rfl ?si F rfl rfl rfl (H.whole 5 rfl) ?_
  case si => exact info_size sizeOf27
  clear F a; intro a F;refine sBd (cs := [Go.Proofs.YtkchaoajegkadaaGreatDoor.b8 0, Go.Proofs.YtkchaoajegkadaaGreatDoor.b8 0, Go.Proofs.YtkchaoajegkadaaGreatDoor.b8 0, Go.Proofs.YtkchaoajegkadaaGreatDoor.b8 0, .slice none 0 0]) (places := [(0, 1), (1, 1), (2, 1), (3, 1), (4, 1)]) zeroValue27 underlying27 (by kernel_rfl) F rfl rfl rfl rfl ?_;clear F a;intro a F;refine sBs (cs := [Go.Proofs.YtkchaoajegkadaaGreatDoor.b8 3, Go.Proofs.YtkchaoajegkadaaGreatDoor.b8 0, Go.Proofs.YtkchaoajegkadaaGreatDoor.b8 0, Go.Proofs.YtkchaoajegkadaaGreatDoor.b8 0, .slice (some ⟨b8, 0, none⟩) 2 2, Go.Proofs.YtkchaoajegkadaaGreatDoor.b8 0, Go.Proofs.YtkchaoajegkadaaGreatDoor.b8 0, Go.Proofs.YtkchaoajegkadaaGreatDoor.b8 0, Go.Proofs.YtkchaoajegkadaaGreatDoor.b8 0, .slice none 0 0]) H underlying25 sizeOf27 zeroValue27 rfl F rfl rfl rfl rfl rfl ?_;clear F a H; intro b22 a w F H;refine sBd (cs := [Go.Proofs.YtkchaoajegkadaaGreatDoor.b8 4, Go.Proofs.YtkchaoajegkadaaGreatDoor.b8 0, Go.Proofs.YtkchaoajegkadaaGreatDoor.b8 0, Go.Proofs.YtkchaoajegkadaaGreatDoor.b8 0, .slice (some ⟨b22, 0, none⟩) 2 2]) (places := [(0, 1), (1, 1), (2, 1), (3, 1), (4, 1)]) zeroValue27 underlying27 (by kernel_rfl) F rfl rfl rfl rfl (qBd (cs := [.string ⟨#[83, 66]⟩, .slice (some ⟨b10, 0, none⟩) 2 2, .slice (some ⟨b11, 0, none⟩) 2 2, .slice (some ⟨b19, 0, none⟩) 2 2, Go.Proofs.YtkchaoajegkadaaGreatDoor.b8 1, Go.Proofs.YtkchaoajegkadaaGreatDoor.b8 4, Go.Proofs.YtkchaoajegkadaaGreatDoor.b8 0, Go.Proofs.YtkchaoajegkadaaGreatDoor.b8 0, Go.Proofs.YtkchaoajegkadaaGreatDoor.b8 0, .slice (some ⟨b22, 0, none⟩) 2 2]) (places := [(0, 1), (1, 1), (2, 1), (3, 1), (4, 1), (5, 5)]) zeroValue29 underlying29 (by kernel_rfl) rfl rfl rfl rfl ?_);clear F a;intro a F
  refine sSr H 10 ?si F rfl rfl rfl ?s1 rfl rfl ?_
  case si => exact info_size sizeOf29
  case s1 => first | rfl | (repeat (first | exact one_nil | (apply one_cons; · first | rfl | assumption | exact one_bif rfl rfl)))
  clear H; intro w H;refine nK hK4 ?_;clear hK4;refine wp_ret ?_;refine bRetC results22 F rfl underlying29 rfl H 10 rfl sizeOf29 rfl ?_
  have r4 : RowsAt w (some ⟨b4, 0, none⟩) 5 [[Go.Proofs.YtkchaoajegkadaaGreatDoor.b8 2, Go.Proofs.YtkchaoajegkadaaGreatDoor.b8 0, Go.Proofs.YtkchaoajegkadaaGreatDoor.b8 0, Go.Proofs.YtkchaoajegkadaaGreatDoor.b8 1, .slice none 0 0]] := rowsOf (H.whole 9 rfl) (by simp)
  have r8 : RowsAt w (some ⟨b8, 0, none⟩) 5 [[Go.Proofs.YtkchaoajegkadaaGreatDoor.b8 1, Go.Proofs.YtkchaoajegkadaaGreatDoor.b8 0, Go.Proofs.YtkchaoajegkadaaGreatDoor.b8 1, Go.Proofs.YtkchaoajegkadaaGreatDoor.b8 0, .slice none 0 0], [Go.Proofs.YtkchaoajegkadaaGreatDoor.b8 5, Go.Proofs.YtkchaoajegkadaaGreatDoor.b8 0, Go.Proofs.YtkchaoajegkadaaGreatDoor.b8 0, Go.Proofs.YtkchaoajegkadaaGreatDoor.b8 0, .slice (some ⟨b4, 0, none⟩) 1 1]] := rowsOf (H.whole 7 rfl) (by simp)
  have r22 : RowsAt w (some ⟨b22, 0, none⟩) 5 [[Go.Proofs.YtkchaoajegkadaaGreatDoor.b8 3, Go.Proofs.YtkchaoajegkadaaGreatDoor.b8 0, Go.Proofs.YtkchaoajegkadaaGreatDoor.b8 0, Go.Proofs.YtkchaoajegkadaaGreatDoor.b8 0, .slice (some ⟨b8, 0, none⟩) 2 2], [Go.Proofs.YtkchaoajegkadaaGreatDoor.b8 0, Go.Proofs.YtkchaoajegkadaaGreatDoor.b8 0, Go.Proofs.YtkchaoajegkadaaGreatDoor.b8 0, Go.Proofs.YtkchaoajegkadaaGreatDoor.b8 0, .slice none 0 0]] := rowsOf (H.whole 0 rfl) (by simp)
  have hc : CondAt w 4 [Go.Proofs.YtkchaoajegkadaaGreatDoor.b8 4, Go.Proofs.YtkchaoajegkadaaGreatDoor.b8 0, Go.Proofs.YtkchaoajegkadaaGreatDoor.b8 0, Go.Proofs.YtkchaoajegkadaaGreatDoor.b8 0, .slice (some ⟨b22, 0, none⟩) 2 2] exP6.cond :=
    condMk (kids := [_, _]) (by decide) r22 rfl (two (p := fun _ r s => CondAt w 3 r s) (condMk (kids := [_, _]) (by decide) r8 rfl (two (p := fun _ r s => CondAt w 2 r s) condLeaf (condMk (kids := [_]) (by decide) r4 rfl (one1 (p := fun _ r s => CondAt w 1 r s) condLeaf)))) condLeaf)
  have r15 : RowsAt w (some ⟨b15, 0, none⟩) 10 [(Ins.mk 2 0 0 false 1 false 0 0 0 0).cells, (Ins.mk 1 1 1 false 0 false 0 0 1 0).cells] := rowsOf (H.whole 3 rfl) (by simp [Ins.cells])
  have r18 : RowsAt w (some ⟨b18, 0, none⟩) 10 [(Ins.mk 2 0 1 false 2 false 0 0 2 0).cells] := rowsOf (H.whole 2 rfl) (by simp [Ins.cells])
  have r19 := H.whole 1 rfl
  refine ⟨[.string ⟨#[83, 66]⟩, .slice (some ⟨b10, 0, none⟩) 2 2, .slice (some ⟨b11, 0, none⟩) 2 2, .slice (some ⟨b19, 0, none⟩) 2 2, Go.Proofs.YtkchaoajegkadaaGreatDoor.b8 1, Go.Proofs.YtkchaoajegkadaaGreatDoor.b8 4, Go.Proofs.YtkchaoajegkadaaGreatDoor.b8 0, Go.Proofs.YtkchaoajegkadaaGreatDoor.b8 0, Go.Proofs.YtkchaoajegkadaaGreatDoor.b8 0, .slice (some ⟨b22, 0, none⟩) 2 2], some ⟨b10, 0, none⟩, 2, some ⟨b11, 0, none⟩, 2, some ⟨b19, 0, none⟩, 2, 4, [Go.Proofs.YtkchaoajegkadaaGreatDoor.b8 4, Go.Proofs.YtkchaoajegkadaaGreatDoor.b8 0, Go.Proofs.YtkchaoajegkadaaGreatDoor.b8 0, Go.Proofs.YtkchaoajegkadaaGreatDoor.b8 0, .slice (some ⟨b22, 0, none⟩) 2 2], rfl, H.below, ?_⟩
  refine ⟨rfl, (show (2 : Nat) ≤ maxLen by decide), rowsOf (sz := 1) (rows := [[_], [_]]) (H.whole 5 rfl) (by simp), (show (2 : Nat) ≤ 9223372036854775807 by decide), Nat.le_refl 2, ?_, rowsOf (sz := 1) (rows := [[_], [_]]) (H.whole 4 rfl) (by simp), (show (2 : Nat) ≤ 9223372036854775807 by decide), ?_, (show (2 : Nat) ≤ 9223372036854775807 by decide), hc⟩
  · intro s hs
    simp only [exP6, List.mem_cons, List.not_mem_nil, or_false] at hs
    rcases hs with rfl | rfl <;> decide
  · intro j t hj
    match j, hj with
    | 0, hj => cases hj; exact ⟨b19, 0, some ⟨b15, 0, none⟩, 2, rfl, r19 0 _ rfl, r15, by decide⟩
    | 1, hj => cases hj; exact ⟨b19, 0, some ⟨b18, 0, none⟩, 1, rfl, r19 1 _ rfl, r18, by decide⟩
    | n + 2, hj => simp [exP6] at hj
-- LcB
open Go.RowKit
set_option maxRecDepth 100000
theorem exC6_at {w : World} {b13 b17 : Nat} (h13 : w.rangeAt b13 0 [Go.Proofs.YtkchaoajegkadaaGreatDoor.b8 2, Go.Proofs.YtkchaoajegkadaaGreatDoor.b8 0, Go.Proofs.YtkchaoajegkadaaGreatDoor.b8 0, Go.Proofs.YtkchaoajegkadaaGreatDoor.b8 1, .slice none 0 0, Go.Proofs.YtkchaoajegkadaaGreatDoor.b8 2, Go.Proofs.YtkchaoajegkadaaGreatDoor.b8 0, Go.Proofs.YtkchaoajegkadaaGreatDoor.b8 1, Go.Proofs.YtkchaoajegkadaaGreatDoor.b8 2, .slice none 0 0]) (h17 : w.rangeAt b17 0 [Go.Proofs.YtkchaoajegkadaaGreatDoor.b8 4, Go.Proofs.YtkchaoajegkadaaGreatDoor.b8 0, Go.Proofs.YtkchaoajegkadaaGreatDoor.b8 0, Go.Proofs.YtkchaoajegkadaaGreatDoor.b8 0, .slice (some ⟨b13, 0, none⟩) 2 2]) : CondAt w 3 [Go.Proofs.YtkchaoajegkadaaGreatDoor.b8 5, Go.Proofs.YtkchaoajegkadaaGreatDoor.b8 0, Go.Proofs.YtkchaoajegkadaaGreatDoor.b8 0, Go.Proofs.YtkchaoajegkadaaGreatDoor.b8 0, .slice (some ⟨b17, 0, none⟩) 1 1] exC6 :=
  condMk (kids := [_]) (by decide) (rowsOf (rows := [[_, _, _, _, _]]) h17 (by simp)) rfl (one1 (p := fun _ r s => CondAt w 2 r s) (condMk (kids := [_, _]) (by decide) (rowsOf (rows := [[_, _, _, _, _], [_, _, _, _, _]]) h13 (by simp)) rfl (two (p := fun _ r s => CondAt w 1 r s) condLeaf condLeaf)))
theorem exN6_at {w : World} {b : Nat} (h : w.rangeAt b 0 [.string ⟨#[120]⟩, .string ⟨#[121]⟩]) : StrsAt w (some ⟨b, 0, none⟩) exN6 := rowsOf (sz := 1) (rows := [[_], [_]]) h (by simp)
theorem exN6_sz : ∀ s ∈ exN6, s.size ≤ 140737488351232 := by decide
theorem exP6_sz : ∀ s ∈ exP6.locs, s.size ≤ 140737488351232 := by decide
set_option maxHeartbeats 400000 in
theorem awake6_any (w0 : World) (hT : TenAt w0) : Calls Tryz.prog 7 #[] w0 fun e w' => e = .returned (.bool true) ∧ Below w0.heap.size w0 w' := by
  have H := Own.start w0 none
  refine enterF Tryz.func7 rfl Tryz.ntmps7 rfl (fun a F => ?_);refine cSR fun K1 hK1=>sAs F rfl rfl rfl (qNK hK1 (qSR fun K2 hK2=>?_));clear hK1;clear F a;intro a F;refine sCall Tryz.call22 F rfl rfl rfl (example6_any _) ?_;rintro e w ⟨cs, LA, LC, IA, IC, TA, TC, h, ccs, rfl, hb, hE⟩;replace H := H.grow hb; clear hb;refine ⟨_, rfl, ?_⟩;clear F a; intro a F;refine sCall Tryz.call10 F rfl rfl rfl (print_any hE exP6_sz (show (2 : Nat) ≤ _ by decide) (hT.below H.below)) ?_;rintro e w ⟨⟨s8, n8, rfl, hp8⟩, hb⟩
  obtain ⟨rfl, rfl⟩ := ex6_ans hp8; replace H := H.grow hb; clear hb
  refine ⟨_, rfl, ?_⟩;clear F a; intro a F;refine sMv F rfl rfl rfl (qExt rfl rfl rfl rfl (qExt rfl rfl rfl rfl (qAs rfl rfl rfl (qAs rfl rfl rfl (qNK hK2 (qSR fun K3 hK3=>qBd (cs := [Go.Proofs.YtkchaoajegkadaaGreatDoor.b8 2, Go.Proofs.YtkchaoajegkadaaGreatDoor.b8 0, Go.Proofs.YtkchaoajegkadaaGreatDoor.b8 0, Go.Proofs.YtkchaoajegkadaaGreatDoor.b8 1, .slice none 0 0]) (places := [(0, 1), (1, 1), (2, 1), (3, 1), (4, 1)]) Tryz.zeroValue27 Tryz.underlying27 (by kernel_rfl) rfl rfl rfl rfl (qBd (cs := [Go.Proofs.YtkchaoajegkadaaGreatDoor.b8 2, Go.Proofs.YtkchaoajegkadaaGreatDoor.b8 0, Go.Proofs.YtkchaoajegkadaaGreatDoor.b8 1, Go.Proofs.YtkchaoajegkadaaGreatDoor.b8 2, .slice none 0 0]) (places := [(0, 1), (1, 1), (2, 1), (3, 1), (4, 1)]) Tryz.zeroValue27 Tryz.underlying27 (by kernel_rfl) rfl rfl rfl rfl ?_)))))));clear hK2;clear F a;intro a F;refine sBs (cs := [Go.Proofs.YtkchaoajegkadaaGreatDoor.b8 2, Go.Proofs.YtkchaoajegkadaaGreatDoor.b8 0, Go.Proofs.YtkchaoajegkadaaGreatDoor.b8 0, Go.Proofs.YtkchaoajegkadaaGreatDoor.b8 1, .slice none 0 0, Go.Proofs.YtkchaoajegkadaaGreatDoor.b8 2, Go.Proofs.YtkchaoajegkadaaGreatDoor.b8 0, Go.Proofs.YtkchaoajegkadaaGreatDoor.b8 1, Go.Proofs.YtkchaoajegkadaaGreatDoor.b8 2, .slice none 0 0]) H Tryz.underlying25 Tryz.sizeOf27 Tryz.zeroValue27 rfl F rfl rfl rfl rfl rfl ?_;clear F a H; intro b13 a w F H;refine sBd (cs := [Go.Proofs.YtkchaoajegkadaaGreatDoor.b8 4, Go.Proofs.YtkchaoajegkadaaGreatDoor.b8 0, Go.Proofs.YtkchaoajegkadaaGreatDoor.b8 0, Go.Proofs.YtkchaoajegkadaaGreatDoor.b8 0, .slice (some ⟨b13, 0, none⟩) 2 2]) (places := [(0, 1), (1, 1), (2, 1), (3, 1), (4, 1)]) Tryz.zeroValue27 Tryz.underlying27 (by kernel_rfl) F rfl rfl rfl rfl ?_;clear F a;intro a F
  refine sAl H Tryz.zeroValue27 F rfl rfl ?_;clear F a H; intro b3 a w F H
  refine sSr H 0 ?si F rfl rfl rfl ?s1 rfl rfl ?_
  case si => exact info_size Tryz.sizeOf27
  case s1 => first | rfl | (repeat (first | exact one_nil | (apply one_cons; · first | rfl | assumption | exact one_bif rfl rfl)))
  clear H; intro w H;refine nK hK3 (cSR fun K4 hK4=>?_);clear hK3
  refine sLr Tryz.underlying27 rfl ?si F rfl rfl rfl (H.whole 0 rfl) ?_
  case si => exact info_size Tryz.sizeOf27
  clear F a; intro a F;refine sBsA H Tryz.underlying25 Tryz.sizeOf27 Tryz.zeroValue27 rfl F rfl rfl rfl rfl rfl ?_;clear F a H; intro b17 a w F H;refine sBd (cs := [Go.Proofs.YtkchaoajegkadaaGreatDoor.b8 5, Go.Proofs.YtkchaoajegkadaaGreatDoor.b8 0, Go.Proofs.YtkchaoajegkadaaGreatDoor.b8 0, Go.Proofs.YtkchaoajegkadaaGreatDoor.b8 0, .slice (some ⟨b17, 0, none⟩) 1 1]) (places := [(0, 1), (1, 1), (2, 1), (3, 1), (4, 1)]) Tryz.zeroValue27 Tryz.underlying27 (by kernel_rfl) F rfl rfl rfl rfl ?_;clear F a;intro a F;refine sBs H Tryz.underlying22 Tryz.sizeOf9 Tryz.zeroValue9 rfl F rfl rfl rfl rfl rfl ?_;clear F a H; intro b19 a w F H;refine sCall Tryz.call15 F rfl rfl rfl (condPr_any (c := exC6) (locs := exN6) (exC6_at (H.whole 3 rfl) (H.whole 1 rfl)) (exN6_at (H.whole 0 rfl)) (by decide) exN6_sz (hT.below H.below)) ?_;rintro e w ⟨⟨s20, n20, rfl, hp20⟩, hb⟩
  obtain ⟨rfl, rfl⟩ := ex6_cans hp20; replace H := H.grow hb; clear hb
  refine ⟨_, rfl, ?_⟩;clear F a; intro a F;refine sMv F rfl rfl rfl (qExt rfl rfl rfl rfl (qExt rfl rfl rfl rfl (qAs rfl rfl rfl (qAs rfl rfl rfl (qNK hK4 (qSR fun K5 hK5=>qMv rfl rfl rfl (qBin rfl rfl rfl rfl bEql (qMv rfl rfl rfl ?_))))))));clear hK4;clear F a;intro a F
  refine F.split 25 rfl ?_ ?_ <;> (clear F; intro h25 F)
  ·
   replace h25 := beqT h25;refine sMv F rfl rfl rfl (qBin rfl rfl rfl rfl bStrEq (qPk rfl rfl rfl rfl (qMv rfl rfl rfl ?_)));clear F a;intro a F
   refine F.split 29 rfl ?_ ?_ <;> (clear F; intro h29 F)
   ·
    replace h29 := beqT h29;refine sMv F rfl rfl rfl (qBin rfl rfl rfl rfl bEql (qPk rfl rfl rfl rfl (qMv rfl rfl rfl ?_)));clear F a;intro a F
    refine F.split 33 rfl ?_ ?_ <;> (clear F; intro h33 F)
    ·
     replace h33 := beqT h33;refine sMv F rfl rfl rfl (qBin rfl rfl rfl rfl bStrEq (qPk rfl rfl rfl rfl (qAs rfl rfl rfl (qNK hK5 ?_))));clear hK5;clear F a;intro a F;refine wp_ret ?_;refine bRet Tryz.results7 F rfl ?_
     have e : mk exU6 = ⟨#[33, 32, 40, 32, 120, 32, 61, 32, 49, 32, 124, 32, 121, 32, 61, 32, 50, 32, 41]⟩ := rfl
     exact ⟨by rw [e, beq_self_eq_true], H.below⟩
    replace h33 := beqF h33
    first | exact absurd rfl h33 | cases h33 | exact absurd h33 (by decide)
   replace h29 := beqF h29
   first | exact absurd rfl h29 | cases h29 | exact absurd h29 (by decide)
  replace h25 := beqF h25
  first | exact absurd rfl h25 | cases h25 | exact absurd h25 (by decide)
end Go.Proofs.YtkchaoajegkadaaGreatDoor
