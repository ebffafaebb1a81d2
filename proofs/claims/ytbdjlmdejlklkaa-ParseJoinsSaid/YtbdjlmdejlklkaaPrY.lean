/-
  WALK2. Package parse: threads in memory; the line of an instruction. Conditions: the parser, its tokens, names and threads lie in memory.
-/
import Derived.Test.YtbdjlmdejlklkaaPrX
import Derived.Test.YtbdjlmdejlklkaaVcO
set_option linter.unusedSimpArgs false
set_option linter.unusedVariables false
namespace Go.Proofs.Ytbdjlmdejlklkaa
open Go.RowKit
set_option maxRecDepth 100000
def insC (l : List Ins) : List (List Value) := l.map Ins.cells
theorem insC_len {l : List Ins} : ∀ r ∈ insC l, r.length = 10 := by
  intro r hr
  obtain ⟨t, _, rfl⟩ := List.mem_map.1 hr
  rfl
theorem insC_snoc (l : List Ins) (v : Ins) : insC l ++ [v.cells] = insC (l ++ [v]) := by simp [insC]
theorem insC_length (l : List Ins) : (insC l).length = l.length := by simp [insC]
/-- Threads in the blocks S, by the rows of their headers. -/
def ThrIn (S : Nat → Prop) (w : World) (hr : List (List Value)) (ths : List (List Ins)) : Prop :=
  ∀ (j : Nat) (l : List Ins), ths[j]? = some l → ∃ A C, hr[j]? = some [.slice A l.length C] ∧ ∀ (i : Nat) (cs : List Value), (insC l)[i]? = some cs → ∃ b o, A = some ⟨b, o, none⟩ ∧ S b ∧ w.rangeAt b (o + i * 10) cs
theorem ThrIn.loc {S T : Nat → Prop} {w w' : World} {hr : List (List Value)} {ths : List (List Ins)} (hs : ∀ b, S b → w'.heap[b]? = w.heap[b]?) (hT : ∀ b, S b → T b) (h : ThrIn S w hr ths) : ThrIn T w' hr ths := fun j l hj => by
  obtain ⟨A, C, h1, h2⟩ := h j l hj
  refine ⟨A, C, h1, fun i cs hi => ?_⟩
  obtain ⟨b, o, h3, h4, h5⟩ := h2 i cs hi
  exact ⟨b, o, h3, hT b h4, range_same (hs b h4) h5⟩
def Res.thrs (S : Nat → Prop) (hr : List (List Value)) (ths : List (List Ins)) : Res := ⟨S, fun w => ThrIn S w hr ths, fun _ _ hb hp => hp.loc hb (fun _ h => h)⟩
/-- The last thread joins those before it. -/
theorem Own.push {w0 w : World} {row : Option Nat} {e : TypeId} {S : Nat → Prop} {hr : List (List Value)} {ths : List (List Ins)} {A : Option Addr} {l : List Ins} {C : Nat} {rs : List Res} (H : Own w0 row w (.rws e 10 (.slice A l.length C) (insC l) :: .thrs S hr ths :: rs)) (hl : hr.length = ths.length) :
    Own w0 row w (.thrs (fun b => (Value.slice A l.length C).ownBlock = some b ∨ S b) (hr ++ [[.slice A l.length C]]) (ths ++ [l]) :: rs) := by
  have hA := H.rowsAt 0 rfl insC_len (by decide)
  have hT : ThrIn S w hr ths := H.pred 1 _ rfl
  refine H.fuse (.thrs (fun b => (Value.slice A l.length C).ownBlock = some b ∨ S b) (hr ++ [[.slice A l.length C]]) (ths ++ [l])) (show ThrIn _ w _ _ from fun j t hj => ?_) (fun b hb => hb)
  rcases Nat.lt_or_ge j ths.length with hjl | hjl
  · rw [List.getElem?_append_left hjl] at hj
    obtain ⟨A', C', h1, h2⟩ := (hT.loc (T := fun b => (Value.slice A l.length C).ownBlock = some b ∨ S b) (fun _ _ => rfl) (fun _ h => .inr h)) j t hj
    exact ⟨A', C', by rw [List.getElem?_append_left (by omega)]; exact h1, h2⟩
  · rw [List.getElem?_append_right hjl] at hj
    obtain e : j - ths.length = 0 := by
      rcases Nat.eq_zero_or_pos (j - ths.length) with e | e
      · exact e
      · rw [List.getElem?_eq_none (by simp; omega)] at hj; cases hj
    rw [e] at hj
    cases hj
    refine ⟨A, C, by rw [List.getElem?_append_right (by omega), show j - hr.length = 0 by omega]; rfl, fun i cs hi => ?_⟩
    obtain ⟨b, o, rfl, h3⟩ := hA i cs hi
    exact ⟨b, o, rfl, .inl rfl, h3⟩
/-- A slice with rows has a block. -/
theorem Own.rwsSome {w0 w : World} {row : Option Nat} {rs : List Res} (H : Own w0 row w rs) (i : Nat) {e : TypeId} {sz n C : Nat} {A : Option Addr} {rows : List (List Value)} (hi : rs[i]? = some (.rws e sz (.slice A n C) rows)) (hn : rows ≠ []) : ∃ g, A = some ⟨g, 0, Option.none⟩ := by
  rcases (H.arr i hi).2 with ⟨_, h2⟩ | ⟨g, cap, cur, h1, _⟩
  · exact absurd (List.eq_nil_of_length_eq_zero h2) hn
  · cases h1; exact ⟨g, rfl⟩
theorem Own.rwsCell {w0 w : World} {row : Option Nat} {rs : List Res} (H : Own w0 row w rs) (i : Nat) {e : TypeId} {sz n c g j k : Nat} {rows : List (List Value)} {r : List Value} {v : Value} (hi : rs[i]? = some (.rws e sz (.slice (some ⟨g, 0, .none⟩) n c) rows)) (hl : ∀ r ∈ rows, r.length = sz) (hsz : 0 < sz) (hj : rows[j]? = some r) (hk : r[k]? = some v) : w.cell? ⟨g, j * sz + k, .none⟩ = some v := by
  obtain ⟨b, off, h1, h2⟩ := H.rowsAt i hi hl hsz j r hj
  cases h1
  simpa using h2 k v hk
theorem lastAdd_at (front : List (List Ins)) (last : List Ins) (x : Ins) : lastAdd (front ++ [last]) x = front ++ [last ++ [x]] := by
  unfold lastAdd
  rw [List.length_append, List.length_singleton, Nat.add_sub_cancel, List.take_left', List.getD_eq_getElem?_getD, List.getElem?_append_right (Nat.le_refl _), Nat.sub_self]
  · rfl
  · rfl
theorem last_at {front : List (List Ins)} {last : List Ins} : (front ++ [last]).getD ((front ++ [last]).length - 1) [] = last := by
  rw [List.length_append, List.length_singleton, Nat.add_sub_cancel, List.getD_eq_getElem?_getD, List.getElem?_append_right (Nat.le_refl _), Nat.sub_self]
  rfl
set_option maxHeartbeats 4000000 in
theorem padd_any {W w0 : World} {rs : List Res} {c : PX} (hc : c.Ok) {A : Option Addr} {C bp : Nat} {S : Nat → Prop} {s : PS} {B : Option Addr} {D : Nat} (q : QL) {front : List (List Ins)} {last : List Ins} {frows hrows : List (List Value)} {TA LA : Option Addr} {TC LC : Nat} {L I aq a1 a2 a3 a4 a5 qy : Value} (hp : s.pos ≤ 997000) (hnl : s.names.length ≤ c.lim)
    (hq : q.wh = 3 → q.threads = front ++ [last] ∧ hrows = frows ++ [[.slice LA last.length LC]]) (h4 : hrows.length ≤ 4) (hln : ∀ r ∈ hrows, r.length = 1) (h12 : last.length ≤ 12)
    (H : Own W none w0 (.blk bp (parC c A C s B D [.string q.name, L, I, .slice TA hrows.length TC, aq, a1, a2, a3, a4, a5, .int .i64 (q.wh : Int), qy]) 59 :: .held S A 3 (rowsT c.ts) :: .nms W c.fixed B D s.names :: .rws 38 1 (.slice TA hrows.length TC) hrows :: .rws 42 10 (.slice LA last.length LC) (insC last) :: rs)) :
    Calls Try.prog 44 #[.pointer (some ⟨bp, 0, none⟩)] w0 fun e w' => Ans W rs (addL c q s) (fun v t e w' => e = .returned (.tuple #[]) ∧ ∃ x, v = { q with threads := front ++ [last ++ [x]] } ∧ ∃ B D LA LC, Own W none w' (.blk bp (parC c A C t B D [.string q.name, L, I, .slice TA hrows.length TC, aq, a1, a2, a3, a4, a5, .int .i64 (q.wh : Int), qy]) 59 :: .held S A 3 (rowsT c.ts) :: .nms W c.fixed B D t.names :: .rws 38 1 (.slice TA hrows.length TC) (frows ++ [[Value.slice LA (last ++ [x]).length LC]]) :: .rws 42 10 (.slice LA (last ++ [x]).length LC) (insC (last ++ [x])) :: rs)) e w' := by
  refine enterF Try.func44 rfl Try.ntmps44 rfl (fun a F => ?_)
  refine cSeq (fun K1 hK1 => ?_)
  refine cReg ?_
  refine sMv F rfl rfl rfl ?_;clear F a;intro a F
  refine sMv F rfl rfl rfl ?_;clear F a;intro a F
  refine sNc F rfl rfl rfl ?_;clear F a;intro a F
  refine sFa (f := 4) (k := 15) Try.underlying59 rfl Try.sizeOf3 rfl rfl F rfl rfl rfl ?_;clear F a;intro a F
  refine sLd Try.isAgg3 F rfl rfl rfl (H.cell 0 rfl rfl) ?_;clear F a;intro a F
  refine sBin F rfl rfl rfl rfl bEql ?_;clear F a;intro a F
  refine sCallP Try.call60 F rfl rfl rfl (pneed_any _ hc (s := s) (by (try simp only [PS.next]); omega) H) ?_
  rintro e w hq9
  rcases hq9.cases with ⟨p9, e9, hn11, rfl, H⟩ | ⟨v11, t11, hr11, rfl, H⟩
  ·
   refine .inl ⟨_, rfl, ?_⟩
   exact And.intro F.nod (Ans.no (by obtain ⟨h1, rfl, rfl⟩ := need_no hn11; unfold addL; rw [if_neg ((eq_nat (b := 3)).2.1 h1)]; rfl) H.tail.tail.tail)
  obtain ⟨hk0, rfl⟩ := need_ok hr11
  have hw : q.wh = 3 := (eq_nat (b := 3)).1.1 hk0
  obtain ⟨hq1, hq2⟩ := hq hw
  obtain ⟨TB, rfl⟩ := H.rwsSome 3 rfl (by rw [hq2]; simp)
  have hhl : hrows.length = frows.length + 1 := by rw [hq2]; simp
  have hat : hrows[hrows.length - 1]? = some [.slice LA last.length LC] := by rw [hhl, Nat.add_sub_cancel, hq2, List.getElem?_append_right (Nat.le_refl _), Nat.sub_self]; rfl
  have hset : ∀ v : Value, hrows.set (hrows.length - 1) ([Value.slice LA last.length LC].set 0 v) = frows ++ [[v]] := fun v => by rw [hhl, Nat.add_sub_cancel, hq2, List.set_append_right _ _ (Nat.le_refl _), Nat.sub_self]; rfl
  refine .inr ⟨_, rfl, ?_⟩
  clear F a; intro a F
  refine sNil ?_
  refine hK1 _ _ ?_; clear hK1
  refine cSeq (fun K2 hK2 => ?_)
  refine cReg ?_
  refine sMv F rfl rfl rfl ?_;clear F a;intro a F
  refine sCall Try.call61 F rfl rfl rfl (pstart_any (s := s) hc (by (try simp only [PS.next]); omega) H) ?_
  rintro e w ⟨rfl, H⟩
  refine ⟨_, rfl, ?_⟩
  clear F a; intro a F
  refine sMv F rfl rfl rfl ?_;clear F a;intro a F
  refine sExt F rfl rfl rfl rfl ?_;clear F a;intro a F
  refine sExt F rfl rfl rfl rfl ?_;clear F a;intro a F
  refine sAs F rfl rfl rfl ?_;clear F a;intro a F
  refine sAs F rfl rfl rfl ?_;clear F a;intro a F
  refine sNil ?_
  refine hK2 _ _ ?_; clear hK2
  refine cSeq (fun K3 hK3 => ?_)
  refine cReg ?_
  refine sMv F rfl rfl rfl ?_;clear F a;intro a F
  refine sMv F rfl rfl rfl ?_;clear F a;intro a F
  refine sCallP Try.call60 F rfl rfl rfl (pneed_any _ hc (s := s) (by (try simp only [PS.next]); omega) H) ?_
  rintro e w hq9
  rcases hq9.cases with ⟨p9, e9, hn19, rfl, H⟩ | ⟨v19, t19, hr19, rfl, H⟩
  ·
   refine .inl ⟨_, rfl, ?_⟩
   exact And.intro F.nod (Ans.no (by obtain ⟨h1, rfl, rfl⟩ := need_no hn19; unfold addL; rw [if_pos hw, if_neg (by rw [h1]; exact Bool.false_ne_true)]; rfl) H.tail.tail.tail)
  obtain ⟨hmay, rfl⟩ := need_ok hr19
  refine .inr ⟨_, rfl, ?_⟩
  clear F a; intro a F
  refine sNil ?_
  refine hK3 _ _ ?_; clear hK3
  refine cSeq (fun K4 hK4 => ?_)
  refine cRegRO (by kernel_rfl) H ?_
  replace H := H.drew
  refine eTakeF (k := 0) (i := 0) rfl (by kernel_rfl) F rfl rfl rfl (fun w => rMv F rfl) H (fun _ _ _ h => h) ?_;clear F a;intro a F
  refine eTake (k := 1) (i := 1) rfl (by kernel_rfl) F rfl rfl rfl rfl (fun w H => rNc F rfl) H (fun _ _ _ h => h) ?_;clear F a;intro a F
  refine eTakeF (k := 2) (i := 2) rfl (by kernel_rfl) F rfl rfl rfl (fun w => rFa (f := 3) (k := 5) Try.underlying59 rfl Try.sizeOf33 rfl rfl F rfl) H (fun _ _ _ h => h) ?_;clear F a;intro a F
  refine eTakeF (k := 3) (i := 3) rfl (by kernel_rfl) F rfl rfl rfl (fun w => rFa (f := 3) (k := 8) Try.underlying33 rfl Try.sizeOf31 rfl rfl F rfl) H (fun _ _ _ h => h) ?_;clear F a;intro a F
  refine eTake (k := 4) (i := 4) rfl (by kernel_rfl) F rfl rfl rfl rfl (fun w H => rLd Try.isAgg31 F rfl (H.cell 0 rfl rfl)) H (fun _ _ _ h => h) ?_;clear F a;intro a F
  refine eTakeF (k := 5) (i := 5) rfl (by kernel_rfl) F rfl rfl rfl (fun w => rMv F rfl) H (fun _ _ _ h => h) ?_;clear F a;intro a F
  refine eTake (k := 6) (i := 6) rfl (by kernel_rfl) F rfl rfl rfl rfl (fun w H => rNc F rfl) H (fun _ _ _ h => h) ?_;clear F a;intro a F
  refine eTakeF (k := 7) (i := 7) rfl (by kernel_rfl) F rfl rfl rfl (fun w => rFa (f := 3) (k := 5) Try.underlying59 rfl Try.sizeOf33 rfl rfl F rfl) H (fun _ _ _ h => h) ?_;clear F a;intro a F
  refine eTakeF (k := 8) (i := 8) rfl (by kernel_rfl) F rfl rfl rfl (fun w => rFa (f := 3) (k := 8) Try.underlying33 rfl Try.sizeOf31 rfl rfl F rfl) H (fun _ _ _ h => h) ?_;clear F a;intro a F
  refine eTake (k := 9) (i := 9) rfl (by kernel_rfl) F rfl rfl rfl rfl (fun w H => rLd Try.isAgg31 F rfl (H.cell 0 rfl rfl)) H (fun _ _ _ h => h) ?_;clear F a;intro a F
  refine eTake (k := 10) (i := 10) rfl (by kernel_rfl) F rfl rfl rfl rfl (fun w H => rLen Try.underlying31 F rfl) H (fun _ _ _ h => h) ?_;clear F a;intro a F
  refine eTakeF (k := 11) (i := 11) rfl (by kernel_rfl) F rfl rfl rfl (fun w => rBin F rfl rfl (bSubN (j := 1) ?_ ?_)) H (fun _ _ _ h => h) ?_
  focus omega
  focus omega
  clear F a; intro a F
  refine eTakeF (k := 12) (i := 12) rfl (by kernel_rfl) F rfl rfl rfl (fun w => rIx Try.underlying31 Try.sizeOf38 F rfl rfl ?_) H (fun _ _ _ h => h) ?_
  focus (first | omega | decide | (simp; omega))
  clear F a; intro a F
  refine eTakeF (k := 13) (i := 13) rfl (by kernel_rfl) F rfl rfl rfl (fun w => rAs F rfl) H (fun _ _ _ h => h) ?_;clear F a;intro a F
  refine eNil (k := 14) (by kernel_rfl) ?_
  refine hK4 _ _ ?_; clear hK4
  refine cSeq (fun K5 hK5 => ?_)
  refine cSeq (fun K6 hK6 => ?_)
  refine cReg ?_
  refine sMv F rfl rfl rfl ?_;clear F a;intro a F
  refine sNc F rfl rfl rfl ?_;clear F a;intro a F
  refine sLd Try.isAgg38 F rfl rfl rfl (by simpa using H.rwsCell 3 (k := 0) rfl hln (by decide) hat rfl) ?_;clear F a;intro a F
  refine sLen Try.underlying38 F rfl rfl rfl ?_;clear F a;intro a F
  refine sBin F rfl rfl rfl rfl bEql ?_;clear F a;intro a F
  refine sNil ?_
  refine hK6 _ _ ?_; clear hK6
  refine cIf F rfl (fun h37 => ?_) (fun h37 => ?_)
  ·
   replace h37 := beqT h37
   have hl12 : last.length = 12 := by omega
   refine cReg ?_
   refine sMv F rfl rfl rfl ?_;clear F a;intro a F
   refine sNc F rfl rfl rfl ?_;clear F a;intro a F
   refine sFa (f := 0) (k := 0) Try.underlying59 rfl Try.sizeOf57 rfl rfl F rfl rfl rfl ?_;clear F a;intro a F
   refine sCall Try.call27 F rfl rfl rfl (pplace_any (s := s) hc (by (try simp only [PS.next]); omega) H) ?_
   rintro e w ⟨rfl, H⟩
   refine ⟨_, rfl, ?_⟩
   clear F a; intro a F
   refine sCallP Try.call31 F rfl rfl rfl (fail_any _ 5 H) ?_
   rintro e w ⟨rfl, H⟩
   refine .inl ⟨_, rfl, ?_⟩
   exact And.intro F.nod (Ans.no (by unfold addL; rw [if_pos hw, if_pos hmay, if_pos (by rw [hq1, last_at]; exact hl12)]; rfl) H.tail.tail.tail.tail.tail)
  replace h37 := beqF h37
  have hl12 : ¬ last.length = 12 := by omega
  refine wp_skip ?_
  refine hK5 _ _ ?_; clear hK5
  refine cRegR (by kernel_rfl) (fun w => w.cell? ⟨TB, 0 + (hrows.length - 1) * 1, none⟩ = some (.slice LA last.length LC)) ?_
  replace H := H.drew
  refine eTakeF (k := 0) (i := 0) rfl (by kernel_rfl) F rfl rfl rfl (fun w => rMv F rfl) ((by simpa using H.rwsCell 3 (k := 0) rfl hln (by decide) hat rfl)) (fun _ _ _ h => h) ?_;clear F a;intro a F
  refine eTakeF (k := 1) (i := 1) rfl (by kernel_rfl) F rfl rfl rfl (fun w => rMv F rfl) ((by simpa using H.rwsCell 3 (k := 0) rfl hln (by decide) hat rfl)) (fun _ _ _ h => h) ?_;clear F a;intro a F
  refine eTake (k := 2) (i := 2) rfl (by kernel_rfl) F rfl rfl rfl rfl (fun w H => rNc F rfl) ((by simpa using H.rwsCell 3 (k := 0) rfl hln (by decide) hat rfl)) (fun _ _ _ h => h) ?_;clear F a;intro a F
  refine eTake (k := 3) (i := 3) rfl (by kernel_rfl) F rfl rfl rfl rfl (fun w H => rLd Try.isAgg38 F rfl H) ((by simpa using H.rwsCell 3 (k := 0) rfl hln (by decide) hat rfl)) (fun _ _ _ h => h) ?_;clear F a;intro a F
  refine eTakeF (k := 4) (i := 4) rfl (by kernel_rfl) F rfl rfl rfl (fun w => rMv F rfl) ((by simpa using H.rwsCell 3 (k := 0) rfl hln (by decide) hat rfl)) (fun _ _ _ h => h) ?_;clear F a;intro a F
  refine eTakeF (k := 5) (i := 5) rfl (by kernel_rfl) F rfl rfl rfl (fun w => rMv F rfl) ((by simpa using H.rwsCell 3 (k := 0) rfl hln (by decide) hat rfl)) (fun _ _ _ h => h) ?_;clear F a;intro a F
  refine eOne (k := 6) (i := 6) rfl (by kernel_rfl) F rfl (oCallVP F rfl rfl rfl (pins_any (startP c s.pos) (s := s) hc (by (try simp only [PS.next]); omega) hnl H) ?_)
  rintro e w hq9
  rcases hq9.cases with ⟨p9, e9, hn49, rfl, H⟩ | ⟨v49, t49, hr49, rfl, B49, D49, H⟩
  ·
   refine .inl ⟨_, rfl, ?_⟩
   exact And.intro F.nod (Ans.no (by unfold addL; rw [if_pos hw, if_pos hmay, if_neg (by rw [hq1, last_at]; exact hl12), hn49]; rfl) H.tail.tail)
  refine .inr ⟨_, rfl, ?_⟩
  clear F a; intro a F
  refine eKeep ((by simpa using H.rwsCell 3 (k := 0) rfl hln (by decide) hat rfl)) ?_
  refine eOne (k := 7) (i := 7) rfl (by kernel_rfl) F rfl (oBsA H Try.underlying38 Try.sizeOf42 Try.zeroValue42 rfl F rfl rfl rfl rfl ?_)
  clear F a H; intro b50 a w F H
  refine eKeep ((by simpa using H.rwsCell 4 (k := 0) rfl hln (by decide) hat rfl)) ?_
  refine eOne (k := 8) (i := 8) rfl (by kernel_rfl) F rfl (oApp1 (bytes := 10) H 5 Try.underlying38 Try.typeInfo42 rfl rfl rfl rfl rfl rfl F rfl rfl rfl rfl (H.whole 0 rfl) rfl ?s1 ?s2 ?_)
  case s1 => first | rfl | (repeat (first | exact one_nil | (apply one_cons; · first | rfl | assumption | exact one_bif rfl rfl)))
  case s2 => (rw [insC_length]; omega)
  clear F a H; intro A51 c51 a w F H
  refine ePartO (by kernel_rfl) H ?_
  refine eTake (k := 9) (i := 9) rfl (by kernel_rfl) F rfl rfl rfl rfl (fun w H => rNc F rfl) H (fun _ _ _ h => h) ?_;clear F a;intro a F
  refine eOne (k := 10) (i := 10) rfl (by kernel_rfl) F rfl (oStW H 4 Try.sizeOf38 F rfl rfl rfl rfl (hln) (hat) ((by decide : 0 < 1)) ((by omega)) ?_)
  clear H; intro w H
  rw [hset, insC_snoc, insC_length] at H
  refine ePartO (by kernel_rfl) H ?_
  refine eNil (k := 11) (by kernel_rfl) ?_
  first | refine bEnd Try.results44 F ?_ | (simp only [Exit.then, Exit.inBlock, if_true]; (repeat (first | rw [if_pos rfl] | rw [if_neg (by decide)])); refine bEnd Try.results44 F ?_)
  exact Ans.ok (v := { q with threads := front ++ [last ++ [v49]] }) (by unfold addL; rw [if_pos hw, if_pos hmay, if_neg (by rw [hq1, last_at]; exact hl12), hr49]; show Rs.ok { q with threads := lastAdd q.threads v49 } t49 = _; rw [hq1, lastAdd_at]) ⟨rfl, _, rfl, _, _, _, _, H.tail⟩
end Go.Proofs.Ytbdjlmdejlklkaa
