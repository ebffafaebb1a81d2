/-
  WALK2. Package check: Fold. Conditions: the program lies in memory; block 0 holds the table of needs; sizes.
-/
import Derived.Test.YtmfdpnjgljlkbaaDoorFoF
import Derived.Test.YtmfdpnjgljlkbaaDoorCkL
set_option linter.unusedSimpArgs false
set_option linter.unusedVariables false
namespace Go.Proofs.YtmfdpnjgljlkbaaDoor
open Go.RowKit
set_option maxRecDepth 100000

def heldP (S : Nat → Prop) (w : World) (A : Option Addr) (sz : Nat) (rows : List (List Value)) : Prop := ∀ (j : Nat) (cs : List Value), rows[j]? = some cs → ∃ b off, A = some ⟨b, off, none⟩ ∧ S b ∧ w.rangeAt b (off + j * sz) cs
theorem heldP.loc {S T : Nat → Prop} {w w' : World} {A : Option Addr} {sz : Nat} {rows : List (List Value)} (h : heldP S w A sz rows) (hs : ∀ b, S b → w'.heap[b]? = w.heap[b]?) (hT : ∀ b, S b → T b) : heldP T w' A sz rows := fun j cs hj => by
  obtain ⟨b, off, h1, h2, h3⟩ := h j cs hj
  exact ⟨b, off, h1, hT b h2, range_same (hs b h2) h3⟩
/-- The threads' instructions, in the blocks S. -/
def groveP (S : Nat → Prop) (w : World) (rows : List (List Value)) (ts : List (List Ins)) : Prop := ∀ (j : Nat) (r : List Value) (t : List Ins), rows[j]? = some r → ts[j]? = some t → ∃ B C, r = [.slice B t.length C] ∧ heldP S w B 10 (t.map Ins.cells)
def Res.grove (S : Nat → Prop) (rows : List (List Value)) (ts : List (List Ins)) : Res := ⟨S, fun w => groveP S w rows ts, fun _ _ hb hp j r t h1 h2 => by
  obtain ⟨B, C, h3, h4⟩ := hp j r t h1 h2
  exact ⟨B, C, h3, h4.loc hb (fun _ h => h)⟩⟩
theorem Own.plantG {w0 w : World} {row : Option Nat} {S T : Nat → Prop} {A : Option Addr} {n c : Nat} {t : List Ins} {rows : List (List Value)} {ts : List (List Ins)} {rs : List Res} (H : Own w0 row w (.held T A 10 (t.map Ins.cells) :: .grove S rows ts :: rs)) (hk : ts[rows.length]? = some t) (hn : n = t.length) :
    Own w0 row w (.grove (fun b => T b ∨ S b) (rows ++ [[Value.slice A n c]]) ts :: rs) := by
  subst hn
  have hT : heldP T w A 10 (t.map Ins.cells) := H.pred 0 _ rfl
  have hS : groveP S w rows ts := H.pred 1 _ rfl
  refine H.fuse (Res.grove (fun b => T b ∨ S b) (rows ++ [[Value.slice A t.length c]]) ts) (show groveP (fun b => T b ∨ S b) w (rows ++ [[Value.slice A t.length c]]) ts from fun j r u h1 h2 => ?_) (fun b hb => hb)
  rcases Nat.lt_or_ge j rows.length with hj | hj
  · rw [List.getElem?_append_left hj] at h1
    obtain ⟨B, C, h3, h4⟩ := hS j r u h1 h2
    exact ⟨B, C, h3, h4.loc (fun _ _ => rfl) (fun _ h => .inr h)⟩
  · rw [List.getElem?_append_right hj] at h1
    obtain e : j - rows.length = 0 := by
      rcases Nat.eq_zero_or_pos (j - rows.length) with e | e
      · exact e
      · rw [List.getElem?_eq_none (by simp; omega)] at h1; cases h1
    rw [e] at h1
    obtain rfl : j = rows.length := by omega
    rw [hk] at h2
    cases h1; cases h2
    exact ⟨A, c, rfl, hT.loc (fun _ _ => rfl) (fun _ h => .inl h)⟩
/-- What Fold has made of a valid program. -/
def FoldOut (p : Prg) (w0 w : World) (h : Nat) (v : Value) : Prop :=
  ∃ LA LC S1 IA IC S2 TA TC rows S3 ccs S4, v = .agg ([.string p.name, .slice LA p.locs.length LC, .slice IA p.init.length IC, .slice TA p.threads.length TC, Go.Proofs.YtmfdpnjgljlkbaaDoor.b8 p.ask] ++ ccs).toArray ∧ p.locs.length ≤ LC ∧ rows.length = p.threads.length ∧ (∀ r ∈ rows, r.length = 1) ∧
    Own w0 none w [.tree S4 h ccs p.cond, .rws 22 1 (.slice TA p.threads.length TC) rows, .grove S3 rows (p.threads.map foldP), .held S2 IA 1 (p.init.map fun x => [Go.Proofs.YtmfdpnjgljlkbaaDoor.b8 x]), .held S1 LA 1 (p.locs.map fun s => [.string s])]
def hvP (l : List Ins) : Prop := ∀ i x, l[i]? = some x → x.op = 8 → 1 ≤ x.skip.toNat ∧ i + 1 + x.skip.toNat ≤ l.length
def FoldPre (p : Prg) : Prop := p.threads.length ≤ 4 ∧ p.init.length ≤ 1099511627776 ∧ ∀ t ∈ p.threads, t.length ≤ 12 ∧ hvP t
/-- The zero program's cells. -/
def zeroPr : List Value := [.string ByteArray.empty, .slice none 0 0, .slice none 0 0, .slice none 0 0, .int .u8 0, .int .u8 0, .int .u8 0, .int .u8 0, .int .u8 0, .slice none 0 0]
set_option maxHeartbeats 8000000 in
theorem Fold_any (cs : List Value) (p : Prg) (LA : Option Addr) (LC : Nat) (IA : Option Addr) (IC : Nat) (TA : Option Addr) (TC h : Nat) (ccs : List Value) (w0 : World) (hp : ProgIn w0 cs p LA LC IA IC TA TC h ccs) (hN : NeedsAt w0) (hs : rightErr p = 0 → Slim h p.cond) (hl : rightErr p = 0 → p.locs.length ≤ 1099511627776) (hOk : rightErr p = 0 → FoldPre p) :
    Calls Tryd.prog 16 #[.agg cs.toArray] w0 fun e w' =>
      (rightErr p ≠ 0 ∧ e = .returned (.tuple #[.agg zeroPr.toArray, .int .i64 (rightErr p)]) ∧ Below w0.heap.size w0 w') ∨ (rightErr p = 0 ∧ ∃ v, e = .returned (.tuple #[v, .int .i64 0]) ∧ FoldOut p w0 w' h v) := by
  have hP : ProgAt w0 cs p := ⟨_, _, _, _, _, _, _, _, hp⟩
  obtain ⟨c1, c2, c3, c4, A5, m5, C5, rfl⟩ := condShape hp.cond
  have hcs := hp.cs
  simp only [List.cons_append, List.nil_append] at hcs
  subst hcs
  have H := Own.start w0 none
  refine enterF Tryd.func16 rfl Tryd.ntmps16 rfl (fun a F => ?_)
  refine cSeq (fun K1 hK1 => ?_)
  refine cReg ?_
  refine sBx H F rfl rfl rfl ?_
  clear F a H; intro b1 a w F H
  refine sAl H Tryd.zeroValue37 F rfl rfl ?_
  clear F a H; intro b2 a w F H
  refine sAs F rfl rfl rfl ?_;clear F a;intro a F
  refine sNil ?_
  refine hK1 _ _ ?_; clear hK1
  refine cSeq (fun K2 hK2 => ?_)
  refine cSeq (fun K3 hK3 => ?_)
  refine cReg ?_
  refine sLr Tryd.underlying37 rfl ?si F rfl rfl rfl (H.whole 1 rfl) ?_
  case si => exact info_size Tryd.sizeOf37
  clear F a; intro a F
  refine sCall Tryd.call17 F rfl rfl rfl (right_any' _ p _ (hP.own H) (hN.own H)) ?_
  rintro e w ⟨rfl, hb⟩
  replace H := H.grow hb; clear hb
  refine ⟨_, rfl, ?_⟩
  clear F a; intro a F
  refine sAs F rfl rfl rfl ?_;clear F a;intro a F
  refine sNil ?_
  refine hK3 _ _ ?_; clear hK3
  refine cSeq (fun K4 hK4 => ?_)
  refine cReg ?_
  refine sMv F rfl rfl rfl ?_;clear F a;intro a F
  refine sBin F rfl rfl rfl rfl bNeq ?_;clear F a;intro a F
  refine sNil ?_
  refine hK4 _ _ ?_; clear hK4
  refine cIf F rfl (fun h11 => ?_) (fun h11 => ?_)
  ·
   replace h11 := bneT h11
   refine cSeq (fun K5 hK5 => ?_)
   refine cReg ?_
   refine sBd (places := [(0, 1), (1, 1), (2, 1), (3, 1), (4, 1), (5, 5)]) Tryd.zeroValue37 Tryd.underlying37 (by kernel_rfl) F rfl rfl rfl rfl ?_;clear F a;intro a F
   refine sMv F rfl rfl rfl ?_;clear F a;intro a F
   refine sSr H 0 ?si F rfl rfl rfl ?s1 rfl rfl ?_
   case si => exact info_size Tryd.sizeOf37
   case s1 => first | rfl | (repeat (first | exact one_nil | (apply one_cons; · first | rfl | assumption | exact one_bif rfl rfl)))
   clear H; intro w H
   refine sAs F rfl rfl rfl ?_;clear F a;intro a F
   refine sNil ?_
   refine hK5 _ _ ?_; clear hK5
   refine wp_ret ?_
   simp only [Exit.then]
   refine bRetC1 Tryd.results16 F rfl rfl Tryd.underlying37 rfl H 0 rfl Tryd.sizeOf37 rfl ?_
   first
     | exact .inl ⟨h11, rfl, H.below⟩
     | (refine .inr ⟨h0, _, rfl, ?_⟩
        subst hrj
        exact ⟨A18, c18, S18, A21, c21, S21, A3, c3', rows, S, _, S9, by rw [hjl]; rfl, by assumption, hjl, hr1, by rw [← hjl]; exact H.sel [0, 0, 0, 0, 0] rfl rfl⟩)
  replace h11 := bneF h11
  have h0 : rightErr p = 0 := by omega
  obtain ⟨ht4, hi40, htt⟩ := hOk h0
  replace hs := hs h0
  replace hl := hl h0
  refine wp_skip ?_
  refine hK2 _ _ ?_; clear hK2
  refine cSeq (fun K6 hK6 => ?_)
  refine cRegRO (by kernel_rfl) H ?_
  replace H := H.drew
  refine eTakeF (k := 0) (i := 0) rfl (by kernel_rfl) F rfl rfl rfl (fun w => rFa (f := 0) (k := 0) Tryd.underlying37 rfl Tryd.sizeOf9 rfl rfl F rfl) H (fun _ _ _ h => h) ?_;clear F a;intro a F
  refine eTake (k := 1) (i := 1) rfl (by kernel_rfl) F rfl rfl rfl rfl (fun w H => rLd Tryd.isAgg9 F rfl (H.cell 1 rfl rfl)) H (fun _ _ _ h => h) ?_;clear F a;intro a F
  refine eTakeF (k := 2) (i := 2) rfl (by kernel_rfl) F rfl rfl rfl (fun w => rFa (f := 1) (k := 1) Tryd.underlying37 rfl Tryd.sizeOf33 rfl rfl F rfl) H (fun _ _ _ h => h) ?_;clear F a;intro a F
  refine eTake (k := 3) (i := 3) rfl (by kernel_rfl) F rfl rfl rfl rfl (fun w H => rLd Tryd.isAgg33 F rfl (H.cell 1 rfl rfl)) H (fun _ _ _ h => h) ?_;clear F a;intro a F
  refine eTakeF (k := 4) (i := 5) rfl (by kernel_rfl) F rfl rfl rfl (fun w => rFa (f := 2) (k := 2) Tryd.underlying37 rfl Tryd.sizeOf34 rfl rfl F rfl) H (fun _ _ _ h => h) ?_;clear F a;intro a F
  refine eTake (k := 5) (i := 6) rfl (by kernel_rfl) F rfl rfl rfl rfl (fun w H => rLd Tryd.isAgg34 F rfl (H.cell 1 rfl rfl)) H (fun _ _ _ h => h) ?_;clear F a;intro a F
  refine eTakeF (k := 6) (i := 8) rfl (by kernel_rfl) F rfl rfl rfl (fun w => rFa (f := 4) (k := 4) Tryd.underlying37 rfl Tryd.sizeOf5 rfl rfl F rfl) H (fun _ _ _ h => h) ?_;clear F a;intro a F
  refine eTake (k := 7) (i := 9) rfl (by kernel_rfl) F rfl rfl rfl rfl (fun w H => rLd Tryd.isAgg5 F rfl (H.cell 1 rfl rfl)) H (fun _ _ _ h => h) ?_;clear F a;intro a F
  refine eJoin F H [1, 2] 12 [true, true, true, true, true, true, true, true, true, true, true, true, false] (fun rs ups w => ∃ A18 c18 S18 A21 c21 S21 b5, ups = [(24, .agg ([.string p.name, .slice A18 p.locs.length c18, .slice A21 p.init.length c21, .slice none 0 0, Go.Proofs.YtmfdpnjgljlkbaaDoor.b8 p.ask, .int .u8 0, .int .u8 0, .int .u8 0, .int .u8 0, .slice none 0 0] : List Value).toArray), (5, .pointer (some ⟨b5, 0, none⟩))] ∧ p.locs.length ≤ c18 ∧ Own w0 none w ((.held S18 A18 1 (p.locs.map fun s => [.string s])) :: (.held S21 A21 1 (p.init.map fun x => [Go.Proofs.YtmfdpnjgljlkbaaDoor.b8 x])) :: (.blk b5 [.string ByteArray.empty, .slice none 0 0, .slice none 0 0, .slice none 0 0, .int .u8 0, .int .u8 0, .int .u8 0, .int .u8 0, .int .u8 0, .slice none 0 0] 37) :: rs)) (by repeat (first | exact SubR.nil | (apply SubR.cons; · rfl))) ?_ (fun hJ => ?_)
  rotate_left
  ·
   refine eTwo (k := 8) (i := 4) (j := 11) (by kernel_rfl) F rfl rfl rfl rfl ?_ ?_
   ·
    refine oCall Tryd.call39 F rfl rfl ((by have := cloneS_any LA LC _ _ (hp.locs.own H) (by simp) (by simp [Value.oneCell']) (by simpa using hl); simp only [List.length_map] at this; exact this)) ?_
    rintro e w ⟨A18, c18, S18, rfl, hc18, H2⟩
    replace H := H.join H2; clear H2
    refine ⟨_, rfl, ?_⟩
    clear F a; intro a F
    refine eKeep H.tail ?_
    refine eTwo (k := 9) (i := 7) (j := 11) (by kernel_rfl) F rfl rfl rfl rfl ?_ ?_
    ·
     refine oCall Tryd.call40 F rfl rfl ((by have := cloneB_any IA IC _ _ (hp.init.own H) (by simp) (by simp [Go.Proofs.YtmfdpnjgljlkbaaDoor.b8, Value.oneCell']) (by simpa using hi40); simp only [List.length_map] at this; exact this)) ?_
     rintro e w ⟨A21, c21, S21, rfl, hc21, H2⟩
     replace H := H.join H2; clear H2
     refine ⟨_, rfl, ?_⟩
     clear F a; intro a F
     refine eKeep H.tail.tail ?_
     refine eTake (k := 10) (i := 10) rfl (by kernel_rfl) F rfl rfl rfl rfl (fun w H => rBd (cs := ([.string p.name, .slice A18 p.locs.length c18, .slice A21 p.init.length c21, .slice none 0 0, Go.Proofs.YtmfdpnjgljlkbaaDoor.b8 p.ask, .int .u8 0, .int .u8 0, .int .u8 0, .int .u8 0, .slice none 0 0] : List Value)) (places := [(0, 1), (1, 1), (2, 1), (3, 1), (4, 1), (5, 5)]) Tryd.zeroValue37 Tryd.underlying37 (by kernel_rfl) F rfl rfl) H.tail.tail (fun _ _ _ h => h) ?_;clear F a;intro a F
     refine eOne (k := 11) (i := 11) rfl (by kernel_rfl) F rfl (oAl H Tryd.zeroValue37 F rfl ?_)
     clear F a H; intro b5 a w F H
     refine eKeep H.tail.tail.tail ?_
     exact eGo hJ (by kernel_rfl) _ ⟨A18, c18, S18, A21, c21, S21, b5, rfl, by assumption, H.sel [2, 1, 0, 3, 4] rfl rfl⟩ (F.to (by repeat (first | exact trivial | refine Le.cons rfl ?_)))
    refine oAl H Tryd.zeroValue37 F rfl ?_
    clear F a H; intro b5 a w F H
    refine eKeep H.tail.tail ?_
    refine eOne (k := 10) (i := 7) rfl (by kernel_rfl) F rfl (oCall Tryd.call40 F rfl rfl ((by have := cloneB_any IA IC _ _ (hp.init.own H) (by simp) (by simp [Go.Proofs.YtmfdpnjgljlkbaaDoor.b8, Value.oneCell']) (by simpa using hi40); simp only [List.length_map] at this; exact this)) ?_)
    rintro e w ⟨A21, c21, S21, rfl, hc21, H2⟩
    replace H := H.join H2; clear H2
    refine ⟨_, rfl, ?_⟩
    clear F a; intro a F
    refine eKeep H.tail.tail.tail ?_
    refine eTake (k := 11) (i := 10) rfl (by kernel_rfl) F rfl rfl rfl rfl (fun w H => rBd (cs := ([.string p.name, .slice A18 p.locs.length c18, .slice A21 p.init.length c21, .slice none 0 0, Go.Proofs.YtmfdpnjgljlkbaaDoor.b8 p.ask, .int .u8 0, .int .u8 0, .int .u8 0, .int .u8 0, .slice none 0 0] : List Value)) (places := [(0, 1), (1, 1), (2, 1), (3, 1), (4, 1), (5, 5)]) Tryd.zeroValue37 Tryd.underlying37 (by kernel_rfl) F rfl rfl) H.tail.tail.tail (fun _ _ _ h => h) ?_;clear F a;intro a F
    exact eGo hJ (by kernel_rfl) _ ⟨A18, c18, S18, A21, c21, S21, b5, rfl, by assumption, H.sel [2, 0, 1, 3, 4] rfl rfl⟩ (F.to (by repeat (first | exact trivial | refine Le.cons rfl ?_)))
   refine oAl H Tryd.zeroValue37 F rfl ?_
   clear F a H; intro b5 a w F H
   refine eKeep H.tail ?_
   refine eOne (k := 9) (i := 4) rfl (by kernel_rfl) F rfl (oCall Tryd.call39 F rfl rfl ((by have := cloneS_any LA LC _ _ (hp.locs.own H) (by simp) (by simp [Value.oneCell']) (by simpa using hl); simp only [List.length_map] at this; exact this)) ?_)
   rintro e w ⟨A18, c18, S18, rfl, hc18, H2⟩
   replace H := H.join H2; clear H2
   refine ⟨_, rfl, ?_⟩
   clear F a; intro a F
   refine eKeep H.tail.tail ?_
   refine eOne (k := 10) (i := 7) rfl (by kernel_rfl) F rfl (oCall Tryd.call40 F rfl rfl ((by have := cloneB_any IA IC _ _ (hp.init.own H) (by simp) (by simp [Go.Proofs.YtmfdpnjgljlkbaaDoor.b8, Value.oneCell']) (by simpa using hi40); simp only [List.length_map] at this; exact this)) ?_)
   rintro e w ⟨A21, c21, S21, rfl, hc21, H2⟩
   replace H := H.join H2; clear H2
   refine ⟨_, rfl, ?_⟩
   clear F a; intro a F
   refine eKeep H.tail.tail.tail ?_
   refine eTake (k := 11) (i := 10) rfl (by kernel_rfl) F rfl rfl rfl rfl (fun w H => rBd (cs := ([.string p.name, .slice A18 p.locs.length c18, .slice A21 p.init.length c21, .slice none 0 0, Go.Proofs.YtmfdpnjgljlkbaaDoor.b8 p.ask, .int .u8 0, .int .u8 0, .int .u8 0, .int .u8 0, .slice none 0 0] : List Value)) (places := [(0, 1), (1, 1), (2, 1), (3, 1), (4, 1), (5, 5)]) Tryd.zeroValue37 Tryd.underlying37 (by kernel_rfl) F rfl rfl) H.tail.tail.tail (fun _ _ _ h => h) ?_;clear F a;intro a F
   exact eGo hJ (by kernel_rfl) _ ⟨A18, c18, S18, A21, c21, S21, b5, rfl, by assumption, H.sel [1, 0, 2, 3, 4] rfl rfl⟩ (F.to (by repeat (first | exact trivial | refine Le.cons rfl ?_)))
  clear F H; intro ups a w hI F
  obtain ⟨A18, c18, S18, A21, c21, S21, b5, rfl, hfl0, H⟩ := hI
  refine eOne (k := 12) (i := 12) rfl (by kernel_rfl) F rfl (oSr H 2 ?si F rfl rfl ?s1 rfl rfl ?_)
  case si => exact info_size Tryd.sizeOf37
  case s1 => first | rfl | (repeat (first | exact one_nil | (apply one_cons; · first | rfl | assumption | exact one_bif rfl rfl)))
  clear H; intro w H
  refine ePartO (by kernel_rfl) H ?_
  refine eNil (k := 13) (by kernel_rfl) ?_
  refine hK6 _ _ ?_; clear hK6
  refine cSeq (fun K7 hK7 => ?_)
  refine cSeq (fun K8 hK8 => ?_)
  refine cReg ?_
  refine sFa (f := 3) (k := 3) Tryd.underlying37 rfl Tryd.sizeOf35 rfl rfl F rfl rfl rfl ?_;clear F a;intro a F
  refine sLd Tryd.isAgg35 F rfl rfl rfl (H.cell 4 rfl rfl) ?_;clear F a;intro a F
  refine sLen Tryd.underlying35 F rfl rfl rfl ?_;clear F a;intro a F
  refine sMv F rfl rfl rfl ?_;clear F a;intro a F
  refine sNil ?_
  refine hK8 _ _ ?_; clear hK8
  refine wp_block ?_
  refine cLoopR [1, 2, 5, 26, 27] (fun m ups w => ∃ (j : Nat) (A3 : Option Addr) (c3' : Nat) (S : Nat → Prop) (rows : List (List Value)), m = p.threads.length - j ∧ ups = [(28, .int .i64 ((j : Nat) : Int))] ∧ rows.length = j ∧ j ≤ p.threads.length ∧ (∀ r ∈ rows, r.length = 1) ∧ Own w0 none w [.grove S rows (p.threads.map foldP), .rws 22 1 (.slice A3 rows.length c3') rows, .blk b5 [.string p.name, .slice A18 p.locs.length c18, .slice A21 p.init.length c21, .slice A3 rows.length c3', Go.Proofs.YtmfdpnjgljlkbaaDoor.b8 p.ask, .int .u8 0, .int .u8 0, .int .u8 0, .int .u8 0, .slice none 0 0] 37, .held S21 A21 1 (p.init.map fun x => [Go.Proofs.YtmfdpnjgljlkbaaDoor.b8 x]), .held S18 A18 1 (p.locs.map fun s => [.string s]), .blk b2 [.string ByteArray.empty, .slice none 0 0, .slice none 0 0, .slice none 0 0, .int .u8 0, .int .u8 0, .int .u8 0, .int .u8 0, .int .u8 0, .slice none 0 0] 37, .blk b1 [.string p.name, .slice LA p.locs.length LC, .slice IA p.init.length IC, .slice TA p.threads.length TC, Go.Proofs.YtmfdpnjgljlkbaaDoor.b8 p.ask, Go.Proofs.YtmfdpnjgljlkbaaDoor.b8 c1, Go.Proofs.YtmfdpnjgljlkbaaDoor.b8 c2, Go.Proofs.YtmfdpnjgljlkbaaDoor.b8 c3, Go.Proofs.YtmfdpnjgljlkbaaDoor.b8 c4, .slice A5 m5 C5] 37]) F (p.threads.length) [(28, .int .i64 ((0 : Nat) : Int))] (by repeat (first | exact SubR.nil | (apply SubR.cons; · rfl))) ?_ ?_ ?_
  · exact ⟨0, none, 0, fun _ => False, [], rfl, rfl, rfl, Nat.zero_le _, (by simp), ((H.sel [2, 1, 0, 3, 4] rfl rfl).nilRws 22 1).void (.grove (fun _ => False) [] (p.threads.map foldP)) (show groveP (fun _ => False) _ [] (p.threads.map foldP) from fun j r t h1 => by simp at h1) (fun _ hb => hb)⟩
  · repeat (first | exact trivial | refine Le.cons rfl ?_)
  clear F
  clear H
  intro m ups a w hI F
  obtain ⟨j, A3, c3', S, rows, rfl, rfl, hrj, hj, hr1, H⟩ := hI
  refine cSeq (fun K9 hK9 => ?_)
  refine cReg ?_
  refine sBin F rfl rfl rfl rfl bLss ?_;clear F a;intro a F
  refine sNil ?_
  refine hK9 _ _ ?_; clear hK9
  refine cSeq (fun K10 hK10 => ?_)
  refine cIf F rfl (fun h29 => ?_) (fun h29 => ?_)
  ·
   replace h29 := of_decide_eq_true h29
   have hjl : j < p.threads.length := by omega
   obtain ⟨t, hx⟩ : ∃ x, p.threads[j]? = some x := ⟨_, List.getElem?_eq_getElem hjl⟩
   obtain ⟨b', off', B', C', rfl, hB', hR', hN'⟩ := hp.threads j t hx
   obtain ⟨ht12, hvt⟩ := htt t (List.mem_of_getElem? hx)
   refine wp_skip ?_
   refine hK10 _ _ ?_; clear hK10
   refine cSeq (fun K11 hK11 => ?_)
   refine wp_block ?_
   refine cSeq (fun K12 hK12 => ?_)
   refine cReg ?_
   refine sIx Tryd.underlying35 Tryd.sizeOf22 F rfl rfl rfl rfl ?_ ?_
   focus (first | omega | decide | (simp; omega))
   clear F a; intro a F
   refine sLd Tryd.isAgg22 F rfl rfl rfl (H.arg hB') ?_;clear F a;intro a F
   refine sAs F rfl rfl rfl ?_;clear F a;intro a F
   refine sNil ?_
   refine hK12 _ _ ?_; clear hK12
   refine cRegRO (by kernel_rfl) H ?_
   replace H := H.drew
   refine eTakeF (k := 0) (i := 0) rfl (by kernel_rfl) F rfl rfl rfl (fun w => rFa (f := 3) (k := 3) Tryd.underlying37 rfl Tryd.sizeOf35 rfl rfl F rfl) H (fun _ _ _ h => h) ?_;clear F a;intro a F
   refine eTake (k := 1) (i := 1) rfl (by kernel_rfl) F rfl rfl rfl rfl (fun w H => rLd Tryd.isAgg35 F rfl (H.cell 2 rfl rfl)) H (fun _ _ _ h => h) ?_;clear F a;intro a F
   refine eTakeF (k := 2) (i := 2) rfl (by kernel_rfl) F rfl rfl rfl (fun w => rMv F rfl) H (fun _ _ _ h => h) ?_;clear F a;intro a F
   refine eOne (k := 3) (i := 3) rfl (by kernel_rfl) F rfl (oCall Tryd.call41 F rfl rfl (fold_any B' C' t _ (hR'.own H) ht12 hvt) ?_)
   rintro e w ⟨A35, c35, rfl, H2⟩
   replace H := H.join H2; clear H2
   refine ⟨_, rfl, ?_⟩
   clear F a; intro a F
   refine eKeep H.tail ?_
   refine eOne (k := 4) (i := 4) rfl (by kernel_rfl) F rfl (oBs1 H Tryd.underlying35 Tryd.sizeOf22 Tryd.zeroValue22 rfl F rfl rfl rfl ?_)
   clear F a H; intro b36 a w F H
   refine eKeep H.tail.tail ?_
   refine eOne (k := 5) (i := 5) rfl (by kernel_rfl) F rfl (oApp1 (bytes := 24) H 3 Tryd.underlying35 Tryd.typeInfo22 rfl rfl rfl rfl rfl rfl F rfl rfl rfl rfl (H.whole 0 rfl) rfl ?s1 ?s2 ?_)
   case s1 => first | rfl | (repeat (first | exact one_nil | (apply one_cons; · first | rfl | assumption | exact one_bif rfl rfl)))
   case s2 => omega
   clear F a H; intro A37 c37 a w F H
   refine ePartO (by kernel_rfl) H ?_
   refine eTakeF (k := 6) (i := 6) rfl (by kernel_rfl) F rfl rfl rfl (fun w => rFa (f := 3) (k := 3) Tryd.underlying37 rfl Tryd.sizeOf35 rfl rfl F rfl) H (fun _ _ _ h => h) ?_;clear F a;intro a F
   refine eOne (k := 7) (i := 7) rfl (by kernel_rfl) F rfl (oSt H 4 Tryd.sizeOf35 F rfl rfl rfl rfl rfl ?_)
   clear H; intro w H
   refine ePartO (by kernel_rfl) H ?_
   refine eNil (k := 8) (by kernel_rfl) ?_
   refine hK11 _ _ ?_; clear hK11
   refine cReg ?_
   refine sBin F rfl rfl rfl rfl (bAddN (j := 1) ?_) ?_
   focus omega
   clear F a; intro a F
   refine sMv F rfl rfl rfl ?_;clear F a;intro a F
   refine sNil ?_
   (refine ⟨_, ?_, _, ⟨j + 1, A37, c37, _, _, rfl, rfl, ?_, ?_, ?_, (((H.sel [1, 2, 3, 4, 5, 6, 7, 8] rfl rfl).toHeld (by simp [Ins.cells]) (by decide)).plantG (by rw [hrj, List.getElem?_map, hx]; rfl) rfl)⟩, F.to (by repeat (first | exact trivial | refine Le.cons rfl ?_))⟩
    · omega
    · simp; omega
    · omega
    · intro r hr
      rcases List.mem_append.1 hr with h1 | h1
      · exact hr1 r h1
      · simp at h1; subst h1; rfl)
  replace h29 := of_decide_eq_false h29
  have hjl : j = p.threads.length := by omega
  refine wp_exit ?_
  refine hK7 _ _ ?_; clear hK7
  refine cSeq (fun K13 hK13 => ?_)
  refine cReg ?_
  refine sFa (f := 5) (k := 5) Tryd.underlying37 rfl Tryd.sizeOf25 rfl rfl F rfl rfl rfl ?_;clear F a;intro a F
  refine sLr Tryd.underlying25 rfl ?si F rfl rfl rfl (H.range 6 rfl _ 5) ?_
  case si => exact info_size Tryd.sizeOf25
  clear F a; intro a F
  refine sCall Tryd.call42 F rfl rfl rfl (turn_any h _ p.cond _ (CondAt.grown H.grown rfl _ _ _ hp.cond) hs) ?_
  rintro e w ⟨cs9, S9, rfl, H2⟩
  have hsh := condShape (H2.pred 0 _ rfl : TreeIn S9 _ h cs9 p.cond).at
  obtain ⟨k9, t9, n9, v9, A9, m9, C9, rfl⟩ := hsh
  replace H := H.join H2; clear H2
  refine ⟨_, rfl, ?_⟩
  clear F a; intro a F
  refine sFa (f := 5) (k := 5) Tryd.underlying37 rfl Tryd.sizeOf25 rfl rfl F rfl rfl rfl ?_;clear F a;intro a F
  refine sSr H 3 ?si F rfl rfl rfl ?s1 rfl rfl ?_
  case si => exact info_size Tryd.sizeOf25
  case s1 => first | rfl | (repeat (first | exact one_nil | (apply one_cons; · first | rfl | assumption | exact one_bif rfl rfl)))
  clear H; intro w H
  refine sNil ?_
  refine hK13 _ _ ?_; clear hK13
  refine cSeq (fun K14 hK14 => ?_)
  refine cReg ?_
  refine sLr Tryd.underlying37 rfl ?si F rfl rfl rfl (H.range 3 rfl _ 10) ?_
  case si => exact info_size Tryd.sizeOf37
  clear F a; intro a F
  refine sSr H 6 ?si F rfl rfl rfl ?s1 rfl rfl ?_
  case si => exact info_size Tryd.sizeOf37
  case s1 => first | rfl | (repeat (first | exact one_nil | (apply one_cons; · first | rfl | assumption | exact one_bif rfl rfl)))
  clear H; intro w H
  refine sAs F rfl rfl rfl ?_;clear F a;intro a F
  refine sNil ?_
  refine hK14 _ _ ?_; clear hK14
  refine wp_ret ?_
  refine bRetC1 Tryd.results16 F rfl rfl Tryd.underlying37 rfl H 6 rfl Tryd.sizeOf37 rfl ?_
  first
    | exact .inl ⟨h11, rfl, H.below⟩
    | (refine .inr ⟨h0, _, rfl, ?_⟩
       subst hrj
       exact ⟨A18, c18, S18, A21, c21, S21, A3, c3', rows, S, _, S9, by rw [hjl]; rfl, by assumption, hjl, hr1, by rw [← hjl]; exact H.sel [0, 2, 1, 4, 5] rfl rfl⟩)
end Go.Proofs.YtmfdpnjgljlkbaaDoor
