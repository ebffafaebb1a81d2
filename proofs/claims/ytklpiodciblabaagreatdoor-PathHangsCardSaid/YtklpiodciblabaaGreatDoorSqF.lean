/-
  WALK2. Package path: Paths. Conditions: the thread and the domain lie in memory, and the two tables.
-/
import Derived.Test.YtklpiodciblabaaGreatDoorSqE
import Derived.Test.YtklpiodciblabaaGreatDoorPaI
import Derived.Test.YtklpiodciblabaaGreatDoorVm1
set_option linter.unusedSimpArgs false
set_option linter.unusedVariables false
namespace Go.Proofs.YtklpiodciblabaaGreatDoor
open Go.RowKit
set_option maxRecDepth 100000
section
variable {w0 w : World} {row : Option Nat} {rs xs ys zs : List Res}
theorem Own.front (H : Own w0 row w (xs ++ ys)) : Own w0 row w xs := (H.perm List.perm_append_comm).suf
theorem Own.swapN (H : Own w0 row w rs) (i j : Nat) : Own w0 row w ((rs.drop i).take j ++ (rs.take i ++ rs.drop (i + j))) := by
  refine H.perm ?_
  have e : rs = rs.take i ++ ((rs.drop i).take j ++ rs.drop (i + j)) := by
    rw [← List.drop_drop, List.take_append_drop, List.take_append_drop]
  have h : (rs.take i ++ ((rs.drop i).take j ++ rs.drop (i + j))).Perm ((rs.drop i).take j ++ (rs.take i ++ rs.drop (i + j))) := by
    rw [← List.append_assoc, ← List.append_assoc]
    exact List.Perm.append_right _ List.perm_append_comm
  exact (List.Perm.of_eq e).trans h
theorem rfOwnK {P : Program} {g : Operand} {p : Tmp} {assign body : Code} {Q : Exit → Act → World → Prop} {N : Nat} {a : Act} {env : List (Nat × Value)} {ds : List Deferred} {α : Type}
    {gf : Nat} {lb : Array Value} {T : TypeId} {cells : α → List Value} {ok : α → Prop} {all : List α} (k : Nat) (F : Has N a env) (hpN : Nat.blt p N = true) (hg : ev env g = some (.func (.func gf) #[] lb)) (eg : ∀ args w, (callFunc gf args).run P w = .ok (.enter gf args) w)
    (H : Own w0 none w rs) (hit : Iter P gf lb T cells ok all w0 (rs.drop k)) (I : List α → List Res → Prop) (Ix : Code → List α → List Res → Prop) (h0 : I [] (rs.take k)) (asg : Value → List (Nat × Value))
    (hassign : ∀ (l : Nat) (a1 : Act) (W : World) (v : Value) (K : Act → World → Prop), Has N a1 ((p, v) :: env) → (∀ a2, Has N a2 (asg v ++ (p, v) :: env) → K (wD a2 []) W) → assign.wpIn (Fence.wide.inRound l) 0 P (Exit.then K (fun _ _ _ => False)) (wD a1 []) W)
    (hbody : ∀ (l : Nat) (pre : List α) (x : α) (b : Nat) (W : World) (ps1 qs : List Res) (a2 : Act), I pre ps1 → pre ++ [x] <+: all → ok x → Own w0 none W (.blk b (cells x) T :: (ps1 ++ qs)) → Has N a2 (asg (.pointer (some ⟨b, 0, none⟩)) ++ (p, .pointer (some ⟨b, 0, none⟩)) :: env) →
      body.wpIn (Fence.wide.inRound l) 0 P (rPost I Ix (pre ++ [x]) (fun ps2 w2 => Own w0 none w2 (.blk b (cells x) T :: (ps2 ++ qs)))) (wD a2 []) W)
    (hdone : ∀ (D : Nat) (W : World) (us' : List Res), I all us' → Own w0 none W (.obj D (.deferred (some [])) :: (us' ++ rs.drop k)) → Q .normal (wD a (markD D :: ds)) W)
    (hstop : ∀ (D : Nat) (c : Code) (pre : List α) (W : World) (us' : List Res), pre <+: all → Ix c pre us' → Own w0 none W (.obj D (.deferred (some [])) :: (us' ++ rs.drop k)) → c.wpIn Fence.wide 0 P Q (wD a (markD D :: ds)) W) :
    (Code.rangeFunc g #[p] assign body).wpIn Fence.wide 0 P Q (wD a ds) w :=
  rfOwn (us := rs.take k) (ts := rs.drop k) F hpN hg eg (by rw [List.take_append_drop]; exact H) hit I Ix h0 asg hassign hbody hdone hstop
end
structure PlP where
  path : PathP
  A1 : Option Addr
  c1 : Nat
  A2 : Option Addr
  c2 : Nat
  A3 : Option Addr
  c3 : Nat
  A4 : Option Addr
  c4 : Nat
def PlP.cells (q : PlP) : List Value := q.path.cells q.A1 q.c1 q.A2 q.c2 q.A3 q.c3 q.A4 q.c4
def PlP.res (q : PlP) : List Res := q.path.res q.A1 q.c1 q.A2 q.c2 q.A3 q.c3 q.A4 q.c4
theorem path_pl (b : Nat) (r : RunP) (w0 : World) (hB : RunAt w0 b r) (hT : TabAt w0) (hm : r.many ≤ 24) (hs : SetsOk r) :
    Calls Tryz.prog 30 #[.pointer (some ⟨b, 0, none⟩)] w0 fun e w' => ∃ q : PlP, q.path = runPath r ∧ e = .returned (.agg q.cells.toArray) ∧ Own w0 none w' q.res := by
  refine (path_any b r w0 hB hT hm hs).mono ?_;rintro e w' ⟨A1, c1, A2, c2, A3, c3, A4, c4, rfl, H⟩
  have h := evs_len r
  refine ⟨⟨runPath r, A1, c1, A2, c2, A3, c3, A4, c4⟩, rfl, ?_, ?_⟩
  · simp only [PlP.cells, PathP.cells, pathCells, runPath, h]
  · simp only [PlP.res, PathP.res, pathRes, runPath, h] at H ⊢
    exact H
theorem Own.addP {w0 w : World} {row : Option Nat} {q : PlP} {ps : List PlP} {qs hd : List Res} (H : Own w0 row w (q.res ++ (hd ++ (ps.flatMap PlP.res ++ qs)))) : Own w0 row w (hd ++ ((ps ++ [q]).flatMap PlP.res ++ qs)) := by
  refine H.perm ?_
  have e : (ps ++ [q]).flatMap PlP.res = ps.flatMap PlP.res ++ q.res := by simp
  rw [e]
  have h1 : (q.res ++ (hd ++ (ps.flatMap PlP.res ++ qs))).Perm (hd ++ (q.res ++ (ps.flatMap PlP.res ++ qs))) := by
    have := List.Perm.append_right (ps.flatMap PlP.res ++ qs) (List.perm_append_comm (l₁ := q.res) (l₂ := hd))
    simpa only [List.append_assoc] using this
  refine h1.trans (List.Perm.append_left _ ?_);rw [← List.append_assoc]
  exact List.Perm.append_right _ List.perm_append_comm
theorem dist_le (l : List UInt8) : (distL l).length ≤ 256 := by
  unfold distL
  refine Nat.le_trans (List.length_filter_le _ _) ?_
  simp
def pathsR (l : List Ins) (dom : List UInt8) (most : Int) : List PathP × Nat :=
  if most < 0 ∨ 4096 < most ∨ threadOk 6 l = false then ([], 2)
  else if most < ((endsL l (distL dom)).length : Int) then ([], 5)
  else ((endsL l (distL dom)).map runPath, 0)
def PathsPost (q : List PathP × Nat) (w0 : World) (e : Ending) (w' : World) : Prop :=
  ∃ (ps : List PlP) (A : Option Addr) (C : Nat), ps.map PlP.path = q.1 ∧ e = .returned (.tuple #[.slice A ps.length C, .int .i64 (q.2 : Int)]) ∧ Own w0 none w' (.rws 28 12 (.slice A ps.length C) (ps.map PlP.cells) :: ps.flatMap PlP.res)
theorem paths_bad {l : List Ins} {dom : List UInt8} {most : Int} (h : most < 0 ∨ 4096 < most ∨ threadOk 6 l = false) : pathsR l dom most = ([], 2) := by unfold pathsR; rw [if_pos h]
theorem paths_many {l : List Ins} {dom : List UInt8} {most : Int} (h0 : ¬ most < 0) (h1 : ¬ 4096 < most) (h2 : threadOk 6 l = true) (h : most < ((endsL l (distL dom)).length : Int)) : pathsR l dom most = ([], 5) := by
  unfold pathsR
  rw [if_neg (by rintro (h | h | h); exact h0 h; exact h1 h; rw [h2] at h; cases h), if_pos h]
theorem paths_ok {l : List Ins} {dom : List UInt8} {most : Int} (h0 : ¬ most < 0) (h1 : ¬ 4096 < most) (h2 : threadOk 6 l = true) (h : ((endsL l (distL dom)).length : Int) ≤ most) : pathsR l dom most = ((endsL l (distL dom)).map runPath, 0) := by
  unfold pathsR
  rw [if_neg (by rintro (h | h | h); exact h0 h; exact h1 h; rw [h2] at h; cases h), if_neg (by omega)]
theorem nil_post {w0 w : World} {rs : List Res} (H : Own w0 none w rs) (err : Nat) : PathsPost ([], err) w0 (.returned (.tuple #[.slice none 0 0, .int .i64 (err : Int)])) w :=
  ⟨[], none, 0, rfl, rfl, (H.nilRws 28 12).sel [0] rfl rfl⟩
theorem b8_one {r : List Value} {l : List UInt8} (hr : r ∈ l.map fun x => [b8 x]) : r.length = 1 := by
  obtain ⟨x, _, rfl⟩ := List.mem_map.1 hr; rfl
namespace Md
set_option maxHeartbeats 4000000 in
theorem Paths_any (A : Option Addr) (C : Nat) (l : List Ins) (DA : Option Addr) (DC : Nat) (dom : List UInt8) (most : Int) (w0 : World) (hA : RowsAt w0 A 10 (l.map Ins.cells)) (hn : l.length ≤ 9223372036854775807) (hD : BytesAt w0 DA dom) (hdn : dom.length ≤ 1000000) (hN : NeedsAt w0) (hT : TabAt w0) :
    Calls Tryz.prog 17 #[.slice A l.length C, .slice DA dom.length DC, .int .i64 most] w0 (PathsPost (pathsR l dom most) w0) := by
  have H := Own.start w0 none
  refine enterM Tryz.func17 rfl Tryz.ntmps17 rfl (fun a F => ?_);refine cSeq (fun K1 hK1 => ?_);refine cReg ?_;refine sBx H F rfl rfl rfl ?_;clear F a H; intro b5 a w F H;refine sAl H Tryz.zeroValue52 F rfl rfl ?_;clear F a H; intro b6 a w F H;refine sAl H Tryz.zeroValue29 F rfl rfl ?_;clear F a H; intro b7 a w F H;refine sNil ?_;refine hK1 _ _ ?_; clear hK1;refine cSeq (fun K2 hK2 => ?_);refine cSeq (fun K3 hK3 => ?_);refine cReg ?_;refine sLd Tryz.isAgg3 F rfl rfl rfl (H.cell 2 rfl rfl) (qBin rfl rfl rfl rfl bLss (qMv rfl rfl rfl ?_));clear F a;intro a F
  refine F.split 13 rfl ?_ ?_ <;> (clear F; intro h13 F)
  ·
   replace h13 := of_decide_eq_true h13;refine sSk F rfl rfl (qSk rfl rfl (qPk rfl rfl rfl rfl (qMv rfl rfl rfl (qSk rfl rfl (qSk rfl rfl (qSk rfl rfl (qPk rfl rfl rfl rfl ?_)))))));clear F a;intro a F;refine sNil ?_;refine hK3 _ _ ?_; clear hK3;refine cIfT F rfl ?_;refine cSeq (fun K4 hK4 => ?_);refine cReg ?_;refine sSt H 1 Tryz.sizeOf52 F rfl rfl rfl rfl rfl rfl ?_;clear H; intro w H;refine sSt H 0 Tryz.sizeOf29 F rfl rfl rfl rfl rfl rfl ?_;clear H; intro w H;refine sNil ?_;refine hK4 _ _ ?_; clear hK4;refine wp_ret ?_;simp only [Exit.then];refine retM ?_;refine retM2 Tryz.results17 F rfl rfl Tryz.isAgg52 Tryz.isAgg29 H 1 0 rfl rfl ?_
   first
   | (rw [paths_bad (.inl h13)]; exact nil_post H 2)
   | (rw [paths_bad (.inr (.inl h17))]; exact nil_post H 2)
   | (rw [paths_bad (.inr (.inr h21))]; exact nil_post H 2)
   | (rw [paths_many (by omega) (by omega) hl (by omega)]; exact nil_post H 5)
   | (rw [paths_ok (by omega) (by omega) hl hpm]
      refine ⟨ps, A4, c4, hps, rfl, ?_⟩
      exact Own.front (xs := _ :: ps.flatMap PlP.res) (H.tail.tail.swapN 1 3).tail.tail.tail)
  replace h13 := of_decide_eq_false h13;refine sLd Tryz.isAgg3 F rfl rfl rfl (H.cell 2 rfl rfl) (qBin rfl rfl rfl rfl bGtr (qPk rfl rfl rfl rfl (qMv rfl rfl rfl ?_)));clear F a;intro a F
  refine F.split 17 rfl ?_ ?_ <;> (clear F; intro h17 F)
  ·
   replace h17 := of_decide_eq_true h17;refine sSk F rfl rfl (qSk rfl rfl (qSk rfl rfl (qPk rfl rfl rfl rfl ?_)));clear F a;intro a F;refine sNil ?_;refine hK3 _ _ ?_; clear hK3;refine cIfT F rfl ?_;refine cSeq (fun K5 hK5 => ?_);refine cReg ?_;refine sSt H 1 Tryz.sizeOf52 F rfl rfl rfl rfl rfl rfl ?_;clear H; intro w H;refine sSt H 0 Tryz.sizeOf29 F rfl rfl rfl rfl rfl rfl ?_;clear H; intro w H;refine sNil ?_;refine hK5 _ _ ?_; clear hK5;refine wp_ret ?_;simp only [Exit.then];refine retM ?_;refine retM2 Tryz.results17 F rfl rfl Tryz.isAgg52 Tryz.isAgg29 H 1 0 rfl rfl ?_
   first
   | (rw [paths_bad (.inl h13)]; exact nil_post H 2)
   | (rw [paths_bad (.inr (.inl h17))]; exact nil_post H 2)
   | (rw [paths_bad (.inr (.inr h21))]; exact nil_post H 2)
   | (rw [paths_many (by omega) (by omega) hl (by omega)]; exact nil_post H 5)
   | (rw [paths_ok (by omega) (by omega) hl hpm]
      refine ⟨ps, A4, c4, hps, rfl, ?_⟩
      exact Own.front (xs := _ :: ps.flatMap PlP.res) (H.tail.tail.swapN 1 3).tail.tail.tail)
  replace h17 := of_decide_eq_false h17;refine sMv F rfl rfl rfl ?_;clear F a;intro a F;refine sCall Tryz.call27 F rfl rfl rfl (validP_any A C l _ (hA.own H) (hN.own H) hn) ?_;rintro e w ⟨rfl, hb⟩;replace H := H.grow hb; clear hb;refine ⟨_, rfl, ?_⟩;clear F a; intro a F;refine sNot F rfl rfl rfl (qPk rfl rfl rfl rfl ?_);clear F a;intro a F;refine sNil ?_;refine hK3 _ _ ?_; clear hK3
  refine cIf F rfl (fun h21 => ?_) (fun h21 => ?_)
  ·
   replace h21 := notT h21;refine cSeq (fun K6 hK6 => ?_);refine cReg ?_;refine sSt H 1 Tryz.sizeOf52 F rfl rfl rfl rfl rfl rfl ?_;clear H; intro w H;refine sSt H 0 Tryz.sizeOf29 F rfl rfl rfl rfl rfl rfl ?_;clear H; intro w H;refine sNil ?_;refine hK6 _ _ ?_; clear hK6;refine wp_ret ?_;simp only [Exit.then];refine retM ?_;refine retM2 Tryz.results17 F rfl rfl Tryz.isAgg52 Tryz.isAgg29 H 1 0 rfl rfl ?_
   first
   | (rw [paths_bad (.inl h13)]; exact nil_post H 2)
   | (rw [paths_bad (.inr (.inl h17))]; exact nil_post H 2)
   | (rw [paths_bad (.inr (.inr h21))]; exact nil_post H 2)
   | (rw [paths_many (by omega) (by omega) hl (by omega)]; exact nil_post H 5)
   | (rw [paths_ok (by omega) (by omega) hl hpm]
      refine ⟨ps, A4, c4, hps, rfl, ?_⟩
      exact Own.front (xs := _ :: ps.flatMap PlP.res) (H.tail.tail.swapN 1 3).tail.tail.tail)
  replace h21 := notF h21
  have hl : threadOk 6 l = true := by first | exact h21 | (cases hq : threadOk 6 l with | true => rfl | false => rw [hq] at h21; exact Bool.noConfusion h21)
  refine wp_skip ?_;refine hK2 _ _ ?_; clear hK2;refine cSeq (fun K7 hK7 => ?_);refine cReg ?_;refine sMv F rfl rfl rfl ?_;clear F a;intro a F;refine sCall Tryz.call31 F rfl rfl rfl (distinct_any DA DC dom _ (hD.own H) hdn) ?_;rintro e w ⟨A2, c2, rfl, H2⟩;replace H := H.join H2; clear H2;refine ⟨_, rfl, ?_⟩;clear F a; intro a F;refine sAs F rfl rfl rfl ?_;clear F a;intro a F;refine sNil ?_;refine hK7 _ _ ?_; clear hK7;refine cSeq (fun K8 hK8 => ?_);refine cReg ?_;refine sAl H Tryz.zeroValue3 F rfl rfl ?_;clear F a H; intro b8 a w F H;refine sSt H 0 Tryz.sizeOf3 F rfl rfl rfl rfl rfl rfl ?_;clear H; intro w H;refine sNil ?_;refine hK8 _ _ ?_; clear hK8;refine cSeq (fun K9 hK9 => ?_);refine cSeq (fun K10 hK10 => ?_);refine cReg ?_;refine sMv F rfl rfl rfl (qMv rfl rfl rfl ?_);clear F a;intro a F;refine sCall Tryz.call35 F rfl rfl rfl (ends_any A l.length C A2 (distL dom).length c2 _) ?_;rintro e w ⟨b2, b3, rfl, H2⟩;replace H := H.join H2; clear H2;refine ⟨_, rfl, ?_⟩;clear F a; intro a F;refine sNil ?_;refine hK10 _ _ ?_; clear hK10;refine wp_block ?_
  have HU := (H.sel [2, 5, 4, 6, 1, 0, 3] rfl rfl)
  refine rfOwnK 4 F rfl rfl (enters_of Tryz.func59 (by kernel_rfl) rfl) HU (ends_iter l (distL dom) hl A C A2 c2 w0 hA (Nat.le_trans (dist_le dom) (by omega)) _ b2 b3 (fun w H => H.cell 0 rfl rfl) (fun w H => H.cell 1 rfl rfl) (fun w H => H.rowsAt 2 rfl (fun r hr => b8_one hr) (by omega))) (fun pre us' => us' = [.blk b8 [.int .i64 (pre.length : Int)] 3, .blk b6 [.slice none 0 0] 52, .blk b7 [.int .i64 0] 29, .blk b5 [.int .i64 most] 3] ∧ (pre.length : Int) ≤ most) (fun c pre us' => c = .ret ∧ us' = [.blk b8 [.int .i64 ((pre.length - 1 : Nat) : Int)] 3, .blk b6 [.slice none 0 0] 52, .blk b7 [.int .i64 5] 29, .blk b5 [.int .i64 most] 3] ∧ most < (pre.length : Int)) (⟨rfl, by simp; omega⟩) (fun _ => []) ?_ ?_ ?_ ?_
  ·
   clear HU H F a; intro lp9 a w v K hF hK
   exact Md.wp_skip (hK _ hF)
  ·
   clear HU H F a; intro lp9 pre x bx w ps1 qs a hi hpx hox H F
   obtain ⟨rfl, hpm⟩ := hi
   refine wp_block ?_;refine cSeq (fun K11 hK11 => ?_);refine cSeq (fun K12 hK12 => ?_);refine cReg ?_;refine sLd Tryz.isAgg3 F rfl rfl rfl (H.cell 1 rfl rfl) (qLd Tryz.isAgg3 rfl rfl rfl (H.cell 4 rfl rfl) (qBin rfl rfl rfl rfl bEql ?_));clear F a;intro a F;refine sNil ?_;refine hK12 _ _ ?_; clear hK12
   refine cIf F rfl (fun h30 => ?_) (fun h30 => ?_)
   ·
    replace h30 := beqT h30;refine cSeq (fun K13 hK13 => ?_);refine cReg ?_;refine sSt H 2 Tryz.sizeOf52 F rfl rfl rfl rfl rfl rfl ?_;clear H; intro w H;refine sSt H 3 Tryz.sizeOf29 F rfl rfl rfl rfl rfl rfl ?_;clear H; intro w H;refine sNil ?_;refine hK13 _ _ ?_; clear hK13;refine wp_ret ?_
    try simp only [Exit.inBlock, Exit.then]
    exact rRet _ ⟨rfl, rfl, by rw [List.length_append, List.length_singleton]; omega⟩ (by rw [List.length_append, List.length_singleton]; exact H)
   replace h30 := beqF h30;refine wp_skip ?_;refine hK11 _ _ ?_; clear hK11;refine cReg ?_;refine sLd Tryz.isAgg3 F rfl rfl rfl (H.cell 1 rfl rfl) ?_;clear F a;intro a F
   refine sBin F rfl rfl rfl rfl (bAddI ?_) ?_
   focus omega
   clear F a; intro a F;refine sSt H 1 Tryz.sizeOf3 F rfl rfl rfl rfl rfl rfl ?_;clear H; intro w H;refine sNil ?_
   try simp only [Exit.inBlock, Exit.then, if_true]
   repeat (first | rw [if_pos rfl] | rw [if_neg (by decide)])
   exact rNext _ ⟨rfl, by rw [List.length_append, List.length_singleton]; omega⟩ (by rw [List.length_append, List.length_singleton]; exact H)
  ·
   intro D w us' hi H
   obtain ⟨rfl, hpm⟩ := hi
   refine hK9 _ _ ?_; clear hK9;refine cSeq (fun K14 hK14 => ?_);refine cReg ?_;refine sLd Tryz.isAgg3 F rfl rfl rfl (H.cell 1 rfl rfl) ?_;clear F a;intro a F;refine sMkC (bytes := 104) (sz := 12) H Tryz.underlying52 Tryz.typeInfo28 rfl rfl rfl F rfl rfl rfl rfl (by first | omega | (simp only [maxLen]; omega)) (by first | omega | (simp only [maxLen]; omega)) ?_;clear F a H; intro b34 a w F H;refine sAl H Tryz.zeroValue52 F rfl rfl ?_;clear F a H; intro b9 a w F H;refine sSt H 0 Tryz.sizeOf52 F rfl rfl rfl rfl rfl rfl ?_;clear H; intro w H;refine sNil ?_;refine hK14 _ _ ?_; clear hK14;refine cSeq (fun K15 hK15 => ?_);refine cSeq (fun K16 hK16 => ?_);refine cReg ?_;refine sMv F rfl rfl rfl (qMv rfl rfl rfl ?_);clear F a;intro a F;refine sCall Tryz.call35 F rfl rfl rfl (ends_any A l.length C A2 (distL dom).length c2 _) ?_;rintro e w ⟨b2', b3', rfl, H2⟩;replace H := H.join H2; clear H2;refine ⟨_, rfl, ?_⟩;clear F a; intro a F;refine sNil ?_;refine hK16 _ _ ?_; clear hK16;refine wp_block ?_
   have HU := (H.sel [2, 3, 6, 7, 4, 1, 0, 11] rfl rfl)
   refine rfOwnK 5 F rfl rfl (enters_of Tryz.func59 (by kernel_rfl) rfl) HU (ends_iter l (distL dom) hl A C A2 c2 w0 hA (Nat.le_trans (dist_le dom) (by omega)) _ b2' b3' (fun w H => H.cell 0 rfl rfl) (fun w H => H.cell 1 rfl rfl) (fun w H => H.rowsAt 2 rfl (fun r hr => b8_one hr) (by omega))) (fun pre us' => ∃ (ps : List PlP) (A4 : Option Addr) (c4 : Nat), ps.map PlP.path = pre.map runPath ∧ us' = .blk b9 [.slice A4 ps.length c4] 52 :: .rws 28 12 (.slice A4 ps.length c4) (ps.map PlP.cells) :: .blk b6 [.slice none 0 0] 52 :: .blk b7 [.int .i64 0] 29 :: .obj D (.deferred (some [])) :: ps.flatMap PlP.res) (fun _ _ _ => False) (⟨[], _, _, rfl, rfl⟩) (fun v => [(10, v)]) ?_ ?_ ?_ ?_
   ·
    clear HU H F a; intro lp9 a w v K hF hK;refine Md.cReg ?_;refine sAs hF rfl rfl rfl ?_;clear hF; intro a hF
    refine Md.sNil ?_ hF
    exact hK _ hF
   ·
    clear HU H F a; intro lp9 pre x bx w ps1 qs a hi hpx hox H F
    obtain ⟨ps, A4, c4, hps, rfl⟩ := hi
    have hpl : ps.length = pre.length := by have := congrArg List.length hps; simpa using this
    have hpc : pre.length < (endsL l (distL dom)).length := by have := hpx.length_le; simp at this; omega
    refine wp_block ?_;refine cRegRO (by kernel_rfl) (H.sel [1] rfl rfl) ?_;replace H := H.drew;refine eT 0 rfl (by kernel_rfl) F rfl rfl rfl rfl (fun w H=>rLd Tryz.isAgg52 F rfl (H.cell 0 rfl rfl)) (H.sel [1] rfl rfl) qq0 (qTF 1 rfl (by kernel_rfl) rfl rfl rfl (fun a F w=>rMv F rfl) (H.sel [1] rfl rfl) qq0 ?_);clear F a;intro a F;refine eOne (k := 2) (i := 2) rfl (by kernel_rfl) F rfl (oCall Tryz.call30 F rfl rfl (path_pl bx x _ (H.blk 0 rfl) (hT.own H) (by have := hox.many; have := hox.pc; have := thr_len hl; omega) hox.sets) ?_);rintro e w ⟨q, hq, rfl, H2⟩;replace H := H.join H2; clear H2;refine ⟨_, rfl, ?_⟩;clear F a; intro a F;refine eKeep (H.sel [5] rfl rfl) ?_;refine eOne (k := 3) (i := 3) rfl (by kernel_rfl) F rfl (oBsA H Tryz.underlying52 Tryz.sizeOf28 Tryz.zeroValue28 rfl F rfl rfl rfl rfl ?_);clear F a H; intro b42 a w F H;refine eKeep (H.sel [6] rfl rfl) ?_
    refine eOne (k := 4) (i := 4) rfl (by kernel_rfl) F rfl (oApp1 (bytes := 104) H 7 Tryz.underlying52 Tryz.typeInfo28 rfl rfl rfl rfl rfl rfl F rfl rfl rfl rfl (H.whole 0 rfl) rfl ?s1 ?s2 ?_)
    case s1 => first | rfl | (repeat (first | exact one_nil | (apply one_cons; · first | rfl | assumption | exact one_bif rfl rfl)))
    case s2 => (rw [List.length_map]; omega)
    clear F a H; intro A43 c43 a w F H;refine ePartO (by kernel_rfl) H ?_;refine eOne (k := 5) (i := 5) rfl (by kernel_rfl) F rfl (oSt H 6 Tryz.sizeOf52 F rfl rfl rfl rfl rfl ?_);clear H; intro w H;refine ePartO (by kernel_rfl) H ?_;refine eNil (k := 6) (by kernel_rfl) ?_
    try simp only [Exit.inBlock, Exit.then, if_true]
    repeat (first | rw [if_pos rfl] | rw [if_neg (by decide)])
    have e9 : ps.map PlP.cells ++ [q.cells] = (ps ++ [q]).map PlP.cells := by simp
    have e8 : (ps.map PlP.cells ++ [q.cells]).length = (ps ++ [q]).length := by simp
    rw [e8, e9] at H
    exact rNext _ ⟨ps ++ [q], _, _, by rw [List.map_append, hps, List.map_append]; simp [hq], rfl⟩ (Own.addP (hd := [_, _, _, _, _, _]) H.tail)
   ·
    intro D w us' hi H
    obtain ⟨ps, A4, c4, hps, rfl⟩ := hi
    refine hK15 _ _ ?_; clear hK15;refine cSeq (fun K17 hK17 => ?_);refine cReg ?_;refine sLd Tryz.isAgg52 F rfl rfl rfl (H.cell 1 rfl rfl) ?_;clear F a;intro a F;refine sSt H 3 Tryz.sizeOf52 F rfl rfl rfl rfl rfl rfl ?_;clear H; intro w H;refine sSt H 4 Tryz.sizeOf29 F rfl rfl rfl rfl rfl rfl ?_;clear H; intro w H;refine sNil ?_;refine hK17 _ _ ?_; clear hK17;refine wp_ret ?_;refine retM ?_;refine markM H 0 rfl ?_;clear H; intro w H;refine markM H 5 rfl ?_;clear H; intro w H;refine retM2 Tryz.results17 F rfl rfl Tryz.isAgg52 Tryz.isAgg29 H 3 4 rfl rfl ?_
    first
    | (rw [paths_bad (.inl h13)]; exact nil_post H 2)
    | (rw [paths_bad (.inr (.inl h17))]; exact nil_post H 2)
    | (rw [paths_bad (.inr (.inr h21))]; exact nil_post H 2)
    | (rw [paths_many (by omega) (by omega) hl (by omega)]; exact nil_post H 5)
    | (rw [paths_ok (by omega) (by omega) hl hpm]
       refine ⟨ps, A4, c4, hps, rfl, ?_⟩
       exact Own.front (xs := _ :: ps.flatMap PlP.res) (H.tail.tail.swapN 1 3).tail.tail.tail)
   ·
    intro D c pre w us' hpx hi H
    exact hi.elim
  ·
   intro D c pre w us' hpx hi H
   obtain ⟨rfl, rfl, hpm⟩ := hi
   have hlen := hpx.length_le
   refine wp_ret ?_;simp only [Exit.inBlock, Exit.then];refine retM ?_;refine markM H 0 rfl ?_;clear H; intro w H;refine retM2 Tryz.results17 F rfl rfl Tryz.isAgg52 Tryz.isAgg29 H 2 3 rfl rfl ?_
   first
   | (rw [paths_bad (.inl h13)]; exact nil_post H 2)
   | (rw [paths_bad (.inr (.inl h17))]; exact nil_post H 2)
   | (rw [paths_bad (.inr (.inr h21))]; exact nil_post H 2)
   | (rw [paths_many (by omega) (by omega) hl (by omega)]; exact nil_post H 5)
   | (rw [paths_ok (by omega) (by omega) hl hpm]
      refine ⟨ps, A4, c4, hps, rfl, ?_⟩
      exact Own.front (xs := _ :: ps.flatMap PlP.res) (H.tail.tail.swapN 1 3).tail.tail.tail)
end Md
end Go.Proofs.YtklpiodciblabaaGreatDoor
