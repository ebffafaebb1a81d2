/-
  WALK2. The law of chapter 14: BufferOrder answers true. Conditions: what it is handed lies in memory; block 0 holds the table of needs.
-/
import Derived.Test.YtjephfjnohgcbaaDoorBfO
import Derived.Test.YtjephfjnohgcbaaDoorVcN
import Derived.Test.YtjephfjnohgcbaaDoorBwD
set_option linter.unusedSimpArgs false
set_option linter.unusedVariables false
namespace Go.Proofs.YtjephfjnohgcbaaDoor
open Go.RowKit
set_option maxRecDepth 100000
def stR (l : List (UInt8 × UInt8)) : List (List Value) := l.map fun x => [b8 x.1, b8 x.2]
theorem stR_len (l : List (UInt8 × UInt8)) : (stR l).length = l.length := by simp [stR]
theorem stR_at {l : List (UInt8 × UInt8)} {n : Nat} {y : UInt8 × UInt8} (h : l[n]? = some y) : (stR l)[n]? = some [b8 y.1, b8 y.2] := by rw [stR, List.getElem?_map, h]; rfl
theorem stR_one (l : List (UInt8 × UInt8)) : ∀ r ∈ stR l, r.all (·.oneCell') = true := fun r hr => by
  obtain ⟨x, _, rfl⟩ := List.mem_map.1 hr
  rfl
theorem stR_cut (l : List (UInt8 × UInt8)) (i j : Nat) : (stR l).take i ++ (stR l).drop j = stR (l.take i ++ l.drop j) := by simp [stR, List.map_take, List.map_drop]
theorem stR_add (l : List (UInt8 × UInt8)) (a b : UInt8) : stR l ++ [[b8 a, b8 b]] = stR (l ++ [(a, b)]) := by simp [stR]
/-- Six bools. -/
def bl6 (f : Nat → Bool) : List Value := (List.range 6).map fun k => .bool (f k)
theorem bl6_at {f : Nat → Bool} {k : Nat} (h : k < 6) : (bl6 f)[k]? = some (.bool (f k)) := by simp [bl6, h]
theorem bl6_set {f : Nat → Bool} {k : Nat} (h : k < 6) : (bl6 f).set k (.bool true) = bl6 (putB f k) := by
  apply List.ext_getElem?
  intro i
  rw [List.getElem?_set]
  have hl : (bl6 f).length = 6 := rfl
  have hl2 : (bl6 (putB f k)).length = 6 := rfl
  rcases Nat.lt_or_ge i 6 with hi | hi
  · rw [bl6_at hi, bl6_at hi]
    unfold putB
    by_cases e : k = i
    · rw [if_pos e, if_pos (by omega), if_pos e.symm]
    · rw [if_neg e, if_neg (fun h => e h.symm)]
  · rw [if_neg (by omega), List.getElem?_eq_none (by omega), List.getElem?_eq_none (by omega)]
theorem ord_isDrain {p : Prg} {m : UInt8} {s : By} {x : Pss} (hr : RightM p m s) (hx : x ∈ movesM p m s) (hd : x.d = true) : ∃ a, DrainOf p m s x.t.toNat a ∧ (m = 3 → bLoc s x.t.toNat a = x.l) ∧ stepM p m s x = drainR s x.t.toNat a := by
  have hw := went hr hx
  generalize stepM p m s x = s' at hw
  cases hw with
  | exec => cases hd
  | @drain t i hD hi he =>
    have hto := ofNat_to hD.t4
    refine ⟨drainI m s t (drainAt m s t i).l, ?_, ?_, ?_⟩
    · show DrainOf p m s (UInt8.ofNat t).toNat _
      rw [hto]; exact hD
    · intro h3
      show bLoc s (UInt8.ofNat t).toNat _ = _
      rw [hto, he h3]
      unfold drainAt
      rw [if_pos h3]
    · show _ = drainR s (UInt8.ofNat t).toNat _
      rw [hto]
theorem ord_isExec {p : Prg} {m : UInt8} {s : By} {x : Pss} (hr : RightM p m s) (hx : x ∈ movesM p m s) (hd : x.d = false) : ∃ l i, ExecOf p m s x.t.toNat l i ∧ stepM p m s x = execP m i s x.t.toNat := by
  have hw := went hr hx
  generalize stepM p m s x = s' at hw
  cases hw with
  | drain => cases hd
  | @exec t l i hE hn =>
    have hto := ofNat_to hE.t4
    refine ⟨l, i, ?_, ?_⟩
    · show ExecOf p m s (UInt8.ofNat t).toNat l i
      rw [hto]; exact hE
    · show _ = execP m i s (UInt8.ofNat t).toNat
      rw [hto]
def swapO (op : UInt8) : Prop := op = 4 ∨ op = 5 ∨ op = 6
theorem swapO_iff {op : UInt8} : swapO op ↔ (4 : UInt8) ≤ op ∧ op ≤ 6 := by
  unfold swapO
  simp only [UInt8.le_iff_toNat_le, ← UInt8.toNat_inj]
  rw [show (4 : UInt8).toNat = 4 from rfl, show (5 : UInt8).toNat = 5 from rfl, show (6 : UInt8).toNat = 6 from rfl]
  omega
theorem moves_tl {p : Prg} {m : UInt8} {s : By} {x : Pss} (hr : RightM p m s) (hx : x ∈ movesM p m s) : x.t.toNat < p.threads.length := by
  have hV4 := (valid hr.prog).thr4
  obtain ⟨u, hul, hmv⟩ := mem_movesN hx
  have hto := ofNat_to (t := u) (by omega)
  rcases hmv with ⟨rfl, _⟩ | ⟨i, _, rfl⟩
  · show (UInt8.ofNat u).toNat < _
    rw [hto]; exact hul
  · show (UInt8.ofNat u).toNat < _
    rw [hto]; exact hul
theorem valA_cut (i : Ins) (s : By) (t : Nat) : worthP i.aR i.aN (cut s (t * 9 + 1)) = valA i (cut s (t * 9)) := by
  rw [valA, show cut (cut s (t * 9)) 1 = cut s (t * 9 + 1) from funext fun k => by unfold cut; congr 1; omega]
/-- What holds behind the notes on a move, ahead of those on a swap. -/
def OrdCase (p : Prg) (m : UInt8) (s : By) (x : Pss) (t : Nat) (pl : List (UInt8 × UInt8)) (oth : Nat → Bool) (last : By) : Prop :=
  (x.d = false ∧ x.t.toNat = t ∧ (∃ l i, ExecOf p m s x.t.toNat l i ∧ stepM p m s x = execP m i s x.t.toNat ∧ swapO i.op) ∧ OrdI p m s t pl oth last) ∨
  ((x.d = true ∨ x.t.toNat ≠ t ∨ ∃ l i, ExecOf p m s x.t.toNat l i ∧ stepM p m s x = execP m i s x.t.toNat ∧ ¬ swapO i.op) ∧ OrdI p m (stepM p m s x) t pl oth last)
section
variable {p : Prg} {m : UInt8} {s : By} {x : Pss} {t : Nat} {pl : List (UInt8 × UInt8)} {oth : Nat → Bool} {last : By}
theorem ord_caseD (h : OrdCase p m s x t pl oth last) (hd : x.d = true) : OrdI p m (stepM p m s x) t pl oth last := by
  rcases h with h | h
  · rw [h.1] at hd; cases hd
  · exact h.2
theorem ord_caseT (h : OrdCase p m s x t pl oth last) (hd : x.t.toNat ≠ t) : OrdI p m (stepM p m s x) t pl oth last := by
  rcases h with h | h
  · exact absurd h.2.1 hd
  · exact h.2
theorem ord_case (h : OrdCase p m s x t pl oth last) (hd : x.d = false) (ht : x.t.toNat = t) : ∃ l i, ExecOf p m s t l i ∧ stepM p m s x = execP m i s t ∧ ((swapO i.op ∧ OrdI p m s t pl oth last) ∨ (¬ swapO i.op ∧ OrdI p m (stepM p m s x) t pl oth last)) := by
  subst ht
  rcases h with ⟨_, _, ⟨l, i, h1, h2, h3⟩, h4⟩ | ⟨h1, h4⟩
  · exact ⟨l, i, h1, h2, .inl ⟨h3, h4⟩⟩
  · rcases h1 with h1 | h1 | ⟨l, i, h1, h2, h3⟩
    · rw [hd] at h1; cases h1
    · exact absurd rfl h1
    · exact ⟨l, i, h1, h2, .inr ⟨h3, h4⟩⟩
end
set_option maxHeartbeats 4000000 in
theorem bufferOrder_any (cs : List Value) (p : Prg) (w0 : World) (hP : ProgAt w0 cs p) (hN : NeedsAt w0) (pso : Bool) (PA : Option Addr) (PC : Nat) (picks : List UInt8) (hB : BytesAt w0 PA picks) (hBn : picks.length ≤ 9223372036854775807) (hBc : picks.length ≤ PC) (which : UInt8) :
    Calls Tryd.prog 4 #[.agg cs.toArray, .bool pso, .slice PA picks.length PC, Go.Proofs.YtjephfjnohgcbaaDoor.b8 which] w0 fun e w' => e = .returned (.bool true) ∧ Below w0.heap.size w0 w' := by
  have H := Own.start w0 none
  have hP0 := hP
  obtain ⟨LA, LC, IA, IC, TA, TC, h, ccs, hp⟩ := hP
  obtain ⟨c1, c2, c3, c4, c5, rfl⟩ := len5 (condAt_len hp.cond)
  have hcs := hp.cs
  subst hcs
  obtain ⟨mc, hmc⟩ : ∃ mc : UInt8, mc = if pso = true then 3 else 2 := ⟨_, rfl⟩
  have hk : knownM mc = true := by rw [hmc]; cases pso <;> decide
  have hm1 : mc ≠ 1 := by rw [hmc]; cases pso <;> decide
  have hm3 : mc = 3 ↔ pso = true := by rw [hmc]; cases pso <;> decide
  have hlen : (picks.take 100).length = min picks.length 100 := by rw [List.length_take]; omega
  have hBt := bytes_take hB 100
  generalize hQ : picks.take 100 = Q at hlen hBt
  refine enterF Tryd.func4 rfl Tryd.ntmps4 rfl (fun a F => ?_)
  refine cSeq (fun K1 hK1 => ?_)
  refine cReg ?_
  refine sBx H F rfl rfl rfl ?_
  clear F a H; intro b4 a w F H
  refine sAs F rfl rfl rfl ?_;clear F a;intro a F
  refine sNil ?_
  refine hK1 _ _ ?_; clear hK1
  refine cSeq (fun K2 hK2 => ?_)
  refine cReg ?_
  refine sAs F rfl rfl rfl ?_;clear F a;intro a F
  refine sNil ?_
  refine hK2 _ _ ?_; clear hK2
  refine cSeqJ [1, 2, 3, 4] (fun ups w => ups = [(9, Go.Proofs.YtjephfjnohgcbaaDoor.b8 mc)] ∧ Own w0 none w [.blk b4 ([.string p.name, .slice LA p.locs.length LC, .slice IA p.init.length IC, .slice TA p.threads.length TC, Go.Proofs.YtjephfjnohgcbaaDoor.b8 p.ask] ++ [c1, c2, c3, c4, c5]) 29]) F (by repeat (first | exact SubR.nil | (apply SubR.cons; · rfl))) ?_ ?_
  ·
   refine cSeq (fun K3 hK3 => ?_)
   refine cReg ?_
   refine sMv F rfl rfl rfl ?_;clear F a;intro a F
   refine sNil ?_
   refine hK3 _ _ ?_; clear hK3
   refine cIf F rfl (fun h32 => ?_) (fun h32 => ?_)
   ·
    refine cReg ?_
    refine sAs F rfl rfl rfl ?_;clear F a;intro a F
    refine sNil ?_
    first
      | (rw [if_pos h32] at hmc
         subst hmc
         exact ⟨_, ⟨rfl, H.sel [0] rfl rfl⟩, F.to (by repeat (first | exact trivial | refine Le.cons rfl ?_))⟩)
      | (rw [if_neg (show ¬ pso = true by rw [h32]; simp)] at hmc
         subst hmc
         exact ⟨_, ⟨rfl, H.sel [0] rfl rfl⟩, F.to (by repeat (first | exact trivial | refine Le.cons rfl ?_))⟩)
   ·
    refine wp_skip ?_
    first
      | (rw [if_pos h32] at hmc
         subst hmc
         exact ⟨_, ⟨rfl, H.sel [0] rfl rfl⟩, F.to (by repeat (first | exact trivial | refine Le.cons rfl ?_))⟩)
      | (rw [if_neg (show ¬ pso = true by rw [h32]; simp)] at hmc
         subst hmc
         exact ⟨_, ⟨rfl, H.sel [0] rfl rfl⟩, F.to (by repeat (first | exact trivial | refine Le.cons rfl ?_))⟩)
  clear F H
  intro ups a w hI F
  obtain ⟨rfl, H⟩ := hI
  refine cSeq (fun K4 hK4 => ?_)
  refine cRegRO (by kernel_rfl) H ?_
  replace H := H.drew
  refine eTake (k := 0) (i := 0) rfl (by kernel_rfl) F rfl rfl rfl rfl (fun w H => rLr Tryd.underlying29 rfl ?si F rfl (H.whole 0 rfl)) (H.sel [0] rfl rfl) (fun _ _ _ h => h) ?_
  case si => exact info_size Tryd.sizeOf29
  clear F a; intro a F
  refine eTakeF (k := 1) (i := 1) rfl (by kernel_rfl) F rfl rfl rfl (fun w => rMv F rfl) (H.sel [0] rfl rfl) (fun _ _ _ h => h) ?_;clear F a;intro a F
  refine eTakeF (k := 2) (i := 2) rfl (by kernel_rfl) F rfl rfl rfl (fun w => rMv F rfl) (H.sel [0] rfl rfl) (fun _ _ _ h => h) ?_;clear F a;intro a F
  refine eTakeF (k := 3) (i := 3) rfl (by kernel_rfl) F rfl rfl rfl (fun w => rMv F rfl) (H.sel [0] rfl rfl) (fun _ _ _ h => h) ?_;clear F a;intro a F
  refine eTake (k := 4) (i := 4) rfl (by kernel_rfl) F rfl rfl rfl rfl (fun w H => rLen Tryd.underlying23 F rfl) (H.sel [0] rfl rfl) (fun _ _ _ h => h) ?_;clear F a;intro a F
  refine eTake (k := 5) (i := 5) rfl (by kernel_rfl) F rfl rfl rfl rfl (fun w H => rMinN (j := 100) F rfl rfl) (H.sel [0] rfl rfl) (fun _ _ _ h => h) ?_;clear F a;intro a F
  refine eTake (k := 6) (i := 6) rfl (by kernel_rfl) F rfl rfl rfl rfl (fun w H => rSlH Tryd.underlying23 (fun w => ⟨_, Tryd.sizeOf5 w⟩) F rfl rfl ?_) (H.sel [0] rfl rfl) (fun _ _ _ h => h) ?_
  focus (first | omega | decide | (simp; omega))
  clear F a; intro a F
  refine eJoin F H [1, 3, 4, 9] 13 [true, true, true, true, true, true, true, true, true, true, true, true, true, false, false, false] (fun rs ups w => ∃ A c b10, ups = [(42, .agg (bs 38 (playFM p mc Q)).toArray), (43, .slice A (playOM p mc Q).length c), (44, .int .i64 (playEM p mc)), (10, .pointer (some ⟨b10, 0, none⟩))] ∧ Own w0 none w ((.rws 50 3 (.slice A (playOM p mc Q).length c) ((playOM p mc Q).map Pss.cells)) :: (.blk b10 (bs 38 zb) 64) :: rs)) (by repeat (first | exact SubR.nil | (apply SubR.cons; · rfl))) ?_ (fun hJ => ?_)
  rotate_left
  ·
   refine eTwo (k := 7) (i := 7) (j := 12) (by kernel_rfl) F rfl rfl rfl rfl ?_ ?_
   ·
    refine oCall Tryd.call17 F rfl rfl ((by have := playM_any _ p _ (hP0.own H) (hN.own H) mc PA PC Q (RowsAt.own hBt H) (by omega); rw [hlen] at this; exact this)) ?_
    rintro e w ⟨A, c, rfl, H2⟩
    replace H := H.join H2; clear H2
    refine ⟨_, rfl, ?_⟩
    clear F a; intro a F
    refine eKeep (H.sel [1] rfl rfl) ?_
    refine eTakeF (k := 8) (i := 8) rfl (by kernel_rfl) F rfl rfl rfl (fun w => rMv F rfl) (H.sel [1] rfl rfl) (fun _ _ _ h => h) ?_;clear F a;intro a F
    refine eTakeF (k := 9) (i := 9) rfl (by kernel_rfl) F rfl rfl rfl (fun w => rExt F rfl rfl) (H.sel [1] rfl rfl) (fun _ _ _ h => h) ?_;clear F a;intro a F
    refine eTakeF (k := 10) (i := 10) rfl (by kernel_rfl) F rfl rfl rfl (fun w => rExt F rfl rfl) (H.sel [1] rfl rfl) (fun _ _ _ h => h) ?_;clear F a;intro a F
    refine eTakeF (k := 11) (i := 11) rfl (by kernel_rfl) F rfl rfl rfl (fun w => rExt F rfl rfl) (H.sel [1] rfl rfl) (fun _ _ _ h => h) ?_;clear F a;intro a F
    refine eOne (k := 12) (i := 12) rfl (by kernel_rfl) F rfl (oAlB H zB64 F rfl ?_)
    clear F a H; intro b10 a w F H
    refine eKeep (H.sel [2] rfl rfl) ?_
    exact eGo hJ (by kernel_rfl) _ ⟨A, c, b10, rfl, H.sel [1, 0, 2] rfl rfl⟩ (F.to (by repeat (first | exact trivial | refine Le.cons rfl ?_)))
   ·
    refine oAlB H zB64 F rfl ?_
    clear F a H; intro b10 a w F H
    refine eKeep (H.sel [1] rfl rfl) ?_
    refine eOne (k := 8) (i := 7) rfl (by kernel_rfl) F rfl (oCall Tryd.call17 F rfl rfl ((by have := playM_any _ p _ (hP0.own H) (hN.own H) mc PA PC Q (RowsAt.own hBt H) (by omega); rw [hlen] at this; exact this)) ?_)
    rintro e w ⟨A, c, rfl, H2⟩
    replace H := H.join H2; clear H2
    refine ⟨_, rfl, ?_⟩
    clear F a; intro a F
    refine eKeep (H.sel [2] rfl rfl) ?_
    refine eTakeF (k := 9) (i := 8) rfl (by kernel_rfl) F rfl rfl rfl (fun w => rMv F rfl) (H.sel [2] rfl rfl) (fun _ _ _ h => h) ?_;clear F a;intro a F
    refine eTakeF (k := 10) (i := 9) rfl (by kernel_rfl) F rfl rfl rfl (fun w => rExt F rfl rfl) (H.sel [2] rfl rfl) (fun _ _ _ h => h) ?_;clear F a;intro a F
    refine eTakeF (k := 11) (i := 10) rfl (by kernel_rfl) F rfl rfl rfl (fun w => rExt F rfl rfl) (H.sel [2] rfl rfl) (fun _ _ _ h => h) ?_;clear F a;intro a F
    refine eTakeF (k := 12) (i := 11) rfl (by kernel_rfl) F rfl rfl rfl (fun w => rExt F rfl rfl) (H.sel [2] rfl rfl) (fun _ _ _ h => h) ?_;clear F a;intro a F
    exact eGo hJ (by kernel_rfl) _ ⟨A, c, b10, rfl, H.sel [0, 1, 2] rfl rfl⟩ (F.to (by repeat (first | exact trivial | refine Le.cons rfl ?_)))
  clear F H; intro ups a w hI F
  obtain ⟨A, c, b10, rfl, H⟩ := hI
  refine eOne (k := 13) (i := 13) rfl (by kernel_rfl) F rfl (oSrB H 1 Tryd.sizeOf64 F rfl rfl rfl (by omega) ?_)
  clear H; intro w H
  rw [lay_all] at H
  refine ePartO (by kernel_rfl) H ?_
  refine eTakeF (k := 14) (i := 14) rfl (by kernel_rfl) F rfl rfl rfl (fun w => rAs F rfl) (H.sel [0, 1, 2] rfl rfl) (fun _ _ _ h => h) ?_;clear F a;intro a F
  refine eTakeF (k := 15) (i := 15) rfl (by kernel_rfl) F rfl rfl rfl (fun w => rAs F rfl) (H.sel [0, 1, 2] rfl rfl) (fun _ _ _ h => h) ?_;clear F a;intro a F
  refine eNil (k := 16) (by kernel_rfl) ?_
  refine hK4 _ _ ?_; clear hK4
  refine cSeq (fun K5 hK5 => ?_)
  refine cReg ?_
  refine sLr Tryd.underlying29 rfl ?si F rfl rfl rfl (H.whole 2 rfl) ?_
  case si => exact info_size Tryd.sizeOf29
  clear F a; intro a F
  refine sCall Tryd.call18 F rfl rfl rfl (start_any _ p _ (hP0.own H) (hN.own H)) ?_
  rintro e w ⟨rfl, hb⟩
  replace H := H.grow hb; clear hb
  refine ⟨_, rfl, ?_⟩
  clear F a; intro a F
  refine sMv F rfl rfl rfl ?_;clear F a;intro a F
  refine sExt F rfl rfl rfl rfl ?_;clear F a;intro a F
  refine sExt F rfl rfl rfl rfl ?_;clear F a;intro a F
  refine sAlB H zB41 F rfl rfl ?_
  clear F a H; intro b13 a w F H
  refine sSrB H 0 Tryd.sizeOf41 F rfl rfl rfl rfl (by omega) ?_
  clear H; intro w H
  rw [lay_all] at H
  refine sAs F rfl rfl rfl ?_;clear F a;intro a F
  refine sNil ?_
  refine hK5 _ _ ?_; clear hK5
  refine cSeq (fun K6 hK6 => ?_)
  refine cSeq (fun K7 hK7 => ?_)
  refine cReg ?_
  refine sMv F rfl rfl rfl ?_;clear F a;intro a F
  refine sBin F rfl rfl rfl rfl bNeq ?_;clear F a;intro a F
  refine sMv F rfl rfl rfl ?_;clear F a;intro a F
  refine F.split 52 rfl ?_ ?_ <;> (clear F; intro h52 F)
  ·
   replace h52 := bneT h52
   have hv : rightErr p ≠ 0 := fun h => h52 (if_pos ⟨h, hk⟩)
   have eE : startE p = 2 := if_neg hv
   have eM : playEM p mc = 2 := if_neg fun h => hv h.1
   simp only [eE, eM] at F
   refine sSk F rfl rfl ?_;clear F a;intro a F
   refine sSk F rfl rfl ?_;clear F a;intro a F
   refine sPk F rfl rfl rfl rfl ?_;clear F a;intro a F
   refine sNil ?_
   refine hK7 _ _ ?_; clear hK7
   refine cIfT F rfl ?_
   refine cSeq (fun K8 hK8 => ?_)
   refine cReg ?_
   refine sMv F rfl rfl rfl ?_;clear F a;intro a F
   refine sMv F rfl rfl rfl ?_;clear F a;intro a F
   refine sBin F rfl rfl rfl rfl bEql ?_;clear F a;intro a F
   refine sMv F rfl rfl rfl ?_;clear F a;intro a F
   refine F.split 59 rfl ?_ ?_ <;> (clear F; intro h59 F)
   ·
    replace h59 := beqT h59
    refine sLr Tryd.underlying29 rfl ?si F rfl rfl rfl (H.whole 3 rfl) ?_
    case si => exact info_size Tryd.sizeOf29
    clear F a; intro a F
    refine sCall Tryd.call11 F rfl rfl rfl (right_any' _ p _ (hP0.own H) (hN.own H)) ?_
    rintro e w ⟨rfl, hb⟩
    replace H := H.grow hb; clear hb
    refine ⟨_, rfl, ?_⟩
    clear F a; intro a F
    refine sBin F rfl rfl rfl rfl bNeq ?_;clear F a;intro a F
    refine sPk F rfl rfl rfl rfl ?_;clear F a;intro a F
    refine sMv F rfl rfl rfl ?_;clear F a;intro a F
    refine F.split 64 rfl ?_ ?_ <;> (clear F; intro h64 F)
    ·
     replace h64 := bneT h64
     refine sCall Tryd.call12 F rfl rfl rfl (awake14_any _ (hN.own H)) ?_
     rintro e w ⟨rfl, hb⟩
     replace H := H.grow hb; clear hb
     refine ⟨_, rfl, ?_⟩
     clear F a; intro a F
     refine sPk F rfl rfl rfl rfl ?_;clear F a;intro a F
     refine sAs F rfl rfl rfl ?_;clear F a;intro a F
     refine sNil ?_
     refine hK8 _ _ ?_; clear hK8
     refine wp_ret ?_
     simp only [Exit.then]
     refine bRet Tryd.results4 F rfl ?_
     exact ⟨rfl, H.below⟩
    ·
     replace h64 := bneF h64
     exact absurd h64 hv
   ·
    replace h59 := beqF h59
    exact absurd rfl h59
  ·
   replace h52 := bneF h52
   have hv : rightErr p = 0 := by
    apply Decidable.byContradiction
    intro h
    rw [playEM, if_neg (fun hh => h hh.1)] at h52
    cases h52
   have hV := valid hv
   have hV4 := hV.thr4
   have hV1 := hV.thr1
   have hV6 := hV.locs6
   obtain ⟨r, zf, eF, eO, _, hruns, hz, hr0, hrz, hr96, hnu⟩ := play_runs hv hk Q
   have eE : startE p = 0 := if_pos hv
   have eS : startS p = startP p := if_pos hv
   simp only [eO, eF, eE, eS] at H F
   refine sMv F rfl rfl rfl ?_;clear F a;intro a F
   refine sBin F rfl rfl rfl rfl bNeq ?_;clear F a;intro a F
   refine sPk F rfl rfl rfl rfl ?_;clear F a;intro a F
   refine sNil ?_
   refine hK7 _ _ ?_; clear hK7
   refine cIf F rfl (fun h55 => ?_) (fun h55 => ?_)
   ·
    replace h55 := bneT h55
    exact absurd rfl h55
   ·
    replace h55 := bneF h55
    refine wp_skip ?_
    refine hK6 _ _ ?_; clear hK6
    refine cSeq (fun K9 hK9 => ?_)
    refine cReg ?_
    refine sMv F rfl rfl rfl ?_;clear F a;intro a F
    refine sCv Tryd.underlying5 Tryd.underlying3 F rfl rfl rfl (wrapB _) ?_;clear F a;intro a F
    refine sFa (f := 3) (k := 3) Tryd.underlying29 rfl Tryd.sizeOf24 rfl rfl F rfl rfl rfl ?_;clear F a;intro a F
    refine sLd Tryd.isAgg24 F rfl rfl rfl (H.cell 3 rfl rfl) ?_;clear F a;intro a F
    refine sLen Tryd.underlying24 F rfl rfl rfl ?_;clear F a;intro a F
    refine sBin F rfl rfl rfl rfl (bRemN ?_) ?_
    focus omega
    clear F a; intro a F
    refine sAs F rfl rfl rfl ?_;clear F a;intro a F
    refine sNil ?_
    refine hK9 _ _ ?_; clear hK9
    refine cSeq (fun K10 hK10 => ?_)
    refine cReg ?_
    refine sAs F rfl rfl rfl ?_;clear F a;intro a F
    replace H := H.nilWin 36 2
    refine sNil ?_
    refine hK10 _ _ ?_; clear hK10
    refine cSeq (fun K11 hK11 => ?_)
    refine cReg ?_
    refine sAl H Tryd.zeroValue69 F rfl rfl ?_
    clear F a H; intro b17 a w F H
    refine sAl H Tryd.zeroValue69 F rfl rfl ?_
    clear F a H; intro b18 a w F H
    refine sNil ?_
    refine hK11 _ _ ?_; clear hK11
    refine cSeq (fun K12 hK12 => ?_)
    refine cReg ?_
    refine sFa (f := 1) (k := 36) Tryd.underlying41 rfl Tryd.sizeOf34 rfl rfl F rfl rfl rfl ?_;clear F a;intro a F
    refine sLrB Tryd.underlying34 rfl Tryd.sizeOf34 F rfl rfl rfl (H.rangeB 3 _ 6 rfl (by omega)) ?_;clear F a;intro a F
    refine sAlB H zB34 F rfl rfl ?_
    clear F a H; intro b19 a w F H
    refine sSrB H 0 Tryd.sizeOf34 F rfl rfl rfl rfl (by omega) ?_
    clear H; intro w H
    rw [lay_all] at H
    refine sNil ?_
    refine hK12 _ _ ?_; clear hK12
    refine cSeq (fun K13 hK13 => ?_)
    refine cSeq (fun K14 hK14 => ?_)
    refine cReg ?_
    refine sMv F rfl rfl rfl ?_;clear F a;intro a F
    refine sLen Tryd.underlying44 F rfl rfl rfl ?_;clear F a;intro a F
    refine sMv F rfl rfl rfl ?_;clear F a;intro a F
    refine sNil ?_
    refine hK14 _ _ ?_; clear hK14
    refine wp_block ?_
    have htl : which.toNat % p.threads.length < p.threads.length := Nat.mod_lt _ (by omega)
    generalize which.toNat % p.threads.length = t at F htl
    have ht4 : t < 4 := by omega
    refine cLoopR [1, 4, 9, 10, 13, 15, 17, 18, 19, 75, 76] (fun m ups w => ∃ (j : Nat) (s : By) (pl : List (UInt8 × UInt8)) (mine oth : Nat → Bool) (last : By) (A6 : Option Addr) (c6 : Nat), m = r.length - j ∧ ups = [(16, .slice A6 pl.length c6), (77, .int .i64 ((j : Nat) : Int))] ∧ j ≤ r.length ∧ OrdI p mc s t pl oth last ∧ RunM p mc s (r.drop j) zf ∧ pl.length ≤ j ∧ Own w0 none w [.win 36 2 (.slice A6 pl.length c6) (stR pl), .blk b19 (bs 6 last) 34, .blk b18 (bl6 oth) 69, .blk b17 (bl6 mine) 69, .blk b13 (bs 142 s) 41, .blk b10 (bs 38 (finalP zf)) 64, .rws 50 3 (.slice A r.length c) (r.map Pss.cells), .blk b4 ([.string p.name, .slice LA p.locs.length LC, .slice IA p.init.length IC, .slice TA p.threads.length TC, Go.Proofs.YtjephfjnohgcbaaDoor.b8 p.ask] ++ [c1, c2, c3, c4, c5]) 29]) F (r.length) [(16, .slice none 0 0), (77, .int .i64 ((0 : Nat) : Int))] (by repeat (first | exact SubR.nil | (apply SubR.cons; · rfl))) ?_ ?_ ?_
    · exact ⟨0, startP p, [], fun _ => false, fun _ => false, cut (startP p) 36, none, 0, rfl, rfl, by omega, ord_start hv hk hm1 ht4, hruns, Nat.le_refl _, H.sel [3, 0, 1, 2, 4, 6, 5, 7] rfl rfl⟩
    · repeat (first | exact trivial | refine Le.cons rfl ?_)
    clear F
    clear H
    intro m ups a w hI F
    obtain ⟨j, s, pl, mine, oth, last, A6, c6, rfl, rfl, hj, hord, hrest, hpl, H⟩ := hI
    refine cSeq (fun K15 hK15 => ?_)
    refine cReg ?_
    refine sBin F rfl rfl rfl rfl bLss ?_;clear F a;intro a F
    refine sNil ?_
    refine hK15 _ _ ?_; clear hK15
    refine cSeq (fun K16 hK16 => ?_)
    refine cIf F rfl (fun h78 => ?_) (fun h78 => ?_)
    ·
     replace h78 := of_decide_eq_true h78
     have hjl : j < r.length := by omega
     obtain ⟨x, hx⟩ : ∃ x, r[j]? = some x := ⟨_, List.getElem?_eq_getElem hjl⟩
     rw [drop_next hx] at hrest
     obtain ⟨hxm, hrest'⟩ := hrest.uncons
     have hr := hord.r
     have hxr : x ∈ movesR p mc s := by rw [movesR_eq hr]; exact hxm
     have eS1 : moveSM p mc s x = stepM p mc s x := if_pos hxr
     have eE1 : moveEM p mc s x = 0 := if_pos hxr
     have hxtl := moves_tl hr hxm
     have hxt4 : x.t.toNat < 4 := by omega
     obtain ⟨bL, oL, rfl, _⟩ := H.rowsAt 6 rfl (rowX _) (by decide) _ _ (by rw [List.getElem?_map, hx]; rfl)
     refine wp_skip ?_
     refine hK16 _ _ ?_; clear hK16
     refine cSeq (fun K17 hK17 => ?_)
     refine wp_block ?_
     refine cSeq (fun K18 hK18 => ?_)
     refine cReg ?_
     refine sIx Tryd.underlying44 Tryd.sizeOf50 F rfl rfl rfl rfl ?_ ?_
     focus (first | omega | decide | (simp; omega))
     clear F a; intro a F
     refine sLr Tryd.underlying50 rfl ?si F rfl rfl rfl (by obtain ⟨b', o', h1, h2⟩ := H.rowsAt 6 rfl (rowX _) (by decide) _ _ (by rw [List.getElem?_map, hx]; rfl); cases h1; exact h2) ?_
     case si => exact info_size Tryd.sizeOf50
     clear F a; intro a F
     refine sAl H Tryd.zeroValue50 F rfl rfl ?_
     clear F a H; intro b21 a w F H
     refine sSr H 0 ?si F rfl rfl rfl ?s1 rfl rfl ?_
     case si => exact info_size Tryd.sizeOf50
     case s1 => first | rfl | (repeat (first | exact one_nil | (apply one_cons; · first | rfl | assumption | exact one_bif rfl rfl)))
     clear H; intro w H
     refine sNil ?_
     refine hK18 _ _ ?_; clear hK18
     refine cSeqJ [1, 4, 9, 10, 13, 15, 17, 18, 19, 21, 75, 76, 77] (fun ups w => ∃ (pl2 : List (UInt8 × UInt8)) (A2 : Option Addr) (k2 : Nat), ups = [(16, .slice A2 pl2.length k2)] ∧ pl2.length ≤ j ∧ ((x.d = true ∧ x.t.toNat = t → OrdI p mc (stepM p mc s x) t pl2 oth last) ∧ (¬ (x.d = true ∧ x.t.toNat = t) → pl2 = pl)) ∧ Own w0 none w [.win 36 2 (.slice A2 pl2.length k2) (stR pl2), .blk b21 x.cells 50, .blk b19 (bs 6 last) 34, .blk b18 (bl6 oth) 69, .blk b17 (bl6 mine) 69, .blk b13 (bs 142 s) 41, .blk b10 (bs 38 (finalP zf)) 64, .rws 50 3 (.slice (some ⟨bL, oL, none⟩) r.length c) (r.map Pss.cells), .blk b4 ([.string p.name, .slice LA p.locs.length LC, .slice IA p.init.length IC, .slice TA p.threads.length TC, Go.Proofs.YtjephfjnohgcbaaDoor.b8 p.ask] ++ [c1, c2, c3, c4, c5]) 29]) F (by repeat (first | exact SubR.nil | (apply SubR.cons; · rfl))) ?_ ?_
     ·
      refine cSeq (fun K19 hK19 => ?_)
      refine cReg ?_
      refine sFa (f := 0) (k := 0) Tryd.underlying50 rfl Tryd.sizeOf5 rfl rfl F rfl rfl rfl ?_;clear F a;intro a F
      refine sLd Tryd.isAgg5 F rfl rfl rfl (H.cell 0 rfl rfl) ?_;clear F a;intro a F
      refine sCv Tryd.underlying5 Tryd.underlying3 F rfl rfl rfl (wrapB _) ?_;clear F a;intro a F
      refine sMv F rfl rfl rfl ?_;clear F a;intro a F
      refine sBin F rfl rfl rfl rfl bEql ?_;clear F a;intro a F
      refine sMv F rfl rfl rfl ?_;clear F a;intro a F
      refine F.split 86 rfl ?_ ?_ <;> (clear F; intro h86 F)
      ·
       replace h86 := beqT h86
       refine sFa (f := 1) (k := 1) Tryd.underlying50 rfl Tryd.sizeOf4 rfl rfl F rfl rfl rfl ?_;clear F a;intro a F
       refine sLd Tryd.isAgg4 F rfl rfl rfl (H.cell 0 rfl rfl) ?_;clear F a;intro a F
       refine sPk F rfl rfl rfl rfl ?_;clear F a;intro a F
       refine sNil ?_
       refine hK19 _ _ ?_; clear hK19
       refine cIf F rfl (fun h89 => ?_) (fun h89 => ?_)
       ·
        have hxt : x.t.toNat = t := by omega
        obtain ⟨ad, hD, hDl, eD⟩ := ord_isDrain hr hxm h89
        rw [hxt] at hD hDl eD
        refine cSeq (fun K20 hK20 => ?_)
        refine cReg ?_
        refine sAs F rfl rfl rfl ?_;clear F a;intro a F
        refine sNil ?_
        refine hK20 _ _ ?_; clear hK20
        refine cSeqJ [1, 4, 9, 10, 13, 15, 16, 17, 18, 19, 21, 75, 76, 77] (fun ups w => ∃ (n : Nat) (A7 : Option Addr), ups = [(22, .int .i64 ((n : Nat) : Int))] ∧ A6 = A7 ∧ n ≤ pl.length ∧ (∀ (i : Nat) (y : UInt8 × UInt8), i < n → pl[i]? = some y → mc = 3 ∧ y.1 ≠ x.l) ∧ (n < pl.length → mc ≠ 3 ∨ ∃ y, pl[n]? = some y ∧ y.1 = x.l) ∧ Own w0 none w [.win 36 2 (.slice A7 pl.length c6) (stR pl), .blk b21 x.cells 50, .blk b19 (bs 6 last) 34, .blk b18 (bl6 oth) 69, .blk b17 (bl6 mine) 69, .blk b13 (bs 142 s) 41, .blk b10 (bs 38 (finalP zf)) 64, .rws 50 3 (.slice (some ⟨bL, oL, none⟩) r.length c) (r.map Pss.cells), .blk b4 ([.string p.name, .slice LA p.locs.length LC, .slice IA p.init.length IC, .slice TA p.threads.length TC, Go.Proofs.YtjephfjnohgcbaaDoor.b8 p.ask] ++ [c1, c2, c3, c4, c5]) 29]) F (by repeat (first | exact SubR.nil | (apply SubR.cons; · rfl))) ?_ ?_
        ·
         refine wp_block ?_
         refine cLoopR [1, 4, 9, 10, 13, 15, 16, 17, 18, 19, 21, 75, 76, 77] (fun m ups w => ∃ (n : Nat), m = pl.length - n ∧ ups = [(22, .int .i64 ((n : Nat) : Int))] ∧ n ≤ pl.length ∧ (∀ (i : Nat) (y : UInt8 × UInt8), i < n → pl[i]? = some y → mc = 3 ∧ y.1 ≠ x.l) ∧ Own w0 none w [.win 36 2 (.slice A6 pl.length c6) (stR pl), .blk b21 x.cells 50, .blk b19 (bs 6 last) 34, .blk b18 (bl6 oth) 69, .blk b17 (bl6 mine) 69, .blk b13 (bs 142 s) 41, .blk b10 (bs 38 (finalP zf)) 64, .rws 50 3 (.slice (some ⟨bL, oL, none⟩) r.length c) (r.map Pss.cells), .blk b4 ([.string p.name, .slice LA p.locs.length LC, .slice IA p.init.length IC, .slice TA p.threads.length TC, Go.Proofs.YtjephfjnohgcbaaDoor.b8 p.ask] ++ [c1, c2, c3, c4, c5]) 29]) F (pl.length) [(22, .int .i64 ((0 : Nat) : Int))] (by repeat (first | exact SubR.nil | (apply SubR.cons; · rfl))) ?_ ?_ ?_
         · exact ⟨0, rfl, rfl, by omega, fun i y hi => absurd hi (by omega), H.sel [1, 0, 2, 3, 4, 5, 6, 7, 8] rfl rfl⟩
         · repeat (first | exact trivial | refine Le.cons rfl ?_)
         clear F
         clear H
         intro m ups a w hI F
         obtain ⟨n, rfl, rfl, hn, hlow, H⟩ := hI
         refine cSeq (fun K21 hK21 => ?_)
         refine cSeq (fun K22 hK22 => ?_)
         refine cRegRO (by kernel_rfl) H ?_
         replace H := H.drew
         refine eTakeF (k := 0) (i := 0) rfl (by kernel_rfl) F rfl rfl rfl (fun w => rMv F rfl) (H.sel [0, 1, 2, 3, 4, 5, 6, 7, 8] rfl rfl) (fun _ _ _ h => h) ?_;clear F a;intro a F
         refine eTakeF (k := 1) (i := 1) rfl (by kernel_rfl) F rfl rfl rfl (fun w => rMv F rfl) (H.sel [0, 1, 2, 3, 4, 5, 6, 7, 8] rfl rfl) (fun _ _ _ h => h) ?_;clear F a;intro a F
         refine eTake (k := 2) (i := 2) rfl (by kernel_rfl) F rfl rfl rfl rfl (fun w H => rLen Tryd.underlying68 F rfl) (H.sel [0, 1, 2, 3, 4, 5, 6, 7, 8] rfl rfl) (fun _ _ _ h => h) ?_;clear F a;intro a F
         refine eTakeF (k := 3) (i := 3) rfl (by kernel_rfl) F rfl rfl rfl (fun w => rBin F rfl rfl bLss) (H.sel [0, 1, 2, 3, 4, 5, 6, 7, 8] rfl rfl) (fun _ _ _ h => h) ?_;clear F a;intro a F
         refine eTakeF (k := 4) (i := 4) rfl (by kernel_rfl) F rfl rfl rfl (fun w => rMv F rfl) (H.sel [0, 1, 2, 3, 4, 5, 6, 7, 8] rfl rfl) (fun _ _ _ h => h) ?_;clear F a;intro a F
         refine F.split 94 rfl ?_ ?_ <;> (clear F; intro h94 F)
         ·
          replace h94 := of_decide_eq_true h94
          obtain ⟨y, hy⟩ : ∃ y, pl[n]? = some y := ⟨_, List.getElem?_eq_getElem (by omega)⟩
          obtain ⟨bS, oS, rfl, _⟩ := (H.winAt 0 rfl).at n _ (stR_at hy)
          refine eTakeF (k := 5) (i := 5) rfl (by kernel_rfl) F rfl rfl rfl (fun w => rMv F rfl) (H.sel [0, 1, 2, 3, 4, 5, 6, 7, 8] rfl rfl) (fun _ _ _ h => h) ?_;clear F a;intro a F
          refine eTakeF (k := 6) (i := 6) rfl (by kernel_rfl) F rfl rfl rfl (fun w => rPk F rfl rfl) (H.sel [0, 1, 2, 3, 4, 5, 6, 7, 8] rfl rfl) (fun _ _ _ h => h) ?_;clear F a;intro a F
          refine eTakeF (k := 7) (i := 7) rfl (by kernel_rfl) F rfl rfl rfl (fun w => rMv F rfl) (H.sel [0, 1, 2, 3, 4, 5, 6, 7, 8] rfl rfl) (fun _ _ _ h => h) ?_;clear F a;intro a F
          refine F.split 97 rfl ?_ ?_ <;> (clear F; intro h97 F)
          ·
           refine eTakeF (k := 8) (i := 8) rfl (by kernel_rfl) F rfl rfl rfl (fun w => rMv F rfl) (H.sel [0, 1, 2, 3, 4, 5, 6, 7, 8] rfl rfl) (fun _ _ _ h => h) ?_;clear F a;intro a F
           refine eTakeF (k := 9) (i := 9) rfl (by kernel_rfl) F rfl rfl rfl (fun w => rMv F rfl) (H.sel [0, 1, 2, 3, 4, 5, 6, 7, 8] rfl rfl) (fun _ _ _ h => h) ?_;clear F a;intro a F
           refine eTakeF (k := 10) (i := 10) rfl (by kernel_rfl) F rfl rfl rfl (fun w => rIx Tryd.underlying68 Tryd.sizeOf36 F rfl rfl ?_) (H.sel [0, 1, 2, 3, 4, 5, 6, 7, 8] rfl rfl) (fun _ _ _ h => h) ?_
           focus omega
           clear F a; intro a F
           refine eTakeF (k := 11) (i := 11) rfl (by kernel_rfl) F rfl rfl rfl (fun w => rFaZ (f := 0) Tryd.underlying36 rfl Tryd.sizeOf5 rfl rfl F rfl) (H.sel [0, 1, 2, 3, 4, 5, 6, 7, 8] rfl rfl) (fun _ _ _ h => h) ?_;clear F a;intro a F
           refine eTake (k := 12) (i := 12) rfl (by kernel_rfl) F rfl rfl rfl rfl (fun w H => rLd Tryd.isAgg5 F rfl (by obtain ⟨b', o', h1, h2⟩ := (H.winAt 0 rfl).at n _ (stR_at hy); cases h1; simpa using h2 0 _ rfl)) (H.sel [0, 1, 2, 3, 4, 5, 6, 7, 8] rfl rfl) (fun _ _ _ h => h) ?_;clear F a;intro a F
           refine eTakeF (k := 13) (i := 13) rfl (by kernel_rfl) F rfl rfl rfl (fun w => rFa (f := 2) (k := 2) Tryd.underlying50 rfl Tryd.sizeOf5 rfl rfl F rfl) (H.sel [0, 1, 2, 3, 4, 5, 6, 7, 8] rfl rfl) (fun _ _ _ h => h) ?_;clear F a;intro a F
           refine eTake (k := 14) (i := 14) rfl (by kernel_rfl) F rfl rfl rfl rfl (fun w H => rLd Tryd.isAgg5 F rfl (H.cell 1 rfl rfl)) (H.sel [0, 1, 2, 3, 4, 5, 6, 7, 8] rfl rfl) (fun _ _ _ h => h) ?_;clear F a;intro a F
           refine eTakeF (k := 15) (i := 15) rfl (by kernel_rfl) F rfl rfl rfl (fun w => rBin F rfl rfl bNeqB) (H.sel [0, 1, 2, 3, 4, 5, 6, 7, 8] rfl rfl) (fun _ _ _ h => h) ?_;clear F a;intro a F
           refine eTakeF (k := 16) (i := 16) rfl (by kernel_rfl) F rfl rfl rfl (fun w => rPk F rfl rfl) (H.sel [0, 1, 2, 3, 4, 5, 6, 7, 8] rfl rfl) (fun _ _ _ h => h) ?_;clear F a;intro a F
           refine eNil (k := 17) (by kernel_rfl) ?_
           refine hK22 _ _ ?_; clear hK22
           refine cIf F rfl (fun h106 => ?_) (fun h106 => ?_)
           ·
            replace h106 := bneT h106
            refine wp_skip ?_
            refine hK21 _ _ ?_; clear hK21
            refine wp_block ?_
            refine cReg ?_
            refine sMv F rfl rfl rfl ?_;clear F a;intro a F
            refine sBin F rfl rfl rfl rfl (bAddN (j := 1) ?_) ?_
            focus omega
            clear F a; intro a F
            refine sAs F rfl rfl rfl ?_;clear F a;intro a F
            refine sNil ?_
            refine ⟨_, by omega, _, ⟨n + 1, rfl, rfl, by omega, fun i y2 hi hy2 => ?_, H.sel [0, 1, 2, 3, 4, 5, 6, 7, 8] rfl rfl⟩, F.to (by repeat (first | exact trivial | refine Le.cons rfl ?_))⟩
            rcases Nat.lt_or_ge i n with h1 | h1
            · exact hlow i y2 h1 hy2
            · obtain rfl : i = n := by omega
              rw [hy] at hy2; cases hy2
              exact ⟨hm3.2 h97, h106⟩
           ·
            replace h106 := bneF h106
            refine wp_exit ?_
            first
            | exact ⟨_, ⟨n, _, rfl, rfl, hn, hlow, fun hh => absurd hh (by omega), H.sel [0, 1, 2, 3, 4, 5, 6, 7, 8] rfl rfl⟩, F.to (by repeat (first | exact trivial | refine Le.cons rfl ?_))⟩
            | exact ⟨_, ⟨n, _, rfl, rfl, hn, hlow, fun _ => .inl fun hh => Bool.noConfusion ((hm3.1 hh).symm.trans h97), H.sel [0, 1, 2, 3, 4, 5, 6, 7, 8] rfl rfl⟩, F.to (by repeat (first | exact trivial | refine Le.cons rfl ?_))⟩
            | exact ⟨_, ⟨n, _, rfl, rfl, hn, hlow, fun _ => .inr ⟨y, hy, h106⟩, H.sel [0, 1, 2, 3, 4, 5, 6, 7, 8] rfl rfl⟩, F.to (by repeat (first | exact trivial | refine Le.cons rfl ?_))⟩
          ·
           refine eSkip (k := 8) (i := 8) rfl (by kernel_rfl) F rfl rfl rfl (H.sel [0, 1, 2, 3, 4, 5, 6, 7, 8] rfl rfl) (fun _ _ _ h => h) ?_;clear F a;intro a F
           refine eSkip (k := 9) (i := 9) rfl (by kernel_rfl) F rfl rfl rfl (H.sel [0, 1, 2, 3, 4, 5, 6, 7, 8] rfl rfl) (fun _ _ _ h => h) ?_;clear F a;intro a F
           refine eSkip (k := 10) (i := 10) rfl (by kernel_rfl) F rfl rfl rfl (H.sel [0, 1, 2, 3, 4, 5, 6, 7, 8] rfl rfl) (fun _ _ _ h => h) ?_;clear F a;intro a F
           refine eSkip (k := 11) (i := 11) rfl (by kernel_rfl) F rfl rfl rfl (H.sel [0, 1, 2, 3, 4, 5, 6, 7, 8] rfl rfl) (fun _ _ _ h => h) ?_;clear F a;intro a F
           refine eSkip (k := 12) (i := 12) rfl (by kernel_rfl) F rfl rfl rfl (H.sel [0, 1, 2, 3, 4, 5, 6, 7, 8] rfl rfl) (fun _ _ _ h => h) ?_;clear F a;intro a F
           refine eSkip (k := 13) (i := 13) rfl (by kernel_rfl) F rfl rfl rfl (H.sel [0, 1, 2, 3, 4, 5, 6, 7, 8] rfl rfl) (fun _ _ _ h => h) ?_;clear F a;intro a F
           refine eSkip (k := 14) (i := 14) rfl (by kernel_rfl) F rfl rfl rfl (H.sel [0, 1, 2, 3, 4, 5, 6, 7, 8] rfl rfl) (fun _ _ _ h => h) ?_;clear F a;intro a F
           refine eSkip (k := 15) (i := 15) rfl (by kernel_rfl) F rfl rfl rfl (H.sel [0, 1, 2, 3, 4, 5, 6, 7, 8] rfl rfl) (fun _ _ _ h => h) ?_;clear F a;intro a F
           refine eTakeF (k := 16) (i := 16) rfl (by kernel_rfl) F rfl rfl rfl (fun w => rPk F rfl rfl) (H.sel [0, 1, 2, 3, 4, 5, 6, 7, 8] rfl rfl) (fun _ _ _ h => h) ?_;clear F a;intro a F
           refine eNil (k := 17) (by kernel_rfl) ?_
           refine hK22 _ _ ?_; clear hK22
           refine cIfF F rfl ?_
           refine wp_exit ?_
           first
           | exact ⟨_, ⟨n, _, rfl, rfl, hn, hlow, fun hh => absurd hh (by omega), H.sel [0, 1, 2, 3, 4, 5, 6, 7, 8] rfl rfl⟩, F.to (by repeat (first | exact trivial | refine Le.cons rfl ?_))⟩
           | exact ⟨_, ⟨n, _, rfl, rfl, hn, hlow, fun _ => .inl fun hh => Bool.noConfusion ((hm3.1 hh).symm.trans h97), H.sel [0, 1, 2, 3, 4, 5, 6, 7, 8] rfl rfl⟩, F.to (by repeat (first | exact trivial | refine Le.cons rfl ?_))⟩
           | exact ⟨_, ⟨n, _, rfl, rfl, hn, hlow, fun _ => .inr ⟨y, hy, h106⟩, H.sel [0, 1, 2, 3, 4, 5, 6, 7, 8] rfl rfl⟩, F.to (by repeat (first | exact trivial | refine Le.cons rfl ?_))⟩
         ·
          replace h94 := of_decide_eq_false h94
          refine eSkip (k := 5) (i := 5) rfl (by kernel_rfl) F rfl rfl rfl (H.sel [0, 1, 2, 3, 4, 5, 6, 7, 8] rfl rfl) (fun _ _ _ h => h) ?_;clear F a;intro a F
          refine eTakeF (k := 6) (i := 6) rfl (by kernel_rfl) F rfl rfl rfl (fun w => rPk F rfl rfl) (H.sel [0, 1, 2, 3, 4, 5, 6, 7, 8] rfl rfl) (fun _ _ _ h => h) ?_;clear F a;intro a F
          refine eTakeF (k := 7) (i := 7) rfl (by kernel_rfl) F rfl rfl rfl (fun w => rMv F rfl) (H.sel [0, 1, 2, 3, 4, 5, 6, 7, 8] rfl rfl) (fun _ _ _ h => h) ?_;clear F a;intro a F
          refine eSkip (k := 8) (i := 8) rfl (by kernel_rfl) F rfl rfl rfl (H.sel [0, 1, 2, 3, 4, 5, 6, 7, 8] rfl rfl) (fun _ _ _ h => h) ?_;clear F a;intro a F
          refine eSkip (k := 9) (i := 9) rfl (by kernel_rfl) F rfl rfl rfl (H.sel [0, 1, 2, 3, 4, 5, 6, 7, 8] rfl rfl) (fun _ _ _ h => h) ?_;clear F a;intro a F
          refine eSkip (k := 10) (i := 10) rfl (by kernel_rfl) F rfl rfl rfl (H.sel [0, 1, 2, 3, 4, 5, 6, 7, 8] rfl rfl) (fun _ _ _ h => h) ?_;clear F a;intro a F
          refine eSkip (k := 11) (i := 11) rfl (by kernel_rfl) F rfl rfl rfl (H.sel [0, 1, 2, 3, 4, 5, 6, 7, 8] rfl rfl) (fun _ _ _ h => h) ?_;clear F a;intro a F
          refine eSkip (k := 12) (i := 12) rfl (by kernel_rfl) F rfl rfl rfl (H.sel [0, 1, 2, 3, 4, 5, 6, 7, 8] rfl rfl) (fun _ _ _ h => h) ?_;clear F a;intro a F
          refine eSkip (k := 13) (i := 13) rfl (by kernel_rfl) F rfl rfl rfl (H.sel [0, 1, 2, 3, 4, 5, 6, 7, 8] rfl rfl) (fun _ _ _ h => h) ?_;clear F a;intro a F
          refine eSkip (k := 14) (i := 14) rfl (by kernel_rfl) F rfl rfl rfl (H.sel [0, 1, 2, 3, 4, 5, 6, 7, 8] rfl rfl) (fun _ _ _ h => h) ?_;clear F a;intro a F
          refine eSkip (k := 15) (i := 15) rfl (by kernel_rfl) F rfl rfl rfl (H.sel [0, 1, 2, 3, 4, 5, 6, 7, 8] rfl rfl) (fun _ _ _ h => h) ?_;clear F a;intro a F
          refine eTakeF (k := 16) (i := 16) rfl (by kernel_rfl) F rfl rfl rfl (fun w => rPk F rfl rfl) (H.sel [0, 1, 2, 3, 4, 5, 6, 7, 8] rfl rfl) (fun _ _ _ h => h) ?_;clear F a;intro a F
          refine eNil (k := 17) (by kernel_rfl) ?_
          refine hK22 _ _ ?_; clear hK22
          refine cIfF F rfl ?_
          refine wp_exit ?_
          first
          | exact ⟨_, ⟨n, _, rfl, rfl, hn, hlow, fun hh => absurd hh (by omega), H.sel [0, 1, 2, 3, 4, 5, 6, 7, 8] rfl rfl⟩, F.to (by repeat (first | exact trivial | refine Le.cons rfl ?_))⟩
          | exact ⟨_, ⟨n, _, rfl, rfl, hn, hlow, fun _ => .inl fun hh => Bool.noConfusion ((hm3.1 hh).symm.trans h97), H.sel [0, 1, 2, 3, 4, 5, 6, 7, 8] rfl rfl⟩, F.to (by repeat (first | exact trivial | refine Le.cons rfl ?_))⟩
          | exact ⟨_, ⟨n, _, rfl, rfl, hn, hlow, fun _ => .inr ⟨y, hy, h106⟩, H.sel [0, 1, 2, 3, 4, 5, 6, 7, 8] rfl rfl⟩, F.to (by repeat (first | exact trivial | refine Le.cons rfl ?_))⟩
        clear F H
        intro ups a w hI F
        obtain ⟨n, A7, rfl, rfl, hn, hlow, hend, H⟩ := hI
        obtain ⟨y, hy, hy6, hval, hord2⟩ := hord.ownDrain hD hDl hn hlow hend
        have hnl := (List.getElem?_eq_some_iff.1 hy).1
        obtain ⟨bS, oS, rfl, _⟩ := (H.winAt 0 rfl).at n _ (stR_at hy)
        rw [← eD] at hval hord2
        refine cSeq (fun K23 hK23 => ?_)
        refine cReg ?_
        refine sLr Tryd.underlying29 rfl ?si F rfl rfl rfl (H.whole 8 rfl) ?_
        case si => exact info_size Tryd.sizeOf29
        clear F a; intro a F
        refine sMv F rfl rfl rfl ?_;clear F a;intro a F
        refine sLrB Tryd.underlying41 rfl Tryd.sizeOf41 F rfl rfl rfl (H.whole 5 rfl) ?_;clear F a;intro a F
        refine sLr Tryd.underlying50 rfl ?si F rfl rfl rfl (H.whole 1 rfl) ?_
        case si => exact info_size Tryd.sizeOf50
        clear F a; intro a F
        refine sCall Tryd.call13 F rfl rfl rfl ((by have := moveM_any _ p _ (hP0.own H) (hN.own H) mc s x; rw [eS1, eE1] at this; exact this)) ?_
        rintro e w ⟨rfl, hb⟩
        replace H := H.grow hb; clear hb
        refine ⟨_, rfl, ?_⟩
        clear F a; intro a F
        refine sMv F rfl rfl rfl ?_;clear F a;intro a F
        refine sExt F rfl rfl rfl rfl ?_;clear F a;intro a F
        refine sExt F rfl rfl rfl rfl ?_;clear F a;intro a F
        refine sAlB H zB41 F rfl rfl ?_
        clear F a H; intro b23 a w F H
        refine sSrB H 0 Tryd.sizeOf41 F rfl rfl rfl rfl (by omega) ?_
        clear H; intro w H
        rw [lay_all] at H
        refine sAs F rfl rfl rfl ?_;clear F a;intro a F
        refine sNil ?_
        refine hK23 _ _ ?_; clear hK23
        refine cSeq (fun K24 hK24 => ?_)
        refine cSeq (fun K25 hK25 => ?_)
        refine cRegRO (by kernel_rfl) H ?_
        replace H := H.drew
        refine eTakeF (k := 0) (i := 0) rfl (by kernel_rfl) F rfl rfl rfl (fun w => rMv F rfl) (H.sel [0, 1, 2, 3, 4, 5, 6, 7, 8, 9] rfl rfl) (fun _ _ _ h => h) ?_;clear F a;intro a F
        refine eTakeF (k := 1) (i := 1) rfl (by kernel_rfl) F rfl rfl rfl (fun w => rBin F rfl rfl bNeq) (H.sel [0, 1, 2, 3, 4, 5, 6, 7, 8, 9] rfl rfl) (fun _ _ _ h => h) ?_;clear F a;intro a F
        refine eTakeF (k := 2) (i := 2) rfl (by kernel_rfl) F rfl rfl rfl (fun w => rMv F rfl) (H.sel [0, 1, 2, 3, 4, 5, 6, 7, 8, 9] rfl rfl) (fun _ _ _ h => h) ?_;clear F a;intro a F
        refine F.split 119 rfl ?_ ?_ <;> (clear F; intro h119 F)
        ·
         replace h119 := bneT h119
         exact absurd rfl h119
        ·
         replace h119 := bneF h119
         refine eTakeF (k := 3) (i := 3) rfl (by kernel_rfl) F rfl rfl rfl (fun w => rMv F rfl) (H.sel [0, 1, 2, 3, 4, 5, 6, 7, 8, 9] rfl rfl) (fun _ _ _ h => h) ?_;clear F a;intro a F
         refine eTakeF (k := 4) (i := 4) rfl (by kernel_rfl) F rfl rfl rfl (fun w => rMv F rfl) (H.sel [0, 1, 2, 3, 4, 5, 6, 7, 8, 9] rfl rfl) (fun _ _ _ h => h) ?_;clear F a;intro a F
         refine eTake (k := 5) (i := 5) rfl (by kernel_rfl) F rfl rfl rfl rfl (fun w H => rLen Tryd.underlying68 F rfl) (H.sel [0, 1, 2, 3, 4, 5, 6, 7, 8, 9] rfl rfl) (fun _ _ _ h => h) ?_;clear F a;intro a F
         refine eTakeF (k := 6) (i := 6) rfl (by kernel_rfl) F rfl rfl rfl (fun w => rBin F rfl rfl bEql) (H.sel [0, 1, 2, 3, 4, 5, 6, 7, 8, 9] rfl rfl) (fun _ _ _ h => h) ?_;clear F a;intro a F
         refine eTakeF (k := 7) (i := 7) rfl (by kernel_rfl) F rfl rfl rfl (fun w => rPk F rfl rfl) (H.sel [0, 1, 2, 3, 4, 5, 6, 7, 8, 9] rfl rfl) (fun _ _ _ h => h) ?_;clear F a;intro a F
         refine eTakeF (k := 8) (i := 8) rfl (by kernel_rfl) F rfl rfl rfl (fun w => rMv F rfl) (H.sel [0, 1, 2, 3, 4, 5, 6, 7, 8, 9] rfl rfl) (fun _ _ _ h => h) ?_;clear F a;intro a F
         refine F.split 125 rfl ?_ ?_ <;> (clear F; intro h125 F)
         ·
          replace h125 := beqT h125
          omega
         ·
          replace h125 := beqF h125
          refine eTakeF (k := 9) (i := 9) rfl (by kernel_rfl) F rfl rfl rfl (fun w => rMv F rfl) (H.sel [0, 1, 2, 3, 4, 5, 6, 7, 8, 9] rfl rfl) (fun _ _ _ h => h) ?_;clear F a;intro a F
          refine eTakeF (k := 10) (i := 10) rfl (by kernel_rfl) F rfl rfl rfl (fun w => rMv F rfl) (H.sel [0, 1, 2, 3, 4, 5, 6, 7, 8, 9] rfl rfl) (fun _ _ _ h => h) ?_;clear F a;intro a F
          refine eTakeF (k := 11) (i := 11) rfl (by kernel_rfl) F rfl rfl rfl (fun w => rIx Tryd.underlying68 Tryd.sizeOf36 F rfl rfl ?_) (H.sel [0, 1, 2, 3, 4, 5, 6, 7, 8, 9] rfl rfl) (fun _ _ _ h => h) ?_
          focus exact hnl
          clear F a; intro a F
          refine eTakeF (k := 12) (i := 12) rfl (by kernel_rfl) F rfl rfl rfl (fun w => rFaZ (f := 0) Tryd.underlying36 rfl Tryd.sizeOf5 rfl rfl F rfl) (H.sel [0, 1, 2, 3, 4, 5, 6, 7, 8, 9] rfl rfl) (fun _ _ _ h => h) ?_;clear F a;intro a F
          refine eTake (k := 13) (i := 13) rfl (by kernel_rfl) F rfl rfl rfl rfl (fun w H => rLd Tryd.isAgg5 F rfl (by obtain ⟨b', o', h1, h2⟩ := (H.winAt 1 rfl).at n _ (stR_at hy); cases h1; simpa using h2 0 _ rfl)) (H.sel [0, 1, 2, 3, 4, 5, 6, 7, 8, 9] rfl rfl) (fun _ _ _ h => h) ?_;clear F a;intro a F
          refine eTakeF (k := 14) (i := 14) rfl (by kernel_rfl) F rfl rfl rfl (fun w => rFa (f := 1) (k := 36) Tryd.underlying41 rfl Tryd.sizeOf34 rfl rfl F rfl) (H.sel [0, 1, 2, 3, 4, 5, 6, 7, 8, 9] rfl rfl) (fun _ _ _ h => h) ?_;clear F a;intro a F
          refine eTakeF (k := 15) (i := 15) rfl (by kernel_rfl) F rfl rfl rfl (fun w => rIa1 Tryd.underlying34 Tryd.sizeOf5 F rfl rfl ?_) (H.sel [0, 1, 2, 3, 4, 5, 6, 7, 8, 9] rfl rfl) (fun _ _ _ h => h) ?_
          focus exact hy6
          clear F a; intro a F
          refine eTake (k := 16) (i := 16) rfl (by kernel_rfl) F rfl rfl rfl rfl (fun w H => rLd Tryd.isAgg5 F rfl (H.cellB 0 rfl (by omega))) (H.sel [0, 1, 2, 3, 4, 5, 6, 7, 8, 9] rfl rfl) (fun _ _ _ h => h) ?_;clear F a;intro a F
          refine eTakeF (k := 17) (i := 17) rfl (by kernel_rfl) F rfl rfl rfl (fun w => rMv F rfl) (H.sel [0, 1, 2, 3, 4, 5, 6, 7, 8, 9] rfl rfl) (fun _ _ _ h => h) ?_;clear F a;intro a F
          refine eTakeF (k := 18) (i := 18) rfl (by kernel_rfl) F rfl rfl rfl (fun w => rMv F rfl) (H.sel [0, 1, 2, 3, 4, 5, 6, 7, 8, 9] rfl rfl) (fun _ _ _ h => h) ?_;clear F a;intro a F
          refine eTakeF (k := 19) (i := 19) rfl (by kernel_rfl) F rfl rfl rfl (fun w => rIx Tryd.underlying68 Tryd.sizeOf36 F rfl rfl ?_) (H.sel [0, 1, 2, 3, 4, 5, 6, 7, 8, 9] rfl rfl) (fun _ _ _ h => h) ?_
          focus exact hnl
          clear F a; intro a F
          refine eTakeF (k := 20) (i := 20) rfl (by kernel_rfl) F rfl rfl rfl (fun w => rFa (f := 1) (k := _ + 1) Tryd.underlying36 rfl Tryd.sizeOf5 rfl rfl F rfl) (H.sel [0, 1, 2, 3, 4, 5, 6, 7, 8, 9] rfl rfl) (fun _ _ _ h => h) ?_;clear F a;intro a F
          refine eTake (k := 21) (i := 21) rfl (by kernel_rfl) F rfl rfl rfl rfl (fun w H => rLd Tryd.isAgg5 F rfl (by obtain ⟨b', o', h1, h2⟩ := (H.winAt 1 rfl).at n _ (stR_at hy); cases h1; simpa using h2 1 _ rfl)) (H.sel [0, 1, 2, 3, 4, 5, 6, 7, 8, 9] rfl rfl) (fun _ _ _ h => h) ?_;clear F a;intro a F
          refine eTakeF (k := 22) (i := 22) rfl (by kernel_rfl) F rfl rfl rfl (fun w => rBin F rfl rfl bNeqB) (H.sel [0, 1, 2, 3, 4, 5, 6, 7, 8, 9] rfl rfl) (fun _ _ _ h => h) ?_;clear F a;intro a F
          refine eTakeF (k := 23) (i := 23) rfl (by kernel_rfl) F rfl rfl rfl (fun w => rPk F rfl rfl) (H.sel [0, 1, 2, 3, 4, 5, 6, 7, 8, 9] rfl rfl) (fun _ _ _ h => h) ?_;clear F a;intro a F
          refine eNil (k := 24) (by kernel_rfl) ?_
          refine hK25 _ _ ?_; clear hK25
          refine cIf F rfl (fun h140 => ?_) (fun h140 => ?_)
          ·
           replace h140 := bneT h140
           exact absurd (by simpa using hval) h140
          ·
           replace h140 := bneF h140
           refine wp_skip ?_
           refine hK24 _ _ ?_; clear hK24
           refine cRegRO (by kernel_rfl) H ?_
           replace H := H.drew
           refine eTakeF (k := 0) (i := 0) rfl (by kernel_rfl) F rfl rfl rfl (fun w => rMv F rfl) (H.sel [0, 1, 2, 3, 4, 5, 6, 7, 8, 9] rfl rfl) (fun _ _ _ h => h) ?_;clear F a;intro a F
           refine eTakeF (k := 1) (i := 1) rfl (by kernel_rfl) F rfl rfl rfl (fun w => rMv F rfl) (H.sel [0, 1, 2, 3, 4, 5, 6, 7, 8, 9] rfl rfl) (fun _ _ _ h => h) ?_;clear F a;intro a F
           refine eTakeF (k := 2) (i := 2) rfl (by kernel_rfl) F rfl rfl rfl (fun w => rMv F rfl) (H.sel [0, 1, 2, 3, 4, 5, 6, 7, 8, 9] rfl rfl) (fun _ _ _ h => h) ?_;clear F a;intro a F
           refine eTake (k := 3) (i := 3) rfl (by kernel_rfl) F rfl rfl rfl rfl (fun w H => rSlHM Tryd.underlying68 Tryd.sizeOf36 F rfl rfl rfl ?_ ?_) (H.sel [0, 1, 2, 3, 4, 5, 6, 7, 8, 9] rfl rfl) (fun _ _ _ h => h) ?_
           focus (first | exact Nat.le_refl _ | exact Nat.le_trans hn (H.winAt 1 rfl).len.2.1)
           focus (first | exact Nat.le_refl _ | exact Nat.le_trans hn (H.winAt 1 rfl).len.2.1)
           clear F a; intro a F
           refine eTakeF (k := 4) (i := 4) rfl (by kernel_rfl) F rfl rfl rfl (fun w => rMv F rfl) (H.sel [0, 1, 2, 3, 4, 5, 6, 7, 8, 9] rfl rfl) (fun _ _ _ h => h) ?_;clear F a;intro a F
           refine eTakeF (k := 5) (i := 5) rfl (by kernel_rfl) F rfl rfl rfl (fun w => rMv F rfl) (H.sel [0, 1, 2, 3, 4, 5, 6, 7, 8, 9] rfl rfl) (fun _ _ _ h => h) ?_;clear F a;intro a F
           refine eTakeF (k := 6) (i := 6) rfl (by kernel_rfl) F rfl rfl rfl (fun w => rBin F rfl rfl (bAddN (j := 1) ?_)) (H.sel [0, 1, 2, 3, 4, 5, 6, 7, 8, 9] rfl rfl) (fun _ _ _ h => h) ?_
           focus omega
           clear F a; intro a F
           refine eTake (k := 7) (i := 7) rfl (by kernel_rfl) F rfl rfl rfl rfl (fun w H => rSlF Tryd.underlying68 Tryd.sizeOf36 F rfl rfl ?_) (H.sel [0, 1, 2, 3, 4, 5, 6, 7, 8, 9] rfl rfl) (fun _ _ _ h => h) ?_
           focus (omega)
           clear F a; intro a F
           refine eOne (k := 8) (i := 8) rfl (by kernel_rfl) F rfl (oWinCut (bytes := 2) (sz := 2) H 1 Tryd.underlying68 Tryd.typeInfo36 rfl rfl rfl rfl rfl rfl F rfl rfl rfl rfl (Nat.le_succ _) ((by omega)) ((by omega)) (stR_one _) ((by rw [stR_len]; omega)) ?_)
           clear F a H; intro A149 c149 a w F H
           refine ePartO (by kernel_rfl) H ?_
           refine eTakeF (k := 9) (i := 9) rfl (by kernel_rfl) F rfl rfl rfl (fun w => rAs F rfl) (H.sel [0, 1, 2, 3, 4, 5, 6, 7, 8, 9] rfl rfl) (fun _ _ _ h => h) ?_;clear F a;intro a F
           refine eNil (k := 10) (by kernel_rfl) ?_
           first
           | (rw [stR_cut] at H F
              have e1 : (stR (pl.take n ++ pl.drop (n + 1))).length = (pl.take n ++ pl.drop (n + 1)).length := stR_len _
              rw [e1] at H F
              exact ⟨_, ⟨_, _, _, rfl, by rw [List.length_append, List.length_take, List.length_drop]; omega, ⟨fun _ => hord2, fun hh => absurd ⟨h89, hxt⟩ hh⟩, H.sel [1, 2, 3, 4, 5, 6, 7, 8, 9] rfl rfl⟩, F.to (by repeat (first | exact trivial | refine Le.cons rfl ?_))⟩)
           | exact ⟨_, ⟨_, _, _, rfl, hpl, ⟨fun hh => Bool.noConfusion (hh.1.symm.trans h89), fun _ => rfl⟩, H.sel [1, 2, 3, 4, 5, 6, 7, 8, 9] rfl rfl⟩, F.to (by repeat (first | exact trivial | refine Le.cons rfl ?_))⟩
           | exact ⟨_, ⟨_, _, _, rfl, hpl, ⟨fun hh => absurd (congrArg (fun n : Nat => (n : Int)) hh.2) h86, fun _ => rfl⟩, H.sel [1, 2, 3, 4, 5, 6, 7, 8, 9] rfl rfl⟩, F.to (by repeat (first | exact trivial | refine Le.cons rfl ?_))⟩
       ·
        refine wp_skip ?_
        first
        | (rw [stR_cut] at H F
           have e1 : (stR (pl.take n ++ pl.drop (n + 1))).length = (pl.take n ++ pl.drop (n + 1)).length := stR_len _
           rw [e1] at H F
           exact ⟨_, ⟨_, _, _, rfl, by rw [List.length_append, List.length_take, List.length_drop]; omega, ⟨fun _ => hord2, fun hh => absurd ⟨h89, hxt⟩ hh⟩, H.sel [1, 0, 2, 3, 4, 5, 6, 7, 8] rfl rfl⟩, F.to (by repeat (first | exact trivial | refine Le.cons rfl ?_))⟩)
        | exact ⟨_, ⟨_, _, _, rfl, hpl, ⟨fun hh => Bool.noConfusion (hh.1.symm.trans h89), fun _ => rfl⟩, H.sel [1, 0, 2, 3, 4, 5, 6, 7, 8] rfl rfl⟩, F.to (by repeat (first | exact trivial | refine Le.cons rfl ?_))⟩
        | exact ⟨_, ⟨_, _, _, rfl, hpl, ⟨fun hh => absurd (congrArg (fun n : Nat => (n : Int)) hh.2) h86, fun _ => rfl⟩, H.sel [1, 0, 2, 3, 4, 5, 6, 7, 8] rfl rfl⟩, F.to (by repeat (first | exact trivial | refine Le.cons rfl ?_))⟩
      ·
       replace h86 := beqF h86
       refine sSk F rfl rfl ?_;clear F a;intro a F
       refine sSk F rfl rfl ?_;clear F a;intro a F
       refine sPk F rfl rfl rfl rfl ?_;clear F a;intro a F
       refine sNil ?_
       refine hK19 _ _ ?_; clear hK19
       refine cIfF F rfl ?_
       refine wp_skip ?_
       first
       | (rw [stR_cut] at H F
          have e1 : (stR (pl.take n ++ pl.drop (n + 1))).length = (pl.take n ++ pl.drop (n + 1)).length := stR_len _
          rw [e1] at H F
          exact ⟨_, ⟨_, _, _, rfl, by rw [List.length_append, List.length_take, List.length_drop]; omega, ⟨fun _ => hord2, fun hh => absurd ⟨h89, hxt⟩ hh⟩, H.sel [1, 0, 2, 3, 4, 5, 6, 7, 8] rfl rfl⟩, F.to (by repeat (first | exact trivial | refine Le.cons rfl ?_))⟩)
       | exact ⟨_, ⟨_, _, _, rfl, hpl, ⟨fun hh => Bool.noConfusion (hh.1.symm.trans h89), fun _ => rfl⟩, H.sel [1, 0, 2, 3, 4, 5, 6, 7, 8] rfl rfl⟩, F.to (by repeat (first | exact trivial | refine Le.cons rfl ?_))⟩
       | exact ⟨_, ⟨_, _, _, rfl, hpl, ⟨fun hh => absurd (congrArg (fun n : Nat => (n : Int)) hh.2) h86, fun _ => rfl⟩, H.sel [1, 0, 2, 3, 4, 5, 6, 7, 8] rfl rfl⟩, F.to (by repeat (first | exact trivial | refine Le.cons rfl ?_))⟩
     clear F H
     intro ups a w hI F
     obtain ⟨pl2, A2, k2, rfl, hpl2, ⟨hd1, hd2⟩, H⟩ := hI
     refine cSeqJ [1, 4, 9, 10, 13, 15, 17, 18, 19, 21, 75, 76, 77] (fun ups w => ∃ (pl3 : List (UInt8 × UInt8)) (mine3 oth3 : Nat → Bool) (last3 : By) (A3 : Option Addr) (k3 : Nat), ups = [(16, .slice A3 pl3.length k3)] ∧ pl3.length ≤ j + 1 ∧ OrdCase p mc s x t pl3 oth3 last3 ∧ Own w0 none w [.win 36 2 (.slice A3 pl3.length k3) (stR pl3), .blk b21 x.cells 50, .blk b19 (bs 6 last3) 34, .blk b18 (bl6 oth3) 69, .blk b17 (bl6 mine3) 69, .blk b13 (bs 142 s) 41, .blk b10 (bs 38 (finalP zf)) 64, .rws 50 3 (.slice (some ⟨bL, oL, none⟩) r.length c) (r.map Pss.cells), .blk b4 ([.string p.name, .slice LA p.locs.length LC, .slice IA p.init.length IC, .slice TA p.threads.length TC, Go.Proofs.YtjephfjnohgcbaaDoor.b8 p.ask] ++ [c1, c2, c3, c4, c5]) 29]) F (by repeat (first | exact SubR.nil | (apply SubR.cons; · rfl))) ?_ ?_
     ·
      refine cSeq (fun K26 hK26 => ?_)
      refine cReg ?_
      refine sFa (f := 1) (k := 1) Tryd.underlying50 rfl Tryd.sizeOf4 rfl rfl F rfl rfl rfl ?_;clear F a;intro a F
      refine sLd Tryd.isAgg4 F rfl rfl rfl (H.cell 1 rfl rfl) ?_;clear F a;intro a F
      refine sNot F rfl rfl rfl ?_;clear F a;intro a F
      refine sNil ?_
      refine hK26 _ _ ?_; clear hK26
      refine cIf F rfl (fun h152 => ?_) (fun h152 => ?_)
      ·
       replace h152 := notT h152
       obtain rfl := hd2 (fun hh => by rw [hh.1] at h152; cases h152)
       clear hd1 hd2
       obtain ⟨l, i, hE, eX⟩ := ord_isExec hr hxm h152
       have hE0 := hE
       have eX0 := eX
       obtain ⟨bT, oT, BT, CT, rfl, hT1, hT2, hT3⟩ := hp.threads x.t.toNat l hE.hl
       have hpcl : (s (x.t.toNat * 9)).toNat < l.length := hE.lt
       have hloc6 : (i.op = 2 ∨ swapO i.op) → i.loc.toNat < 6 := fun hh => hE.loc6 (by
        rcases hh with hh | hh | hh | hh <;> simp [isLocal, hh])
       obtain ⟨bI, oI, rfl, hI⟩ := hT2 (s (x.t.toNat * 9)).toNat i.cells (by rw [List.getElem?_map, show l[(s (x.t.toNat * 9)).toNat]? = some i from hE.hx]; rfl)
       refine cSeq (fun K27 hK27 => ?_)
       refine cRegRO (by kernel_rfl) H ?_
       replace H := H.drew
       refine eTakeF (k := 0) (i := 0) rfl (by kernel_rfl) F rfl rfl rfl (fun w => rFa (f := 3) (k := 3) Tryd.underlying29 rfl Tryd.sizeOf24 rfl rfl F rfl) (H.sel [0, 1, 2, 3, 4, 5, 6, 7, 8] rfl rfl) (fun _ _ _ h => h) ?_;clear F a;intro a F
       refine eTake (k := 1) (i := 1) rfl (by kernel_rfl) F rfl rfl rfl rfl (fun w H => rLd Tryd.isAgg24 F rfl (H.cell 8 rfl rfl)) (H.sel [0, 1, 2, 3, 4, 5, 6, 7, 8] rfl rfl) (fun _ _ _ h => h) ?_;clear F a;intro a F
       refine eTakeF (k := 2) (i := 2) rfl (by kernel_rfl) F rfl rfl rfl (fun w => rFa (f := 0) (k := 0) Tryd.underlying50 rfl Tryd.sizeOf5 rfl rfl F rfl) (H.sel [0, 1, 2, 3, 4, 5, 6, 7, 8] rfl rfl) (fun _ _ _ h => h) ?_;clear F a;intro a F
       refine eTake (k := 3) (i := 3) rfl (by kernel_rfl) F rfl rfl rfl rfl (fun w H => rLd Tryd.isAgg5 F rfl (H.cell 1 rfl rfl)) (H.sel [0, 1, 2, 3, 4, 5, 6, 7, 8] rfl rfl) (fun _ _ _ h => h) ?_;clear F a;intro a F
       refine eTakeF (k := 4) (i := 4) rfl (by kernel_rfl) F rfl rfl rfl (fun w => rIx Tryd.underlying24 Tryd.sizeOf59 F rfl rfl ?_) (H.sel [0, 1, 2, 3, 4, 5, 6, 7, 8] rfl rfl) (fun _ _ _ h => h) ?_
       focus (first | omega | decide | (simp; omega))
       clear F a; intro a F
       refine eTake (k := 5) (i := 5) rfl (by kernel_rfl) F rfl rfl rfl rfl (fun w H => rLd Tryd.isAgg59 F rfl (H.arg hT1)) (H.sel [0, 1, 2, 3, 4, 5, 6, 7, 8] rfl rfl) (fun _ _ _ h => h) ?_;clear F a;intro a F
       refine eTakeF (k := 6) (i := 6) rfl (by kernel_rfl) F rfl rfl rfl (fun w => rFa (f := 0) (k := 0) Tryd.underlying50 rfl Tryd.sizeOf5 rfl rfl F rfl) (H.sel [0, 1, 2, 3, 4, 5, 6, 7, 8] rfl rfl) (fun _ _ _ h => h) ?_;clear F a;intro a F
       refine eTake (k := 7) (i := 7) rfl (by kernel_rfl) F rfl rfl rfl rfl (fun w H => rLd Tryd.isAgg5 F rfl (H.cell 1 rfl rfl)) (H.sel [0, 1, 2, 3, 4, 5, 6, 7, 8] rfl rfl) (fun _ _ _ h => h) ?_;clear F a;intro a F
       refine eTakeF (k := 8) (i := 8) rfl (by kernel_rfl) F rfl rfl rfl (fun w => rFa (f := 0) (k := 0) Tryd.underlying41 rfl Tryd.sizeOf33 rfl rfl F rfl) (H.sel [0, 1, 2, 3, 4, 5, 6, 7, 8] rfl rfl) (fun _ _ _ h => h) ?_;clear F a;intro a F
       refine eTakeF (k := 9) (i := 9) rfl (by kernel_rfl) F rfl rfl rfl (fun w => rIaZ Tryd.underlying33 Tryd.sizeOf32 F rfl rfl ?_) (H.sel [0, 1, 2, 3, 4, 5, 6, 7, 8] rfl rfl) (fun _ _ _ h => h) ?_
       focus (first | omega | decide | (simp; omega))
       clear F a; intro a F
       refine eTakeF (k := 10) (i := 10) rfl (by kernel_rfl) F rfl rfl rfl (fun w => rFaZ (f := 0) Tryd.underlying32 rfl Tryd.sizeOf5 rfl rfl F rfl) (H.sel [0, 1, 2, 3, 4, 5, 6, 7, 8] rfl rfl) (fun _ _ _ h => h) ?_;clear F a;intro a F
       refine eTake (k := 11) (i := 11) rfl (by kernel_rfl) F rfl rfl rfl rfl (fun w H => rLd Tryd.isAgg5 F rfl (H.cellB 5 rfl (by omega))) (H.sel [0, 1, 2, 3, 4, 5, 6, 7, 8] rfl rfl) (fun _ _ _ h => h) ?_;clear F a;intro a F
       refine eTakeF (k := 12) (i := 12) rfl (by kernel_rfl) F rfl rfl rfl (fun w => rIx Tryd.underlying59 Tryd.sizeOf58 F rfl rfl ?_) (H.sel [0, 1, 2, 3, 4, 5, 6, 7, 8] rfl rfl) (fun _ _ _ h => h) ?_
       focus exact hpcl
       clear F a; intro a F
       refine eTake (k := 13) (i := 13) rfl (by kernel_rfl) F rfl rfl rfl rfl (fun w H => rLr Tryd.underlying58 rfl ?si F rfl (H.argR hI)) (H.sel [0, 1, 2, 3, 4, 5, 6, 7, 8] rfl rfl) (fun _ _ _ h => h) ?_
       case si => exact info_size Tryd.sizeOf58
       clear F a; intro a F
       refine eOne (k := 14) (i := 14) rfl (by kernel_rfl) F rfl (oAl H Tryd.zeroValue58 F rfl ?_)
       clear F a H; intro b25 a w F H
       refine eKeep (H.sel [1, 2, 3, 4, 5, 6, 7, 8, 9] rfl rfl) ?_
       refine eOne (k := 15) (i := 15) rfl (by kernel_rfl) F rfl (oSr H 0 ?si F rfl rfl ?s1 rfl rfl ?_)
       case si => exact info_size Tryd.sizeOf58
       case s1 => first | rfl | (repeat (first | exact one_nil | (apply one_cons; · first | rfl | assumption | exact one_bif rfl rfl)))
       clear H; intro w H
       refine ePartO (by kernel_rfl) H ?_
       refine eNil (k := 16) (by kernel_rfl) ?_
       refine hK27 _ _ ?_; clear hK27
       refine cSeqJ [1, 4, 9, 10, 13, 15, 16, 17, 18, 19, 21, 25, 75, 76, 77] (fun ups w => ∃ (wb : Bool), ups = [(26, .bool wb)] ∧ (wb = true ↔ i.op = 2 ∨ swapO i.op) ∧ Own w0 none w [.win 36 2 (.slice A2 pl2.length k2) (stR pl2), .blk b25 i.cells 58, .blk b21 x.cells 50, .blk b19 (bs 6 last) 34, .blk b18 (bl6 oth) 69, .blk b17 (bl6 mine) 69, .blk b13 (bs 142 s) 41, .blk b10 (bs 38 (finalP zf)) 64, .rws 50 3 (.slice (some ⟨bL, oL, none⟩) r.length c) (r.map Pss.cells), .blk b4 ([.string p.name, .slice LA p.locs.length LC, .slice IA p.init.length IC, .slice (some ⟨bT, oT, none⟩) p.threads.length TC, Go.Proofs.YtjephfjnohgcbaaDoor.b8 p.ask] ++ [c1, c2, c3, c4, c5]) 29]) F (by repeat (first | exact SubR.nil | (apply SubR.cons; · rfl))) ?_ ?_
       ·
        refine cReg ?_
        refine sFa (f := 0) (k := 0) Tryd.underlying58 rfl Tryd.sizeOf5 rfl rfl F rfl rfl rfl ?_;clear F a;intro a F
        refine sLd Tryd.isAgg5 F rfl rfl rfl (H.cell 0 rfl rfl) ?_;clear F a;intro a F
        refine sBin F rfl rfl rfl rfl (bEqlB (y := 2)) ?_;clear F a;intro a F
        refine sMv F rfl rfl rfl ?_;clear F a;intro a F
        refine F.split 170 rfl ?_ ?_ <;> (clear F; intro h170 F)
        ·
         replace h170 := beqT h170
         refine sSk F rfl rfl ?_;clear F a;intro a F
         refine sSk F rfl rfl ?_;clear F a;intro a F
         refine sSk F rfl rfl ?_;clear F a;intro a F
         refine sSk F rfl rfl ?_;clear F a;intro a F
         refine sSk F rfl rfl ?_;clear F a;intro a F
         refine sSk F rfl rfl ?_;clear F a;intro a F
         refine sSk F rfl rfl ?_;clear F a;intro a F
         refine sSk F rfl rfl ?_;clear F a;intro a F
         refine sPk F rfl rfl rfl rfl ?_;clear F a;intro a F
         refine sAs F rfl rfl rfl ?_;clear F a;intro a F
         refine sNil ?_
         first
         | exact ⟨_, ⟨_, rfl, ⟨fun _ => .inl h170, fun _ => rfl⟩, H.sel [1, 0, 2, 3, 4, 5, 6, 7, 8, 9] rfl rfl⟩, F.to (by repeat (first | exact trivial | refine Le.cons rfl ?_))⟩
         | exact ⟨_, ⟨_, rfl, ⟨fun hh => .inr (swapO_iff.2 ⟨h174, of_decide_eq_true hh⟩), fun hh => decide_eq_true (swapO_iff.1 (hh.resolve_left h170)).2⟩, H.sel [1, 0, 2, 3, 4, 5, 6, 7, 8, 9] rfl rfl⟩, F.to (by repeat (first | exact trivial | refine Le.cons rfl ?_))⟩
         | exact ⟨_, ⟨_, rfl, ⟨fun hh => Bool.noConfusion hh, fun hh => absurd (swapO_iff.1 (hh.resolve_left h170)).1 h174⟩, H.sel [1, 0, 2, 3, 4, 5, 6, 7, 8, 9] rfl rfl⟩, F.to (by repeat (first | exact trivial | refine Le.cons rfl ?_))⟩
        ·
         replace h170 := beqF h170
         refine sFa (f := 0) (k := 0) Tryd.underlying58 rfl Tryd.sizeOf5 rfl rfl F rfl rfl rfl ?_;clear F a;intro a F
         refine sLd Tryd.isAgg5 F rfl rfl rfl (H.cell 0 rfl rfl) ?_;clear F a;intro a F
         refine sBin F rfl rfl rfl rfl (bGeqB (y := 4)) ?_;clear F a;intro a F
         refine sMv F rfl rfl rfl ?_;clear F a;intro a F
         refine F.split 174 rfl ?_ ?_ <;> (clear F; intro h174 F)
         ·
          replace h174 := of_decide_eq_true h174
          refine sFa (f := 0) (k := 0) Tryd.underlying58 rfl Tryd.sizeOf5 rfl rfl F rfl rfl rfl ?_;clear F a;intro a F
          refine sLd Tryd.isAgg5 F rfl rfl rfl (H.cell 0 rfl rfl) ?_;clear F a;intro a F
          refine sBin F rfl rfl rfl rfl (bLeqB (y := 6)) ?_;clear F a;intro a F
          refine sPk F rfl rfl rfl rfl ?_;clear F a;intro a F
          refine sPk F rfl rfl rfl rfl ?_;clear F a;intro a F
          refine sAs F rfl rfl rfl ?_;clear F a;intro a F
          refine sNil ?_
          first
          | exact ⟨_, ⟨_, rfl, ⟨fun _ => .inl h170, fun _ => rfl⟩, H.sel [1, 0, 2, 3, 4, 5, 6, 7, 8, 9] rfl rfl⟩, F.to (by repeat (first | exact trivial | refine Le.cons rfl ?_))⟩
          | exact ⟨_, ⟨_, rfl, ⟨fun hh => .inr (swapO_iff.2 ⟨h174, of_decide_eq_true hh⟩), fun hh => decide_eq_true (swapO_iff.1 (hh.resolve_left h170)).2⟩, H.sel [1, 0, 2, 3, 4, 5, 6, 7, 8, 9] rfl rfl⟩, F.to (by repeat (first | exact trivial | refine Le.cons rfl ?_))⟩
          | exact ⟨_, ⟨_, rfl, ⟨fun hh => Bool.noConfusion hh, fun hh => absurd (swapO_iff.1 (hh.resolve_left h170)).1 h174⟩, H.sel [1, 0, 2, 3, 4, 5, 6, 7, 8, 9] rfl rfl⟩, F.to (by repeat (first | exact trivial | refine Le.cons rfl ?_))⟩
         ·
          replace h174 := of_decide_eq_false h174
          refine sSk F rfl rfl ?_;clear F a;intro a F
          refine sSk F rfl rfl ?_;clear F a;intro a F
          refine sSk F rfl rfl ?_;clear F a;intro a F
          refine sPk F rfl rfl rfl rfl ?_;clear F a;intro a F
          refine sPk F rfl rfl rfl rfl ?_;clear F a;intro a F
          refine sAs F rfl rfl rfl ?_;clear F a;intro a F
          refine sNil ?_
          first
          | exact ⟨_, ⟨_, rfl, ⟨fun _ => .inl h170, fun _ => rfl⟩, H.sel [1, 0, 2, 3, 4, 5, 6, 7, 8, 9] rfl rfl⟩, F.to (by repeat (first | exact trivial | refine Le.cons rfl ?_))⟩
          | exact ⟨_, ⟨_, rfl, ⟨fun hh => .inr (swapO_iff.2 ⟨h174, of_decide_eq_true hh⟩), fun hh => decide_eq_true (swapO_iff.1 (hh.resolve_left h170)).2⟩, H.sel [1, 0, 2, 3, 4, 5, 6, 7, 8, 9] rfl rfl⟩, F.to (by repeat (first | exact trivial | refine Le.cons rfl ?_))⟩
          | exact ⟨_, ⟨_, rfl, ⟨fun hh => Bool.noConfusion hh, fun hh => absurd (swapO_iff.1 (hh.resolve_left h170)).1 h174⟩, H.sel [1, 0, 2, 3, 4, 5, 6, 7, 8, 9] rfl rfl⟩, F.to (by repeat (first | exact trivial | refine Le.cons rfl ?_))⟩
       clear F H
       intro ups a w hI F
       obtain ⟨wb, rfl, hwb, H⟩ := hI
       refine wp_block ?_
       refine cSeq (fun K28 hK28 => ?_)
       refine cReg ?_
       refine sFa (f := 0) (k := 0) Tryd.underlying50 rfl Tryd.sizeOf5 rfl rfl F rfl rfl rfl ?_;clear F a;intro a F
       refine sLd Tryd.isAgg5 F rfl rfl rfl (H.cell 2 rfl rfl) ?_;clear F a;intro a F
       refine sCv Tryd.underlying5 Tryd.underlying3 F rfl rfl rfl (wrapB _) ?_;clear F a;intro a F
       refine sMv F rfl rfl rfl ?_;clear F a;intro a F
       refine sBin F rfl rfl rfl rfl bEql ?_;clear F a;intro a F
       refine sMv F rfl rfl rfl ?_;clear F a;intro a F
       refine F.split 186 rfl ?_ ?_ <;> (clear F; intro h186 F)
       ·
        replace h186 := beqT h186
        have hxt : x.t.toNat = t := by omega
        rw [hxt] at hE eX
        refine sFa (f := 0) (k := 0) Tryd.underlying58 rfl Tryd.sizeOf5 rfl rfl F rfl rfl rfl ?_;clear F a;intro a F
        refine sLd Tryd.isAgg5 F rfl rfl rfl (H.cell 1 rfl rfl) ?_;clear F a;intro a F
        refine sBin F rfl rfl rfl rfl (bEqlB (y := 2)) ?_;clear F a;intro a F
        refine sPk F rfl rfl rfl rfl ?_;clear F a;intro a F
        refine sAs F rfl rfl rfl ?_;clear F a;intro a F
        refine sNil ?_
        refine hK28 _ _ ?_; clear hK28
        refine cIf F rfl (fun h180 => ?_) (fun h180 => ?_)
        ·
         replace h180 := beqT h180
         have hlo6 := hloc6 (.inl h180)
         have hns : ¬ swapO i.op := fun hh => by
          rcases hh with hh | hh | hh <;> rw [h180] at hh <;> exact absurd hh (by decide)
         have hM : OrdCase p mc s x t (pl2 ++ [(i.loc, valA i (cut s (t * 9)))]) oth (put last i.loc.toNat (valA i (cut s (t * 9)))) := .inr ⟨.inr (.inr ⟨l, i, hE0, eX0, hns⟩), by rw [eX]; exact hord.ownStore hE h180⟩
         refine cSeq (fun K29 hK29 => ?_)
         refine cRegRO (by kernel_rfl) H ?_
         replace H := H.drew
         refine eTakeF (k := 0) (i := 0) rfl (by kernel_rfl) F rfl rfl rfl (fun w => rFa (f := 3) (k := 3) Tryd.underlying58 rfl Tryd.sizeOf56 rfl rfl F rfl) (H.sel [0, 1, 2, 3, 4, 5, 6, 7, 8, 9] rfl rfl) (fun _ _ _ h => h) ?_;clear F a;intro a F
         refine eTake (k := 1) (i := 1) rfl (by kernel_rfl) F rfl rfl rfl rfl (fun w H => rLr Tryd.underlying56 rfl ?si F rfl (H.range 1 rfl _ 2)) (H.sel [0, 1, 2, 3, 4, 5, 6, 7, 8, 9] rfl rfl) (fun _ _ _ h => h) ?_
         case si => exact info_size Tryd.sizeOf56
         clear F a; intro a F
         refine eTakeF (k := 2) (i := 2) rfl (by kernel_rfl) F rfl rfl rfl (fun w => rMv F rfl) (H.sel [0, 1, 2, 3, 4, 5, 6, 7, 8, 9] rfl rfl) (fun _ _ _ h => h) ?_;clear F a;intro a F
         refine eTakeF (k := 3) (i := 3) rfl (by kernel_rfl) F rfl rfl rfl (fun w => rFa (f := 0) (k := 0) Tryd.underlying41 rfl Tryd.sizeOf33 rfl rfl F rfl) (H.sel [0, 1, 2, 3, 4, 5, 6, 7, 8, 9] rfl rfl) (fun _ _ _ h => h) ?_;clear F a;intro a F
         refine eTakeF (k := 4) (i := 4) rfl (by kernel_rfl) F rfl rfl rfl (fun w => rIaZ Tryd.underlying33 Tryd.sizeOf32 F rfl rfl ?_) (H.sel [0, 1, 2, 3, 4, 5, 6, 7, 8, 9] rfl rfl) (fun _ _ _ h => h) ?_
         focus (first | omega | decide | (simp; omega))
         clear F a; intro a F
         refine eTakeF (k := 5) (i := 5) rfl (by kernel_rfl) F rfl rfl rfl (fun w => rFa (f := 1) (k := _ + 1) Tryd.underlying32 rfl Tryd.sizeOf30 rfl rfl F rfl) (H.sel [0, 1, 2, 3, 4, 5, 6, 7, 8, 9] rfl rfl) (fun _ _ _ h => h) ?_;clear F a;intro a F
         refine eTake (k := 6) (i := 6) rfl (by kernel_rfl) F rfl rfl rfl rfl (fun w H => rLrB Tryd.underlying30 rfl Tryd.sizeOf30 F rfl (H.rangeB 6 _ 8 rfl (by omega))) (H.sel [0, 1, 2, 3, 4, 5, 6, 7, 8, 9] rfl rfl) (fun _ _ _ h => h) ?_;clear F a;intro a F
         refine eOne (k := 7) (i := 7) rfl (by kernel_rfl) F rfl (oCall Tryd.call16 F rfl rfl (worth_any i.aR i.aN (cut s (t * 9 + 1)) _) ?_)
         rintro e w ⟨rfl, hb⟩
         replace H := H.grow hb; clear hb
         refine ⟨_, rfl, ?_⟩
         clear F a; intro a F
         refine ePartO (by kernel_rfl) H ?_
         refine eTakeF (k := 8) (i := 8) rfl (by kernel_rfl) F rfl rfl rfl (fun w => rAs F rfl) (H.sel [0, 1, 2, 3, 4, 5, 6, 7, 8, 9] rfl rfl) (fun _ _ _ h => h) ?_;clear F a;intro a F
         refine eNil (k := 9) (by kernel_rfl) ?_
         refine hK29 _ _ ?_; clear hK29
         refine cSeq (fun K30 hK30 => ?_)
         refine cReg ?_
         refine sMv F rfl rfl rfl ?_;clear F a;intro a F
         refine sFa (f := 2) (k := 2) Tryd.underlying58 rfl Tryd.sizeOf5 rfl rfl F rfl rfl rfl ?_;clear F a;intro a F
         refine sLd Tryd.isAgg5 F rfl rfl rfl (H.cell 1 rfl rfl) ?_;clear F a;intro a F
         refine sMv F rfl rfl rfl ?_;clear F a;intro a F
         refine sBdB (places := [(0, 1), (1, 1)]) zB36 Tryd.underlying36 (by kernel_rfl) F rfl rfl rfl (FillB.one rfl rfl (FillB.one rfl rfl FillB.nil)) ?_;clear F a;intro a F
         refine sBsA H Tryd.underlying68 Tryd.sizeOf36 Tryd.zeroValue36 rfl F rfl rfl rfl rfl rfl ?_
         clear F a H; intro b204 a w F H
         refine sWin (bytes := 2) (sz := 2) (news := [[Go.Proofs.YtjephfjnohgcbaaDoor.b8 i.loc, Go.Proofs.YtjephfjnohgcbaaDoor.b8 (worthP i.aR i.aN (cut s (t * 9 + 1)))]]) H 1 Tryd.underlying68 Tryd.typeInfo36 rfl rfl rfl rfl rfl rfl F rfl rfl rfl rfl rfl (by first | rfl | (simp; done) | (simp; omega)) (range_news (H.whole 0 rfl)) ((by simp)) ((by simp [Go.Proofs.YtjephfjnohgcbaaDoor.b8, Value.oneCell'])) ((by rw [stR_len]; omega)) ?_
         clear F a H; intro A205 c205 a w F H
         refine sAs F rfl rfl rfl ?_;clear F a;intro a F
         refine sNil ?_
         refine hK30 _ _ ?_; clear hK30
         refine cRegRO (by kernel_rfl) (H.sel [2] rfl rfl) ?_
         replace H := H.drew
         refine eTakeF (k := 0) (i := 0) rfl (by kernel_rfl) F rfl rfl rfl (fun w => rFa (f := 2) (k := 2) Tryd.underlying58 rfl Tryd.sizeOf5 rfl rfl F rfl) (H.sel [2] rfl rfl) (fun _ _ _ h => h) ?_;clear F a;intro a F
         refine eTake (k := 1) (i := 1) rfl (by kernel_rfl) F rfl rfl rfl rfl (fun w H => rLd Tryd.isAgg5 F rfl (H.cell 0 rfl rfl)) (H.sel [2] rfl rfl) (fun _ _ _ h => h) ?_;clear F a;intro a F
         refine eTakeF (k := 2) (i := 2) rfl (by kernel_rfl) F rfl rfl rfl (fun w => rFa (f := 2) (k := 2) Tryd.underlying58 rfl Tryd.sizeOf5 rfl rfl F rfl) (H.sel [2] rfl rfl) (fun _ _ _ h => h) ?_;clear F a;intro a F
         refine eTake (k := 3) (i := 3) rfl (by kernel_rfl) F rfl rfl rfl rfl (fun w H => rLd Tryd.isAgg5 F rfl (H.cell 0 rfl rfl)) (H.sel [2] rfl rfl) (fun _ _ _ h => h) ?_;clear F a;intro a F
         refine eTakeF (k := 4) (i := 4) rfl (by kernel_rfl) F rfl rfl rfl (fun w => rMv F rfl) (H.sel [2] rfl rfl) (fun _ _ _ h => h) ?_;clear F a;intro a F
         refine eTakeF (k := 5) (i := 5) rfl (by kernel_rfl) F rfl rfl rfl (fun w => rIaZ1 Tryd.underlying69 Tryd.sizeOf4 F rfl rfl ?_) (H.sel [2] rfl rfl) (fun _ _ _ h => h) ?_
         focus exact hloc6 (.inl h180)
         clear F a; intro a F
         refine eOne (k := 6) (i := 6) rfl (by kernel_rfl) F rfl (oSt H 6 Tryd.sizeOf4 F rfl rfl rfl rfl (bl6_at (hloc6 (.inl h180))) ?_)
         clear H; intro w H
         rw [bl6_set (hloc6 (.inl h180))] at H
         refine eKeep (H.sel [2] rfl rfl) ?_
         refine eTakeF (k := 7) (i := 7) rfl (by kernel_rfl) F rfl rfl rfl (fun w => rIaZ1 Tryd.underlying34 Tryd.sizeOf5 F rfl rfl ?_) (H.sel [2] rfl rfl) (fun _ _ _ h => h) ?_
         focus exact hloc6 (.inl h180)
         clear F a; intro a F
         refine eOne (k := 8) (i := 8) rfl (by kernel_rfl) F rfl (oStB H 4 Tryd.sizeOf5 F rfl rfl rfl (by omega) ?_)
         clear H; intro w H
         refine ePartO (by kernel_rfl) H ?_
         refine eNil (k := 9) (by kernel_rfl) ?_
         first
         | (rw [stR_add, valA_cut, stR_len] at H
            rw [stR_add, valA_cut, stR_len] at F
            exact ⟨_, ⟨_, _, _, _, _, _, rfl, by rw [List.length_append]; exact Nat.succ_le_succ hpl2, hM, H.sel [1, 3, 4, 5, 6, 7, 8, 9, 10] rfl rfl⟩, F.to (by repeat (first | exact trivial | refine Le.cons rfl ?_))⟩)
         | exact ⟨_, ⟨_, _, _, _, _, _, rfl, Nat.le_succ_of_le hpl2, hM, H.sel [1, 3, 4, 5, 6, 7, 8, 9, 10] rfl rfl⟩, F.to (by repeat (first | exact trivial | refine Le.cons rfl ?_))⟩
        ·
         replace h180 := beqF h180
         refine cSeq (fun K31 hK31 => ?_)
         refine cReg ?_
         refine sMv F rfl rfl rfl ?_;clear F a;intro a F
         refine sMv F rfl rfl rfl ?_;clear F a;intro a F
         refine F.split 215 rfl ?_ ?_ <;> (clear F; intro h215 F)
         ·
          refine sFa (f := 0) (k := 0) Tryd.underlying50 rfl Tryd.sizeOf5 rfl rfl F rfl rfl rfl ?_;clear F a;intro a F
          refine sLd Tryd.isAgg5 F rfl rfl rfl (H.cell 2 rfl rfl) ?_;clear F a;intro a F
          refine sCv Tryd.underlying5 Tryd.underlying3 F rfl rfl rfl (wrapB _) ?_;clear F a;intro a F
          refine sMv F rfl rfl rfl ?_;clear F a;intro a F
          refine sBin F rfl rfl rfl rfl bNeq ?_;clear F a;intro a F
          refine sPk F rfl rfl rfl rfl ?_;clear F a;intro a F
          refine sAs F rfl rfl rfl ?_;clear F a;intro a F
          refine sNil ?_
          refine hK31 _ _ ?_; clear hK31
          refine cIf F rfl (fun h213 => ?_) (fun h213 => ?_)
          ·
           replace h213 := bneT h213
           have hne : x.t.toNat ≠ t := fun hh => h213 (congrArg (fun n : Nat => (n : Int)) hh)
           have hM : OrdCase p mc s x t pl2 (putB oth i.loc.toNat) last := .inr ⟨.inr (.inl hne), by rw [eX0]; exact hord.far hE0 hne⟩
           refine cReg ?_
           refine sFa (f := 2) (k := 2) Tryd.underlying58 rfl Tryd.sizeOf5 rfl rfl F rfl rfl rfl ?_;clear F a;intro a F
           refine sLd Tryd.isAgg5 F rfl rfl rfl (H.cell 1 rfl rfl) ?_;clear F a;intro a F
           refine sIaZ1 Tryd.underlying69 Tryd.sizeOf4 F rfl rfl rfl rfl ?_ ?_
           focus exact hloc6 (hwb.1 h215)
           clear F a; intro a F
           refine sSt H 4 Tryd.sizeOf4 F rfl rfl rfl rfl rfl (bl6_at (hloc6 (hwb.1 h215))) ?_
           clear H; intro w H
           rw [bl6_set (hloc6 (hwb.1 h215))] at H
           refine sNil ?_
           first
           | (rw [stR_add, valA_cut, stR_len] at H
              rw [stR_add, valA_cut, stR_len] at F
              exact ⟨_, ⟨_, _, _, _, _, _, rfl, by rw [List.length_append]; exact Nat.succ_le_succ hpl2, hM, H.sel [0, 2, 3, 4, 5, 6, 7, 8, 9] rfl rfl⟩, F.to (by repeat (first | exact trivial | refine Le.cons rfl ?_))⟩)
           | exact ⟨_, ⟨_, _, _, _, _, _, rfl, Nat.le_succ_of_le hpl2, hM, H.sel [0, 2, 3, 4, 5, 6, 7, 8, 9] rfl rfl⟩, F.to (by repeat (first | exact trivial | refine Le.cons rfl ?_))⟩
          ·
           replace h213 := bneF h213
           have hM : OrdCase p mc s x t pl2 oth last := by
            first
            | exact absurd h213 h186
            | exact .inl ⟨h152, hxt, ⟨l, i, hE0, eX0, (hwb.1 h215).resolve_left h180⟩, hord⟩
           refine wp_skip ?_
           first
           | (rw [stR_add, valA_cut, stR_len] at H
              rw [stR_add, valA_cut, stR_len] at F
              exact ⟨_, ⟨_, _, _, _, _, _, rfl, by rw [List.length_append]; exact Nat.succ_le_succ hpl2, hM, H.sel [0, 2, 3, 4, 5, 6, 7, 8, 9] rfl rfl⟩, F.to (by repeat (first | exact trivial | refine Le.cons rfl ?_))⟩)
           | exact ⟨_, ⟨_, _, _, _, _, _, rfl, Nat.le_succ_of_le hpl2, hM, H.sel [0, 2, 3, 4, 5, 6, 7, 8, 9] rfl rfl⟩, F.to (by repeat (first | exact trivial | refine Le.cons rfl ?_))⟩
         ·
          have hnw : ¬ (i.op = 2 ∨ swapO i.op) := fun hh => Bool.noConfusion ((hwb.2 hh).symm.trans h215)
          have hM : OrdCase p mc s x t pl2 oth last := .inr ⟨.inr (.inr ⟨l, i, hE0, eX0, fun hh => hnw (.inr hh)⟩), by
           rw [eX0]
           refine hord.still hE0 (fun hh => hnw (.inl hh.1)) (fun hh => hnw ?_)
           rcases hh with hh | hh
           · exact .inl hh.1
           · exact .inr hh⟩
          refine sSk F rfl rfl ?_;clear F a;intro a F
          refine sSk F rfl rfl ?_;clear F a;intro a F
          refine sSk F rfl rfl ?_;clear F a;intro a F
          refine sSk F rfl rfl ?_;clear F a;intro a F
          refine sSk F rfl rfl ?_;clear F a;intro a F
          refine sPk F rfl rfl rfl rfl ?_;clear F a;intro a F
          refine sAs F rfl rfl rfl ?_;clear F a;intro a F
          refine sNil ?_
          refine hK31 _ _ ?_; clear hK31
          refine cIfF F rfl ?_
          refine wp_skip ?_
          first
          | (rw [stR_add, valA_cut, stR_len] at H
             rw [stR_add, valA_cut, stR_len] at F
             exact ⟨_, ⟨_, _, _, _, _, _, rfl, by rw [List.length_append]; exact Nat.succ_le_succ hpl2, hM, H.sel [0, 2, 3, 4, 5, 6, 7, 8, 9] rfl rfl⟩, F.to (by repeat (first | exact trivial | refine Le.cons rfl ?_))⟩)
          | exact ⟨_, ⟨_, _, _, _, _, _, rfl, Nat.le_succ_of_le hpl2, hM, H.sel [0, 2, 3, 4, 5, 6, 7, 8, 9] rfl rfl⟩, F.to (by repeat (first | exact trivial | refine Le.cons rfl ?_))⟩
       ·
        replace h186 := beqF h186
        refine sSk F rfl rfl ?_;clear F a;intro a F
        refine sSk F rfl rfl ?_;clear F a;intro a F
        refine sSk F rfl rfl ?_;clear F a;intro a F
        refine sPk F rfl rfl rfl rfl ?_;clear F a;intro a F
        refine sAs F rfl rfl rfl ?_;clear F a;intro a F
        refine sNil ?_
        refine hK28 _ _ ?_; clear hK28
        refine cIfF F rfl ?_
        refine cSeq (fun K32 hK32 => ?_)
        refine cReg ?_
        refine sMv F rfl rfl rfl ?_;clear F a;intro a F
        refine sMv F rfl rfl rfl ?_;clear F a;intro a F
        refine F.split 215 rfl ?_ ?_ <;> (clear F; intro h215 F)
        ·
         refine sFa (f := 0) (k := 0) Tryd.underlying50 rfl Tryd.sizeOf5 rfl rfl F rfl rfl rfl ?_;clear F a;intro a F
         refine sLd Tryd.isAgg5 F rfl rfl rfl (H.cell 2 rfl rfl) ?_;clear F a;intro a F
         refine sCv Tryd.underlying5 Tryd.underlying3 F rfl rfl rfl (wrapB _) ?_;clear F a;intro a F
         refine sMv F rfl rfl rfl ?_;clear F a;intro a F
         refine sBin F rfl rfl rfl rfl bNeq ?_;clear F a;intro a F
         refine sPk F rfl rfl rfl rfl ?_;clear F a;intro a F
         refine sAs F rfl rfl rfl ?_;clear F a;intro a F
         refine sNil ?_
         refine hK32 _ _ ?_; clear hK32
         refine cIf F rfl (fun h213 => ?_) (fun h213 => ?_)
         ·
          replace h213 := bneT h213
          have hne : x.t.toNat ≠ t := fun hh => h213 (congrArg (fun n : Nat => (n : Int)) hh)
          have hM : OrdCase p mc s x t pl2 (putB oth i.loc.toNat) last := .inr ⟨.inr (.inl hne), by rw [eX0]; exact hord.far hE0 hne⟩
          refine cReg ?_
          refine sFa (f := 2) (k := 2) Tryd.underlying58 rfl Tryd.sizeOf5 rfl rfl F rfl rfl rfl ?_;clear F a;intro a F
          refine sLd Tryd.isAgg5 F rfl rfl rfl (H.cell 1 rfl rfl) ?_;clear F a;intro a F
          refine sIaZ1 Tryd.underlying69 Tryd.sizeOf4 F rfl rfl rfl rfl ?_ ?_
          focus exact hloc6 (hwb.1 h215)
          clear F a; intro a F
          refine sSt H 4 Tryd.sizeOf4 F rfl rfl rfl rfl rfl (bl6_at (hloc6 (hwb.1 h215))) ?_
          clear H; intro w H
          rw [bl6_set (hloc6 (hwb.1 h215))] at H
          refine sNil ?_
          first
          | (rw [stR_add, valA_cut, stR_len] at H
             rw [stR_add, valA_cut, stR_len] at F
             exact ⟨_, ⟨_, _, _, _, _, _, rfl, by rw [List.length_append]; exact Nat.succ_le_succ hpl2, hM, H.sel [0, 2, 3, 4, 5, 6, 7, 8, 9] rfl rfl⟩, F.to (by repeat (first | exact trivial | refine Le.cons rfl ?_))⟩)
          | exact ⟨_, ⟨_, _, _, _, _, _, rfl, Nat.le_succ_of_le hpl2, hM, H.sel [0, 2, 3, 4, 5, 6, 7, 8, 9] rfl rfl⟩, F.to (by repeat (first | exact trivial | refine Le.cons rfl ?_))⟩
         ·
          replace h213 := bneF h213
          have hM : OrdCase p mc s x t pl2 oth last := by
           first
           | exact absurd h213 h186
           | exact .inl ⟨h152, hxt, ⟨l, i, hE0, eX0, (hwb.1 h215).resolve_left h180⟩, hord⟩
          refine wp_skip ?_
          first
          | (rw [stR_add, valA_cut, stR_len] at H
             rw [stR_add, valA_cut, stR_len] at F
             exact ⟨_, ⟨_, _, _, _, _, _, rfl, by rw [List.length_append]; exact Nat.succ_le_succ hpl2, hM, H.sel [0, 2, 3, 4, 5, 6, 7, 8, 9] rfl rfl⟩, F.to (by repeat (first | exact trivial | refine Le.cons rfl ?_))⟩)
          | exact ⟨_, ⟨_, _, _, _, _, _, rfl, Nat.le_succ_of_le hpl2, hM, H.sel [0, 2, 3, 4, 5, 6, 7, 8, 9] rfl rfl⟩, F.to (by repeat (first | exact trivial | refine Le.cons rfl ?_))⟩
        ·
         have hnw : ¬ (i.op = 2 ∨ swapO i.op) := fun hh => Bool.noConfusion ((hwb.2 hh).symm.trans h215)
         have hM : OrdCase p mc s x t pl2 oth last := .inr ⟨.inr (.inr ⟨l, i, hE0, eX0, fun hh => hnw (.inr hh)⟩), by
          rw [eX0]
          refine hord.still hE0 (fun hh => hnw (.inl hh.1)) (fun hh => hnw ?_)
          rcases hh with hh | hh
          · exact .inl hh.1
          · exact .inr hh⟩
         refine sSk F rfl rfl ?_;clear F a;intro a F
         refine sSk F rfl rfl ?_;clear F a;intro a F
         refine sSk F rfl rfl ?_;clear F a;intro a F
         refine sSk F rfl rfl ?_;clear F a;intro a F
         refine sSk F rfl rfl ?_;clear F a;intro a F
         refine sPk F rfl rfl rfl rfl ?_;clear F a;intro a F
         refine sAs F rfl rfl rfl ?_;clear F a;intro a F
         refine sNil ?_
         refine hK32 _ _ ?_; clear hK32
         refine cIfF F rfl ?_
         refine wp_skip ?_
         first
         | (rw [stR_add, valA_cut, stR_len] at H
            rw [stR_add, valA_cut, stR_len] at F
            exact ⟨_, ⟨_, _, _, _, _, _, rfl, by rw [List.length_append]; exact Nat.succ_le_succ hpl2, hM, H.sel [0, 2, 3, 4, 5, 6, 7, 8, 9] rfl rfl⟩, F.to (by repeat (first | exact trivial | refine Le.cons rfl ?_))⟩)
         | exact ⟨_, ⟨_, _, _, _, _, _, rfl, Nat.le_succ_of_le hpl2, hM, H.sel [0, 2, 3, 4, 5, 6, 7, 8, 9] rfl rfl⟩, F.to (by repeat (first | exact trivial | refine Le.cons rfl ?_))⟩
      ·
       replace h152 := notF h152
       have hM : OrdCase p mc s x t pl2 oth last := .inr ⟨.inl h152, by
        by_cases hxt : x.t.toNat = t
        · exact hd1 ⟨h152, hxt⟩
        · obtain rfl := hd2 (fun hh => hxt hh.2)
          obtain ⟨ad, hD, _, eD⟩ := ord_isDrain hr hxm h152
          rw [eD]; exact hord.farDrain hD hxt⟩
       refine wp_skip ?_
       first
       | (rw [stR_add, valA_cut, stR_len] at H
          rw [stR_add, valA_cut, stR_len] at F
          exact ⟨_, ⟨_, _, _, _, _, _, rfl, by rw [List.length_append]; exact Nat.succ_le_succ hpl2, hM, H.sel [0, 1, 2, 3, 4, 5, 6, 7, 8] rfl rfl⟩, F.to (by repeat (first | exact trivial | refine Le.cons rfl ?_))⟩)
       | exact ⟨_, ⟨_, _, _, _, _, _, rfl, Nat.le_succ_of_le hpl2, hM, H.sel [0, 1, 2, 3, 4, 5, 6, 7, 8] rfl rfl⟩, F.to (by repeat (first | exact trivial | refine Le.cons rfl ?_))⟩
     clear F H
     intro ups a w hI F
     obtain ⟨pl3, mine3, oth3, last3, A3, k3, rfl, hpl3, hcase, H⟩ := hI
     refine cSeq (fun K33 hK33 => ?_)
     refine cReg ?_
     refine sLr Tryd.underlying29 rfl ?si F rfl rfl rfl (H.whole 8 rfl) ?_
     case si => exact info_size Tryd.sizeOf29
     clear F a; intro a F
     refine sMv F rfl rfl rfl ?_;clear F a;intro a F
     refine sLrB Tryd.underlying41 rfl Tryd.sizeOf41 F rfl rfl rfl (H.whole 5 rfl) ?_;clear F a;intro a F
     refine sLr Tryd.underlying50 rfl ?si F rfl rfl rfl (H.whole 1 rfl) ?_
     case si => exact info_size Tryd.sizeOf50
     clear F a; intro a F
     refine sCall Tryd.call13 F rfl rfl rfl ((by have := moveM_any _ p _ (hP0.own H) (hN.own H) mc s x; rw [eS1, eE1] at this; exact this)) ?_
     rintro e w ⟨rfl, hb⟩
     replace H := H.grow hb; clear hb
     refine ⟨_, rfl, ?_⟩
     clear F a; intro a F
     refine sMv F rfl rfl rfl ?_;clear F a;intro a F
     refine sExt F rfl rfl rfl rfl ?_;clear F a;intro a F
     refine sExt F rfl rfl rfl rfl ?_;clear F a;intro a F
     refine sAlB H zB41 F rfl rfl ?_
     clear F a H; intro b28 a w F H
     refine sSrB H 0 Tryd.sizeOf41 F rfl rfl rfl rfl (by omega) ?_
     clear H; intro w H
     rw [lay_all] at H
     refine sAs F rfl rfl rfl ?_;clear F a;intro a F
     refine sNil ?_
     refine hK33 _ _ ?_; clear hK33
     refine cSeq (fun K34 hK34 => ?_)
     refine cSeq (fun K35 hK35 => ?_)
     refine cReg ?_
     refine sMv F rfl rfl rfl ?_;clear F a;intro a F
     refine sBin F rfl rfl rfl rfl bNeq ?_;clear F a;intro a F
     refine sNil ?_
     refine hK35 _ _ ?_; clear hK35
     refine cIf F rfl (fun h234 => ?_) (fun h234 => ?_)
     ·
      replace h234 := bneT h234
      exact absurd rfl h234
     ·
      replace h234 := bneF h234
      refine wp_skip ?_
      refine hK34 _ _ ?_; clear hK34
      refine cSeqJ [1, 4, 9, 10, 13, 15, 16, 17, 18, 19, 28, 75, 76, 77] (fun ups w => ∃ (last4 : By), ups = [] ∧ OrdI p mc (stepM p mc s x) t pl3 oth3 last4 ∧ Own w0 none w [.win 36 2 (.slice A3 pl3.length k3) (stR pl3), .blk b28 (bs 142 (stepM p mc s x)) 41, .blk b21 x.cells 50, .blk b19 (bs 6 last4) 34, .blk b18 (bl6 oth3) 69, .blk b17 (bl6 mine3) 69, .blk b13 (bs 142 s) 41, .blk b10 (bs 38 (finalP zf)) 64, .rws 50 3 (.slice (some ⟨bL, oL, none⟩) r.length c) (r.map Pss.cells), .blk b4 ([.string p.name, .slice LA p.locs.length LC, .slice IA p.init.length IC, .slice TA p.threads.length TC, Go.Proofs.YtjephfjnohgcbaaDoor.b8 p.ask] ++ [c1, c2, c3, c4, c5]) 29]) F (by repeat (first | exact SubR.nil | (apply SubR.cons; · rfl))) ?_ ?_
      ·
       refine cSeq (fun K36 hK36 => ?_)
       refine cReg ?_
       refine sFa (f := 1) (k := 1) Tryd.underlying50 rfl Tryd.sizeOf4 rfl rfl F rfl rfl rfl ?_;clear F a;intro a F
       refine sLd Tryd.isAgg4 F rfl rfl rfl (H.cell 2 rfl rfl) ?_;clear F a;intro a F
       refine sNot F rfl rfl rfl ?_;clear F a;intro a F
       refine sMv F rfl rfl rfl ?_;clear F a;intro a F
       refine F.split 238 rfl ?_ ?_ <;> (clear F; intro h238 F)
       ·
        replace h238 := notT h238
        refine sFa (f := 0) (k := 0) Tryd.underlying50 rfl Tryd.sizeOf5 rfl rfl F rfl rfl rfl ?_;clear F a;intro a F
        refine sLd Tryd.isAgg5 F rfl rfl rfl (H.cell 2 rfl rfl) ?_;clear F a;intro a F
        refine sCv Tryd.underlying5 Tryd.underlying3 F rfl rfl rfl (wrapB _) ?_;clear F a;intro a F
        refine sMv F rfl rfl rfl ?_;clear F a;intro a F
        refine sBin F rfl rfl rfl rfl bEql ?_;clear F a;intro a F
        refine sPk F rfl rfl rfl rfl ?_;clear F a;intro a F
        refine sNil ?_
        refine hK36 _ _ ?_; clear hK36
        refine cIf F rfl (fun h244 => ?_) (fun h244 => ?_)
        ·
         replace h244 := beqT h244
         have hxt : x.t.toNat = t := by omega
         obtain ⟨l, i, hE, eX, hc2⟩ := ord_case hcase h238 hxt
         obtain ⟨bT, oT, BT, CT, rfl, hT1, hT2, hT3⟩ := hp.threads t l hE.hl
         have hpcl : (s (t * 9)).toNat < l.length := hE.lt
         obtain ⟨bI, oI, rfl, hI⟩ := hT2 (s (t * 9)).toNat i.cells (by rw [List.getElem?_map, show l[(s (t * 9)).toNat]? = some i from hE.hx]; rfl)
         refine cSeq (fun K37 hK37 => ?_)
         refine cRegRO (by kernel_rfl) H ?_
         replace H := H.drew
         refine eTakeF (k := 0) (i := 0) rfl (by kernel_rfl) F rfl rfl rfl (fun w => rFa (f := 3) (k := 3) Tryd.underlying29 rfl Tryd.sizeOf24 rfl rfl F rfl) (H.sel [0, 1, 2, 3, 4, 5, 6, 7, 8, 9] rfl rfl) (fun _ _ _ h => h) ?_;clear F a;intro a F
         refine eTake (k := 1) (i := 1) rfl (by kernel_rfl) F rfl rfl rfl rfl (fun w H => rLd Tryd.isAgg24 F rfl (H.cell 9 rfl rfl)) (H.sel [0, 1, 2, 3, 4, 5, 6, 7, 8, 9] rfl rfl) (fun _ _ _ h => h) ?_;clear F a;intro a F
         refine eTakeF (k := 2) (i := 2) rfl (by kernel_rfl) F rfl rfl rfl (fun w => rMv F rfl) (H.sel [0, 1, 2, 3, 4, 5, 6, 7, 8, 9] rfl rfl) (fun _ _ _ h => h) ?_;clear F a;intro a F
         refine eTakeF (k := 3) (i := 3) rfl (by kernel_rfl) F rfl rfl rfl (fun w => rIx Tryd.underlying24 Tryd.sizeOf59 F rfl rfl ?_) (H.sel [0, 1, 2, 3, 4, 5, 6, 7, 8, 9] rfl rfl) (fun _ _ _ h => h) ?_
         focus exact htl
         clear F a; intro a F
         refine eTake (k := 4) (i := 4) rfl (by kernel_rfl) F rfl rfl rfl rfl (fun w H => rLd Tryd.isAgg59 F rfl (H.arg hT1)) (H.sel [0, 1, 2, 3, 4, 5, 6, 7, 8, 9] rfl rfl) (fun _ _ _ h => h) ?_;clear F a;intro a F
         refine eTakeF (k := 5) (i := 5) rfl (by kernel_rfl) F rfl rfl rfl (fun w => rMv F rfl) (H.sel [0, 1, 2, 3, 4, 5, 6, 7, 8, 9] rfl rfl) (fun _ _ _ h => h) ?_;clear F a;intro a F
         refine eTakeF (k := 6) (i := 6) rfl (by kernel_rfl) F rfl rfl rfl (fun w => rFa (f := 0) (k := 0) Tryd.underlying41 rfl Tryd.sizeOf33 rfl rfl F rfl) (H.sel [0, 1, 2, 3, 4, 5, 6, 7, 8, 9] rfl rfl) (fun _ _ _ h => h) ?_;clear F a;intro a F
         refine eTakeF (k := 7) (i := 7) rfl (by kernel_rfl) F rfl rfl rfl (fun w => rIaZ Tryd.underlying33 Tryd.sizeOf32 F rfl rfl ?_) (H.sel [0, 1, 2, 3, 4, 5, 6, 7, 8, 9] rfl rfl) (fun _ _ _ h => h) ?_
         focus (first | omega | decide | (simp; omega))
         clear F a; intro a F
         refine eTakeF (k := 8) (i := 8) rfl (by kernel_rfl) F rfl rfl rfl (fun w => rFaZ (f := 0) Tryd.underlying32 rfl Tryd.sizeOf5 rfl rfl F rfl) (H.sel [0, 1, 2, 3, 4, 5, 6, 7, 8, 9] rfl rfl) (fun _ _ _ h => h) ?_;clear F a;intro a F
         refine eTake (k := 9) (i := 9) rfl (by kernel_rfl) F rfl rfl rfl rfl (fun w H => rLd Tryd.isAgg5 F rfl (H.cellB 6 rfl (by omega))) (H.sel [0, 1, 2, 3, 4, 5, 6, 7, 8, 9] rfl rfl) (fun _ _ _ h => h) ?_;clear F a;intro a F
         refine eTakeF (k := 10) (i := 10) rfl (by kernel_rfl) F rfl rfl rfl (fun w => rIx Tryd.underlying59 Tryd.sizeOf58 F rfl rfl ?_) (H.sel [0, 1, 2, 3, 4, 5, 6, 7, 8, 9] rfl rfl) (fun _ _ _ h => h) ?_
         focus exact hpcl
         clear F a; intro a F
         refine eTake (k := 11) (i := 11) rfl (by kernel_rfl) F rfl rfl rfl rfl (fun w H => rLr Tryd.underlying58 rfl ?si F rfl (H.argR hI)) (H.sel [0, 1, 2, 3, 4, 5, 6, 7, 8, 9] rfl rfl) (fun _ _ _ h => h) ?_
         case si => exact info_size Tryd.sizeOf58
         clear F a; intro a F
         refine eOne (k := 12) (i := 12) rfl (by kernel_rfl) F rfl (oAl H Tryd.zeroValue58 F rfl ?_)
         clear F a H; intro b30 a w F H
         refine eKeep (H.sel [1, 2, 3, 4, 5, 6, 7, 8, 9, 10] rfl rfl) ?_
         refine eOne (k := 13) (i := 13) rfl (by kernel_rfl) F rfl (oSr H 0 ?si F rfl rfl ?s1 rfl rfl ?_)
         case si => exact info_size Tryd.sizeOf58
         case s1 => first | rfl | (repeat (first | exact one_nil | (apply one_cons; · first | rfl | assumption | exact one_bif rfl rfl)))
         clear H; intro w H
         refine ePartO (by kernel_rfl) H ?_
         refine eNil (k := 14) (by kernel_rfl) ?_
         refine hK37 _ _ ?_; clear hK37
         refine cSeq (fun K38 hK38 => ?_)
         refine cReg ?_
         refine sFa (f := 0) (k := 0) Tryd.underlying58 rfl Tryd.sizeOf5 rfl rfl F rfl rfl rfl ?_;clear F a;intro a F
         refine sLd Tryd.isAgg5 F rfl rfl rfl (H.cell 0 rfl rfl) ?_;clear F a;intro a F
         refine sBin F rfl rfl rfl rfl (bGeqB (y := 4)) ?_;clear F a;intro a F
         refine sMv F rfl rfl rfl ?_;clear F a;intro a F
         refine F.split 260 rfl ?_ ?_ <;> (clear F; intro h260 F)
         ·
          replace h260 := of_decide_eq_true h260
          refine sFa (f := 0) (k := 0) Tryd.underlying58 rfl Tryd.sizeOf5 rfl rfl F rfl rfl rfl ?_;clear F a;intro a F
          refine sLd Tryd.isAgg5 F rfl rfl rfl (H.cell 0 rfl rfl) ?_;clear F a;intro a F
          refine sBin F rfl rfl rfl rfl (bLeqB (y := 6)) ?_;clear F a;intro a F
          refine sPk F rfl rfl rfl rfl ?_;clear F a;intro a F
          refine sNil ?_
          refine hK38 _ _ ?_; clear hK38
          refine cIf F rfl (fun h264 => ?_) (fun h264 => ?_)
          ·
           replace h264 := of_decide_eq_true h264
           have hsw : swapO i.op := swapO_iff.2 ⟨h260, h264⟩
           have hlo6 : i.loc.toNat < 6 := hE.loc6 (by rcases hsw with hh | hh | hh <;> simp [isLocal, hh])
           have hO4 : OrdI p mc (stepM p mc s x) t pl3 oth3 (put last3 i.loc.toNat (stepM p mc s x (36 + i.loc.toNat))) := by
            rw [eX]
            exact (hc2.resolve_right fun hh => hh.1 hsw).2.ownSwap hE hsw
           refine cRegRO (by kernel_rfl) H ?_
           replace H := H.drew
           refine eTakeF (k := 0) (i := 0) rfl (by kernel_rfl) F rfl rfl rfl (fun w => rFa (f := 2) (k := 2) Tryd.underlying58 rfl Tryd.sizeOf5 rfl rfl F rfl) (H.sel [0, 1, 2, 3, 4, 5, 6, 7, 8, 9, 10] rfl rfl) (fun _ _ _ h => h) ?_;clear F a;intro a F
           refine eTake (k := 1) (i := 1) rfl (by kernel_rfl) F rfl rfl rfl rfl (fun w H => rLd Tryd.isAgg5 F rfl (H.cell 0 rfl rfl)) (H.sel [0, 1, 2, 3, 4, 5, 6, 7, 8, 9, 10] rfl rfl) (fun _ _ _ h => h) ?_;clear F a;intro a F
           refine eTakeF (k := 2) (i := 2) rfl (by kernel_rfl) F rfl rfl rfl (fun w => rFa (f := 2) (k := 2) Tryd.underlying58 rfl Tryd.sizeOf5 rfl rfl F rfl) (H.sel [0, 1, 2, 3, 4, 5, 6, 7, 8, 9, 10] rfl rfl) (fun _ _ _ h => h) ?_;clear F a;intro a F
           refine eTake (k := 3) (i := 3) rfl (by kernel_rfl) F rfl rfl rfl rfl (fun w H => rLd Tryd.isAgg5 F rfl (H.cell 0 rfl rfl)) (H.sel [0, 1, 2, 3, 4, 5, 6, 7, 8, 9, 10] rfl rfl) (fun _ _ _ h => h) ?_;clear F a;intro a F
           refine eTakeF (k := 4) (i := 4) rfl (by kernel_rfl) F rfl rfl rfl (fun w => rFa (f := 1) (k := 36) Tryd.underlying41 rfl Tryd.sizeOf34 rfl rfl F rfl) (H.sel [0, 1, 2, 3, 4, 5, 6, 7, 8, 9, 10] rfl rfl) (fun _ _ _ h => h) ?_;clear F a;intro a F
           refine eTakeF (k := 5) (i := 5) rfl (by kernel_rfl) F rfl rfl rfl (fun w => rIa1 Tryd.underlying34 Tryd.sizeOf5 F rfl rfl ?_) (H.sel [0, 1, 2, 3, 4, 5, 6, 7, 8, 9, 10] rfl rfl) (fun _ _ _ h => h) ?_
           focus exact hlo6
           clear F a; intro a F
           refine eTake (k := 6) (i := 6) rfl (by kernel_rfl) F rfl rfl rfl rfl (fun w H => rLd Tryd.isAgg5 F rfl (H.cellB 1 rfl (by omega))) (H.sel [0, 1, 2, 3, 4, 5, 6, 7, 8, 9, 10] rfl rfl) (fun _ _ _ h => h) ?_;clear F a;intro a F
           refine eTakeF (k := 7) (i := 7) rfl (by kernel_rfl) F rfl rfl rfl (fun w => rIaZ1 Tryd.underlying34 Tryd.sizeOf5 F rfl rfl ?_) (H.sel [0, 1, 2, 3, 4, 5, 6, 7, 8, 9, 10] rfl rfl) (fun _ _ _ h => h) ?_
           focus exact hlo6
           clear F a; intro a F
           refine eOne (k := 8) (i := 8) rfl (by kernel_rfl) F rfl (oStB H 4 Tryd.sizeOf5 F rfl rfl rfl (by omega) ?_)
           clear H; intro w H
           refine ePartO (by kernel_rfl) H ?_
           refine eNil (k := 9) (by kernel_rfl) ?_
           exact ⟨_, ⟨_, rfl, hO4, H.sel [2, 1, 3, 4, 5, 6, 7, 8, 9, 10] rfl rfl⟩, F.to (by repeat (first | exact trivial | refine Le.cons rfl ?_))⟩
          ·
           replace h264 := of_decide_eq_false h264
           have hO4 := (hc2.resolve_left fun hh => h264 (swapO_iff.1 hh.1).2).2
           refine wp_skip ?_
           exact ⟨_, ⟨_, rfl, hO4, H.sel [2, 1, 3, 4, 5, 6, 7, 8, 9, 10] rfl rfl⟩, F.to (by repeat (first | exact trivial | refine Le.cons rfl ?_))⟩
         ·
          replace h260 := of_decide_eq_false h260
          have hO4 := (hc2.resolve_left fun hh => h260 (swapO_iff.1 hh.1).1).2
          refine sSk F rfl rfl ?_;clear F a;intro a F
          refine sSk F rfl rfl ?_;clear F a;intro a F
          refine sSk F rfl rfl ?_;clear F a;intro a F
          refine sPk F rfl rfl rfl rfl ?_;clear F a;intro a F
          refine sNil ?_
          refine hK38 _ _ ?_; clear hK38
          refine cIfF F rfl ?_
          refine wp_skip ?_
          exact ⟨_, ⟨_, rfl, hO4, H.sel [2, 1, 3, 4, 5, 6, 7, 8, 9, 10] rfl rfl⟩, F.to (by repeat (first | exact trivial | refine Le.cons rfl ?_))⟩
        ·
         replace h244 := beqF h244
         have hO4 := ord_caseT hcase (fun hh => h244 (congrArg (fun n : Nat => (n : Int)) hh))
         refine wp_skip ?_
         exact ⟨_, ⟨_, rfl, hO4, H.sel [1, 0, 2, 3, 4, 5, 6, 7, 8, 9] rfl rfl⟩, F.to (by repeat (first | exact trivial | refine Le.cons rfl ?_))⟩
       ·
        replace h238 := notF h238
        have hO4 := ord_caseD hcase h238
        refine sSk F rfl rfl ?_;clear F a;intro a F
        refine sSk F rfl rfl ?_;clear F a;intro a F
        refine sSk F rfl rfl ?_;clear F a;intro a F
        refine sSk F rfl rfl ?_;clear F a;intro a F
        refine sSk F rfl rfl ?_;clear F a;intro a F
        refine sPk F rfl rfl rfl rfl ?_;clear F a;intro a F
        refine sNil ?_
        refine hK36 _ _ ?_; clear hK36
        refine cIfF F rfl ?_
        refine wp_skip ?_
        exact ⟨_, ⟨_, rfl, hO4, H.sel [1, 0, 2, 3, 4, 5, 6, 7, 8, 9] rfl rfl⟩, F.to (by repeat (first | exact trivial | refine Le.cons rfl ?_))⟩
      clear F H
      intro ups a w hI F
      obtain ⟨last4, rfl, hO5, H⟩ := hI
      refine cReg ?_
      refine sLrB Tryd.underlying41 rfl Tryd.sizeOf41 F rfl rfl rfl (H.whole 1 rfl) ?_;clear F a;intro a F
      refine sSrB H 6 Tryd.sizeOf41 F rfl rfl rfl rfl (by omega) ?_
      clear H; intro w H
      rw [lay_all] at H
      refine sNil ?_
      refine hK17 _ _ ?_; clear hK17
      refine cReg ?_
      refine sBin F rfl rfl rfl rfl (bAddN (j := 1) ?_) ?_
      focus omega
      clear F a; intro a F
      refine sMv F rfl rfl rfl ?_;clear F a;intro a F
      refine sNil ?_
      exact ⟨_, by omega, _, ⟨j + 1, stepM p mc s x, pl3, mine3, oth3, last4, A3, k3, rfl, rfl, by omega, hO5, hrest', by omega, H.sel [0, 3, 4, 5, 6, 7, 8, 9] rfl rfl⟩, F.to (by repeat (first | exact trivial | refine Le.cons rfl ?_))⟩
    ·
     replace h78 := of_decide_eq_false h78
     obtain rfl : j = r.length := by omega
     rw [List.drop_length] at hrest
     obtain rfl := hrest.nil
     obtain ⟨hpl0, hlast⟩ := hord.over ((over_of hrz hz).1 t ht4)
     refine wp_exit ?_
     refine hK13 _ _ ?_; clear hK13
     refine cSeq (fun K39 hK39 => ?_)
     refine cSeq (fun K40 hK40 => ?_)
     refine cReg ?_
     refine sFa (f := 1) (k := 1) Tryd.underlying29 rfl Tryd.sizeOf22 rfl rfl F rfl rfl rfl ?_;clear F a;intro a F
     refine sLd Tryd.isAgg22 F rfl rfl rfl (H.cell 7 rfl rfl) ?_;clear F a;intro a F
     refine sLen Tryd.underlying22 F rfl rfl rfl ?_;clear F a;intro a F
     refine sMv F rfl rfl rfl ?_;clear F a;intro a F
     refine sNil ?_
     refine hK40 _ _ ?_; clear hK40
     refine wp_block ?_
     refine cLoopR [10, 16, 17, 18, 19, 277] (fun m ups w => ∃ (k : Nat), m = p.locs.length - k ∧ ups = [(278, .int .i64 ((k : Nat) : Int))] ∧ k ≤ p.locs.length ∧ Own w0 none w [.win 36 2 (.slice A6 pl.length c6) (stR pl), .blk b19 (bs 6 last) 34, .blk b18 (bl6 oth) 69, .blk b17 (bl6 mine) 69, .blk b13 (bs 142 zf) 41, .blk b10 (bs 38 (finalP zf)) 64, .rws 50 3 (.slice A r.length c) (r.map Pss.cells), .blk b4 ([.string p.name, .slice LA p.locs.length LC, .slice IA p.init.length IC, .slice TA p.threads.length TC, Go.Proofs.YtjephfjnohgcbaaDoor.b8 p.ask] ++ [c1, c2, c3, c4, c5]) 29]) F (p.locs.length) [(278, .int .i64 ((0 : Nat) : Int))] (by repeat (first | exact SubR.nil | (apply SubR.cons; · rfl))) ?_ ?_ ?_
     · exact ⟨0, rfl, rfl, by omega, H.sel [0, 1, 2, 3, 4, 5, 6, 7] rfl rfl⟩
     · repeat (first | exact trivial | refine Le.cons rfl ?_)
     clear F
     clear H
     intro m ups a w hI F
     obtain ⟨k, rfl, rfl, hk2, H⟩ := hI
     refine cSeq (fun K41 hK41 => ?_)
     refine cReg ?_
     refine sBin F rfl rfl rfl rfl bLss ?_;clear F a;intro a F
     refine sNil ?_
     refine hK41 _ _ ?_; clear hK41
     refine cSeq (fun K42 hK42 => ?_)
     refine cIf F rfl (fun h279 => ?_) (fun h279 => ?_)
     ·
      replace h279 := of_decide_eq_true h279
      have hk6 : k < 6 := by omega
      refine wp_skip ?_
      refine hK42 _ _ ?_; clear hK42
      refine cSeq (fun K43 hK43 => ?_)
      refine wp_block ?_
      refine cSeq (fun K44 hK44 => ?_)
      refine cReg ?_
      refine sMv F rfl rfl rfl ?_;clear F a;intro a F
      refine sAs F rfl rfl rfl ?_;clear F a;intro a F
      refine sNil ?_
      refine hK44 _ _ ?_; clear hK44
      refine cSeq (fun K45 hK45 => ?_)
      refine cRegRO (by kernel_rfl) H ?_
      replace H := H.drew
      refine eTakeF (k := 0) (i := 0) rfl (by kernel_rfl) F rfl rfl rfl (fun w => rMv F rfl) (H.sel [0, 1, 2, 3, 4, 5, 6, 7] rfl rfl) (fun _ _ _ h => h) ?_;clear F a;intro a F
      refine eTakeF (k := 1) (i := 1) rfl (by kernel_rfl) F rfl rfl rfl (fun w => rIaZ1 Tryd.underlying69 Tryd.sizeOf4 F rfl rfl ?_) (H.sel [0, 1, 2, 3, 4, 5, 6, 7] rfl rfl) (fun _ _ _ h => h) ?_
      focus (first | omega | decide | (simp; omega))
      clear F a; intro a F
      refine eTake (k := 2) (i := 2) rfl (by kernel_rfl) F rfl rfl rfl rfl (fun w H => rLd Tryd.isAgg4 F rfl (by simpa using H.cell 3 rfl (bl6_at (f := mine) hk6))) (H.sel [0, 1, 2, 3, 4, 5, 6, 7] rfl rfl) (fun _ _ _ h => h) ?_;clear F a;intro a F
      refine eTakeF (k := 3) (i := 3) rfl (by kernel_rfl) F rfl rfl rfl (fun w => rMv F rfl) (H.sel [0, 1, 2, 3, 4, 5, 6, 7] rfl rfl) (fun _ _ _ h => h) ?_;clear F a;intro a F
      refine F.split 284 rfl ?_ ?_ <;> (clear F; intro h284 F)
      ·
       refine eTakeF (k := 4) (i := 4) rfl (by kernel_rfl) F rfl rfl rfl (fun w => rMv F rfl) (H.sel [0, 1, 2, 3, 4, 5, 6, 7] rfl rfl) (fun _ _ _ h => h) ?_;clear F a;intro a F
       refine eTakeF (k := 5) (i := 5) rfl (by kernel_rfl) F rfl rfl rfl (fun w => rIaZ1 Tryd.underlying69 Tryd.sizeOf4 F rfl rfl ?_) (H.sel [0, 1, 2, 3, 4, 5, 6, 7] rfl rfl) (fun _ _ _ h => h) ?_
       focus (first | omega | decide | (simp; omega))
       clear F a; intro a F
       refine eTake (k := 6) (i := 6) rfl (by kernel_rfl) F rfl rfl rfl rfl (fun w H => rLd Tryd.isAgg4 F rfl (by simpa using H.cell 2 rfl (bl6_at (f := oth) hk6))) (H.sel [0, 1, 2, 3, 4, 5, 6, 7] rfl rfl) (fun _ _ _ h => h) ?_;clear F a;intro a F
       refine eTakeF (k := 7) (i := 7) rfl (by kernel_rfl) F rfl rfl rfl (fun w => rNot F rfl) (H.sel [0, 1, 2, 3, 4, 5, 6, 7] rfl rfl) (fun _ _ _ h => h) ?_;clear F a;intro a F
       refine eTakeF (k := 8) (i := 8) rfl (by kernel_rfl) F rfl rfl rfl (fun w => rPk F rfl rfl) (H.sel [0, 1, 2, 3, 4, 5, 6, 7] rfl rfl) (fun _ _ _ h => h) ?_;clear F a;intro a F
       refine eTakeF (k := 9) (i := 9) rfl (by kernel_rfl) F rfl rfl rfl (fun w => rMv F rfl) (H.sel [0, 1, 2, 3, 4, 5, 6, 7] rfl rfl) (fun _ _ _ h => h) ?_;clear F a;intro a F
       refine F.split 290 rfl ?_ ?_ <;> (clear F; intro h290 F)
       ·
        replace h290 := notT h290
        refine eTakeF (k := 10) (i := 10) rfl (by kernel_rfl) F rfl rfl rfl (fun w => rMv F rfl) (H.sel [0, 1, 2, 3, 4, 5, 6, 7] rfl rfl) (fun _ _ _ h => h) ?_;clear F a;intro a F
        refine eTakeF (k := 11) (i := 11) rfl (by kernel_rfl) F rfl rfl rfl (fun w => rFa (f := 1) (k := 32) Tryd.underlying64 rfl Tryd.sizeOf34 rfl rfl F rfl) (H.sel [0, 1, 2, 3, 4, 5, 6, 7] rfl rfl) (fun _ _ _ h => h) ?_;clear F a;intro a F
        refine eTakeF (k := 12) (i := 12) rfl (by kernel_rfl) F rfl rfl rfl (fun w => rIa1 Tryd.underlying34 Tryd.sizeOf5 F rfl rfl ?_) (H.sel [0, 1, 2, 3, 4, 5, 6, 7] rfl rfl) (fun _ _ _ h => h) ?_
        focus (first | omega | decide | (simp; omega))
        clear F a; intro a F
        refine eTake (k := 13) (i := 13) rfl (by kernel_rfl) F rfl rfl rfl rfl (fun w H => rLd Tryd.isAgg5 F rfl (H.cellB 5 rfl (by omega))) (H.sel [0, 1, 2, 3, 4, 5, 6, 7] rfl rfl) (fun _ _ _ h => h) ?_;clear F a;intro a F
        refine eTakeF (k := 14) (i := 14) rfl (by kernel_rfl) F rfl rfl rfl (fun w => rMv F rfl) (H.sel [0, 1, 2, 3, 4, 5, 6, 7] rfl rfl) (fun _ _ _ h => h) ?_;clear F a;intro a F
        refine eTakeF (k := 15) (i := 15) rfl (by kernel_rfl) F rfl rfl rfl (fun w => rIaZ1 Tryd.underlying34 Tryd.sizeOf5 F rfl rfl ?_) (H.sel [0, 1, 2, 3, 4, 5, 6, 7] rfl rfl) (fun _ _ _ h => h) ?_
        focus (first | omega | decide | (simp; omega))
        clear F a; intro a F
        refine eTake (k := 16) (i := 16) rfl (by kernel_rfl) F rfl rfl rfl rfl (fun w H => rLd Tryd.isAgg5 F rfl (H.cellB 1 rfl (by omega))) (H.sel [0, 1, 2, 3, 4, 5, 6, 7] rfl rfl) (fun _ _ _ h => h) ?_;clear F a;intro a F
        refine eTakeF (k := 17) (i := 17) rfl (by kernel_rfl) F rfl rfl rfl (fun w => rBin F rfl rfl bNeqB) (H.sel [0, 1, 2, 3, 4, 5, 6, 7] rfl rfl) (fun _ _ _ h => h) ?_;clear F a;intro a F
        refine eTakeF (k := 18) (i := 18) rfl (by kernel_rfl) F rfl rfl rfl (fun w => rPk F rfl rfl) (H.sel [0, 1, 2, 3, 4, 5, 6, 7] rfl rfl) (fun _ _ _ h => h) ?_;clear F a;intro a F
        refine eNil (k := 19) (by kernel_rfl) ?_
        refine hK45 _ _ ?_; clear hK45
        refine cIf F rfl (fun h299 => ?_) (fun h299 => ?_)
        ·
         replace h299 := bneT h299
         exact absurd ((show finalP zf (32 + k) = zf (36 + k) by unfold finalP; rw [if_neg (by omega)]; congr 1; omega).trans (hlast k hk6 h290)) h299
        ·
         replace h299 := bneF h299
         refine wp_skip ?_
         refine hK43 _ _ ?_; clear hK43
         refine cReg ?_
         refine sBin F rfl rfl rfl rfl (bAddN (j := 1) ?_) ?_
         focus omega
         clear F a; intro a F
         refine sMv F rfl rfl rfl ?_;clear F a;intro a F
         refine sNil ?_
         exact ⟨_, by omega, _, ⟨k + 1, rfl, rfl, by omega, H.sel [0, 1, 2, 3, 4, 5, 6, 7] rfl rfl⟩, F.to (by repeat (first | exact trivial | refine Le.cons rfl ?_))⟩
       ·
        replace h290 := notF h290
        refine eSkip (k := 10) (i := 10) rfl (by kernel_rfl) F rfl rfl rfl (H.sel [0, 1, 2, 3, 4, 5, 6, 7] rfl rfl) (fun _ _ _ h => h) ?_;clear F a;intro a F
        refine eSkip (k := 11) (i := 11) rfl (by kernel_rfl) F rfl rfl rfl (H.sel [0, 1, 2, 3, 4, 5, 6, 7] rfl rfl) (fun _ _ _ h => h) ?_;clear F a;intro a F
        refine eSkip (k := 12) (i := 12) rfl (by kernel_rfl) F rfl rfl rfl (H.sel [0, 1, 2, 3, 4, 5, 6, 7] rfl rfl) (fun _ _ _ h => h) ?_;clear F a;intro a F
        refine eSkip (k := 13) (i := 13) rfl (by kernel_rfl) F rfl rfl rfl (H.sel [0, 1, 2, 3, 4, 5, 6, 7] rfl rfl) (fun _ _ _ h => h) ?_;clear F a;intro a F
        refine eSkip (k := 14) (i := 14) rfl (by kernel_rfl) F rfl rfl rfl (H.sel [0, 1, 2, 3, 4, 5, 6, 7] rfl rfl) (fun _ _ _ h => h) ?_;clear F a;intro a F
        refine eSkip (k := 15) (i := 15) rfl (by kernel_rfl) F rfl rfl rfl (H.sel [0, 1, 2, 3, 4, 5, 6, 7] rfl rfl) (fun _ _ _ h => h) ?_;clear F a;intro a F
        refine eSkip (k := 16) (i := 16) rfl (by kernel_rfl) F rfl rfl rfl (H.sel [0, 1, 2, 3, 4, 5, 6, 7] rfl rfl) (fun _ _ _ h => h) ?_;clear F a;intro a F
        refine eSkip (k := 17) (i := 17) rfl (by kernel_rfl) F rfl rfl rfl (H.sel [0, 1, 2, 3, 4, 5, 6, 7] rfl rfl) (fun _ _ _ h => h) ?_;clear F a;intro a F
        refine eTakeF (k := 18) (i := 18) rfl (by kernel_rfl) F rfl rfl rfl (fun w => rPk F rfl rfl) (H.sel [0, 1, 2, 3, 4, 5, 6, 7] rfl rfl) (fun _ _ _ h => h) ?_;clear F a;intro a F
        refine eNil (k := 19) (by kernel_rfl) ?_
        refine hK45 _ _ ?_; clear hK45
        refine cIfF F rfl ?_
        refine wp_skip ?_
        refine hK43 _ _ ?_; clear hK43
        refine cReg ?_
        refine sBin F rfl rfl rfl rfl (bAddN (j := 1) ?_) ?_
        focus omega
        clear F a; intro a F
        refine sMv F rfl rfl rfl ?_;clear F a;intro a F
        refine sNil ?_
        exact ⟨_, by omega, _, ⟨k + 1, rfl, rfl, by omega, H.sel [0, 1, 2, 3, 4, 5, 6, 7] rfl rfl⟩, F.to (by repeat (first | exact trivial | refine Le.cons rfl ?_))⟩
      ·
       refine eSkip (k := 4) (i := 4) rfl (by kernel_rfl) F rfl rfl rfl (H.sel [0, 1, 2, 3, 4, 5, 6, 7] rfl rfl) (fun _ _ _ h => h) ?_;clear F a;intro a F
       refine eSkip (k := 5) (i := 5) rfl (by kernel_rfl) F rfl rfl rfl (H.sel [0, 1, 2, 3, 4, 5, 6, 7] rfl rfl) (fun _ _ _ h => h) ?_;clear F a;intro a F
       refine eSkip (k := 6) (i := 6) rfl (by kernel_rfl) F rfl rfl rfl (H.sel [0, 1, 2, 3, 4, 5, 6, 7] rfl rfl) (fun _ _ _ h => h) ?_;clear F a;intro a F
       refine eSkip (k := 7) (i := 7) rfl (by kernel_rfl) F rfl rfl rfl (H.sel [0, 1, 2, 3, 4, 5, 6, 7] rfl rfl) (fun _ _ _ h => h) ?_;clear F a;intro a F
       refine eTakeF (k := 8) (i := 8) rfl (by kernel_rfl) F rfl rfl rfl (fun w => rPk F rfl rfl) (H.sel [0, 1, 2, 3, 4, 5, 6, 7] rfl rfl) (fun _ _ _ h => h) ?_;clear F a;intro a F
       refine eTakeF (k := 9) (i := 9) rfl (by kernel_rfl) F rfl rfl rfl (fun w => rMv F rfl) (H.sel [0, 1, 2, 3, 4, 5, 6, 7] rfl rfl) (fun _ _ _ h => h) ?_;clear F a;intro a F
       refine eSkip (k := 10) (i := 10) rfl (by kernel_rfl) F rfl rfl rfl (H.sel [0, 1, 2, 3, 4, 5, 6, 7] rfl rfl) (fun _ _ _ h => h) ?_;clear F a;intro a F
       refine eSkip (k := 11) (i := 11) rfl (by kernel_rfl) F rfl rfl rfl (H.sel [0, 1, 2, 3, 4, 5, 6, 7] rfl rfl) (fun _ _ _ h => h) ?_;clear F a;intro a F
       refine eSkip (k := 12) (i := 12) rfl (by kernel_rfl) F rfl rfl rfl (H.sel [0, 1, 2, 3, 4, 5, 6, 7] rfl rfl) (fun _ _ _ h => h) ?_;clear F a;intro a F
       refine eSkip (k := 13) (i := 13) rfl (by kernel_rfl) F rfl rfl rfl (H.sel [0, 1, 2, 3, 4, 5, 6, 7] rfl rfl) (fun _ _ _ h => h) ?_;clear F a;intro a F
       refine eSkip (k := 14) (i := 14) rfl (by kernel_rfl) F rfl rfl rfl (H.sel [0, 1, 2, 3, 4, 5, 6, 7] rfl rfl) (fun _ _ _ h => h) ?_;clear F a;intro a F
       refine eSkip (k := 15) (i := 15) rfl (by kernel_rfl) F rfl rfl rfl (H.sel [0, 1, 2, 3, 4, 5, 6, 7] rfl rfl) (fun _ _ _ h => h) ?_;clear F a;intro a F
       refine eSkip (k := 16) (i := 16) rfl (by kernel_rfl) F rfl rfl rfl (H.sel [0, 1, 2, 3, 4, 5, 6, 7] rfl rfl) (fun _ _ _ h => h) ?_;clear F a;intro a F
       refine eSkip (k := 17) (i := 17) rfl (by kernel_rfl) F rfl rfl rfl (H.sel [0, 1, 2, 3, 4, 5, 6, 7] rfl rfl) (fun _ _ _ h => h) ?_;clear F a;intro a F
       refine eTakeF (k := 18) (i := 18) rfl (by kernel_rfl) F rfl rfl rfl (fun w => rPk F rfl rfl) (H.sel [0, 1, 2, 3, 4, 5, 6, 7] rfl rfl) (fun _ _ _ h => h) ?_;clear F a;intro a F
       refine eNil (k := 19) (by kernel_rfl) ?_
       refine hK45 _ _ ?_; clear hK45
       refine cIfF F rfl ?_
       refine wp_skip ?_
       refine hK43 _ _ ?_; clear hK43
       refine cReg ?_
       refine sBin F rfl rfl rfl rfl (bAddN (j := 1) ?_) ?_
       focus omega
       clear F a; intro a F
       refine sMv F rfl rfl rfl ?_;clear F a;intro a F
       refine sNil ?_
       exact ⟨_, by omega, _, ⟨k + 1, rfl, rfl, by omega, H.sel [0, 1, 2, 3, 4, 5, 6, 7] rfl rfl⟩, F.to (by repeat (first | exact trivial | refine Le.cons rfl ?_))⟩
     ·
      replace h279 := of_decide_eq_false h279
      refine wp_exit ?_
      refine hK39 _ _ ?_; clear hK39
      refine cSeq (fun K46 hK46 => ?_)
      refine cReg ?_
      refine sMv F rfl rfl rfl ?_;clear F a;intro a F
      refine sLen Tryd.underlying68 F rfl rfl rfl ?_;clear F a;intro a F
      refine sBin F rfl rfl rfl rfl bEql ?_;clear F a;intro a F
      refine sMv F rfl rfl rfl ?_;clear F a;intro a F
      refine F.split 304 rfl ?_ ?_ <;> (clear F; intro h304 F)
      ·
       replace h304 := beqT h304
       refine sCall Tryd.call12 F rfl rfl rfl (awake14_any _ (hN.own H)) ?_
       rintro e w ⟨rfl, hb⟩
       replace H := H.grow hb; clear hb
       refine ⟨_, rfl, ?_⟩
       clear F a; intro a F
       refine sPk F rfl rfl rfl rfl ?_;clear F a;intro a F
       refine sAs F rfl rfl rfl ?_;clear F a;intro a F
       refine sNil ?_
       refine hK46 _ _ ?_; clear hK46
       refine wp_ret ?_
       refine bRet Tryd.results4 F rfl ?_
       exact ⟨rfl, H.below⟩
      ·
       replace h304 := beqF h304
       exact absurd (by rw [hpl0]; rfl) h304
end Go.Proofs.YtjephfjnohgcbaaDoor
