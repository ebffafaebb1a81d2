/-
  WALK2. Turn's result is a program in memory. Conditions: none.
-/
import Derived.Test.YtfcidfljidkcaaaDoorTuF
import Derived.Test.YtfcidfljidkcaaaDoorLfA
import Derived.Test.YtfcidfljidkcaaaDoorKtG
set_option linter.unusedSimpArgs false
set_option linter.unusedVariables false
namespace Go.Proofs.YtfcidfljidkcaaaDoor
open Go.RowKit
set_option maxRecDepth 100000
mutual
theorem slimT_of : ∀ {w : World} {h : Nat} {cs : List Value} {c : Cnd} {n : Nat}, CondAt w h cs c → sizeC c ≤ n → n ≤ 1099511627776 → Slim h c
  | _, 0, _, _, _, hc, _, _ => hc.elim
  | w, h + 1, cs, .mk k t m v kids, n, hc, hn, hm => by
    obtain ⟨A, C, _, h2, h3⟩ := hc
    simp only [sizeC] at hn
    refine ⟨?_, fun kid hk => ?_⟩
    · have : kids.length ≤ sizeL kids := lenT_size kids
      omega
    · obtain ⟨j, hj⟩ := List.mem_iff_getElem?.1 hk
      obtain ⟨b, off, cs', _, _, h6⟩ := h3 j kid hj
      exact slimT_of h6 (Nat.le_trans (memT_size hk) (by omega)) hm
theorem lenT_size : ∀ kids : List Cnd, kids.length ≤ sizeL kids
  | [] => Nat.le_refl _
  | c :: r => by
    have h1 := lenT_size r
    have h2 : 1 ≤ sizeC c := by cases c; simp only [sizeC]; omega
    simp only [sizeL, List.length_cons]
    omega
theorem memT_size : ∀ {kids : List Cnd} {c : Cnd}, c ∈ kids → sizeC c ≤ sizeL kids
  | [], _, h => by cases h
  | d :: r, c, h => by
    simp only [sizeL]
    rcases List.mem_cons.1 h with rfl | h
    · omega
    · have := memT_size h
      omega
end
theorem slim_turn {T L : List Int} : ∀ (h g : Nat) (c : Cnd), Slim h c → Slim h (turnH T L g c)
  | 0, _, _, hc => hc
  | _ + 1, 0, _, hc => hc
  | h + 1, g + 1, .mk k t m v kids, hc => by
    obtain ⟨h1, h2⟩ := hc
    refine ⟨by rw [List.length_map]; exact h1, fun kid hk => ?_⟩
    obtain ⟨y, hy, rfl⟩ := List.mem_map.1 hk
    exact slim_turn h g y (h2 y hy)
/-- A program in blocks of its own. -/
def ProgOut (q : Prg) (w0 w : World) (h : Nat) (v : Value) : Prop :=
  ∃ LA LC IA IC TA TC rows S3 ccs S4, v = .agg ([.string q.name, .slice LA q.locs.length LC, .slice IA q.init.length IC, .slice TA q.threads.length TC, Go.Proofs.YtfcidfljidkcaaaDoor.b8 q.ask] ++ ccs).toArray ∧ rows.length = q.threads.length ∧ (∀ r ∈ rows, r.length = 1) ∧
    Own w0 none w [.tree S4 h ccs q.cond, .rws 46 1 (.slice TA q.threads.length TC) rows, .grove S3 rows q.threads, .rws 5 1 (.slice IA q.init.length IC) (q.init.map fun x => [Go.Proofs.YtfcidfljidkcaaaDoor.b8 x]), .rws 9 1 (.slice LA q.locs.length LC) (q.locs.map fun s => [.string s])]
theorem TurnOut.out {p : Prg} {T L : List Int} {w0 w : World} {h : Nat} {v : Value} (ho : TurnOut p T L w0 w h v) : ProgOut (turnPr h p T L) w0 w h v := by
  obtain ⟨LA, LC, IA, IC, TA, TC, rows, S3, ccs, S4, h1, h2, h3, h4⟩ := ho
  refine ⟨LA, LC, IA, IC, TA, TC, rows, S3, ccs, S4, ?_, ?_, h3, ?_⟩
  · rw [locs_len, init_len, thr_lenT]; exact h1
  · rw [thr_lenT]; exact h2
  · rw [locs_len, init_len, thr_lenT]; exact h4
/-- What a program's sizes are. -/
structure Sized (q : Prg) : Prop where
  name : q.name.size ≤ maxLen
  locs : q.locs.length ≤ 9223372036854775807
  locsS : ∀ s ∈ q.locs, s.size ≤ maxLen
  init : q.init.length ≤ 9223372036854775807
  thr : q.threads.length ≤ 9223372036854775807
  ins : ∀ t ∈ q.threads, t.length ≤ 9223372036854775807
theorem sized_of {q : Prg} (hv : rightErr q = 0) (hn : q.name.size ≤ maxLen) (hls : ∀ s ∈ q.locs, s.size ≤ maxLen) : Sized q := by
  have V := valid hv
  have h6 := V.locs6
  have h4 := V.thr4
  have hi := V.init
  refine ⟨hn, by omega, hls, by omega, by omega, fun t ht => ?_⟩
  obtain ⟨j, hj⟩ := List.mem_iff_getElem?.1 ht
  have := V.long j t hj
  omega
theorem locsS_turn {p : Prg} {T L : List Int} {h : Nat} (hL : IsPerm p.locs.length L) (hls : ∀ s ∈ p.locs, s.size ≤ maxLen) : ∀ s ∈ (turnPr h p T L).locs, s.size ≤ maxLen := fun s hs => by
  obtain ⟨j, hj⟩ := List.mem_iff_getElem?.1 hs
  have hjl := (List.getElem?_eq_some_iff.1 hj).1
  rw [locs_len] at hjl
  rw [locs_at hL hjl] at hj
  exact hls s (List.mem_of_getElem? hj)
theorem outIn {q : Prg} {w0 w : World} {row : Option Nat} {h LC IC TC : Nat} {LA IA TA : Option Addr} {S3 S4 : Nat → Prop} {rows : List (List Value)} {ccs : List Value}
    (H : Own w0 row w [.tree S4 h ccs q.cond, .rws 46 1 (.slice TA q.threads.length TC) rows, .grove S3 rows q.threads, .rws 5 1 (.slice IA q.init.length IC) (q.init.map fun x => [Go.Proofs.YtfcidfljidkcaaaDoor.b8 x]), .rws 9 1 (.slice LA q.locs.length LC) (q.locs.map fun s => [.string s])])
    (hrl : rows.length = q.threads.length) (hr1 : ∀ r ∈ rows, r.length = 1) (hz : Sized q) :
    ProgIn w ([.string q.name, .slice LA q.locs.length LC, .slice IA q.init.length IC, .slice TA q.threads.length TC, Go.Proofs.YtfcidfljidkcaaaDoor.b8 q.ask] ++ ccs) q LA LC IA IC TA TC h ccs := by
  refine ⟨rfl, hz.name, H.rowsAt 4 rfl (by simp) (by decide), hz.locs, (H.rwsLen 4 rfl).2.1, hz.locsS, H.rowsAt 3 rfl (by simp) (by decide), hz.init, fun j t ht => ?_, hz.thr, (H.pred 0 _ rfl : TreeIn S4 w h ccs q.cond).at⟩
  have hj := (List.getElem?_eq_some_iff.1 ht).1
  obtain ⟨r, hr⟩ : ∃ r, rows[j]? = some r := ⟨_, List.getElem?_eq_getElem (by omega)⟩
  obtain ⟨B, C, rfl, hB⟩ := (H.pred 2 _ rfl : groveP S3 w rows q.threads) j r t hr ht
  obtain ⟨b, off, rfl, hx⟩ := H.rowsAt 1 rfl hr1 (by decide) j _ hr
  refine ⟨b, off, B, C, rfl, hx 0 _ rfl, fun i cs hi => ?_, hz.ins t (List.mem_of_getElem? ht)⟩
  obtain ⟨b2, o2, h1, _, h2⟩ := hB i cs hi
  exact ⟨b2, o2, h1, h2⟩
theorem finalT_good (f : By) (A : Option Addr) (C : Nat) (T : List Int) (B : Option Addr) (D : Nat) (L : List Int) (n m : Nat) (w0 : World) (hA : RowsAt w0 A 1 (intsZ T)) (hB : RowsAt w0 B 1 (intsZ L)) (hn : n = T.length) (hm : m = L.length) (hg : FinGood T L) :
    Calls Tryd.prog 7 #[.agg (bs 38 f).toArray, .slice A n C, .slice B m D] w0 fun e w' => e = .returned (.tuple #[.agg (bs 38 (finT f T L)).toArray, .int .i64 0]) ∧ Below w0.heap.size w0 w' := by
  have h1 := hg.1
  have h2 := hg.2.1
  refine (finalT_any f A C T B D L n m w0 hA hB hn hm (by omega) (by omega)).mono ?_
  rintro e w' ⟨g, er, rfl, h3, h4⟩
  obtain ⟨rfl, h6⟩ := h3 hg
  rw [h6]
  exact ⟨rfl, h4⟩
theorem finalT_back {n m : Nat} (f : By) (A : Option Addr) (C : Nat) (T : List Int) (B : Option Addr) (D : Nat) (L : List Int) (w0 : World) (hA : RowsAt w0 A 1 (intsZ (backZ n T))) (hB : RowsAt w0 B 1 (intsZ (backZ m L))) (hT : IsPerm n T) (hL : IsPerm m L) (hn : n ≤ 4) (hm : m ≤ 6) :
    Calls Tryd.prog 7 #[.agg (bs 38 (finT f T L)).toArray, .slice A n C, .slice B m D] w0 fun e w' => e = .returned (.tuple #[.agg (bs 38 f).toArray, .int .i64 0]) ∧ Below w0.heap.size w0 w' := by
  have h1 := back_perm hT
  have h2 := back_perm hL
  refine (finalT_good (finT f T L) A C (backZ n T) B D (backZ m L) n m w0 hA hB h1.len.symm h2.len.symm ⟨by rw [h1.len]; exact hn, by rw [h2.len]; exact hm, by rw [h1.len]; exact h1, by rw [h2.len]; exact h2⟩).mono ?_
  rintro e w' ⟨rfl, h4⟩
  have e : bs 38 (finT (finT f T L) (backZ n T) (backZ m L)) = bs 38 f := bs_ext (fun i hi => fin_back hT hL hn hm f i hi)
  rw [e]
  exact ⟨rfl, h4⟩
/-- A part of numbers, as Turn and Final read it. -/
theorem ints_blk {w : World} {b : Nat} {l : List Int} (h : w.rangeAt b 0 (intsZ l).flatten) : RowsAt w (some ⟨b, 0, none⟩) 1 (intsZ l) := RowsAt.ofRange h (fun r hr => by unfold intsZ at hr; obtain ⟨x, _, rfl⟩ := List.mem_map.1 hr; rfl)
/-- Turn of a valid program and two permutations. -/
theorem turn_good (cs : List Value) (p : Prg) (LA : Option Addr) (LC : Nat) (IA : Option Addr) (IC : Nat) (TA : Option Addr) (TC h : Nat) (ccs : List Value) (A : Option Addr) (C : Nat) (T : List Int) (B : Option Addr) (D : Nat) (L : List Int) (nT nL : Nat) (w0 : World)
    (hp : ProgIn w0 cs p LA LC IA IC TA TC h ccs) (hN : NeedsAt w0) (h0 : rightErr p = 0) (hs : Slim h p.cond) (hA : RowsAt w0 A 1 (intsZ T)) (hB : RowsAt w0 B 1 (intsZ L)) (hT : IsPerm p.threads.length T) (hL : IsPerm p.locs.length L) (hnT : nT = p.threads.length) (hnL : nL = p.locs.length) :
    Calls Tryd.prog 6 #[.agg cs.toArray, .slice A nT C, .slice B nL D] w0 fun e w' => ∃ v, e = .returned (.tuple #[v, .int .i64 0]) ∧ ProgOut (turnPr h p T L) w0 w' h v := by
  have V := valid h0
  have h6 := V.locs6
  have h4 := V.thr4
  refine (Turn_any cs p LA LC IA IC TA TC h ccs A C T B D L nT nL w0 hp hN (fun _ => hs) hA hB (by rw [hT.len]; exact hnT) (by rw [hL.len]; exact hnL) (by rw [hT.len]; omega) (by rw [hL.len]; omega)).mono ?_
  rintro e w' (⟨h1, _⟩ | ⟨_, h1, _⟩ | ⟨_, _, _, v, h1, h2⟩)
  · exact absurd h0 h1
  · exact absurd ⟨hT, hL⟩ h1
  · exact ⟨v, h1, h2.out⟩
/-- Turn back. -/
theorem turn_goodB (cs : List Value) (p : Prg) (LA : Option Addr) (LC : Nat) (IA : Option Addr) (IC : Nat) (TA : Option Addr) (TC h : Nat) (ccs : List Value) (A : Option Addr) (C : Nat) (T : List Int) (B : Option Addr) (D : Nat) (L : List Int) (w0 : World)
    (hp : ProgIn w0 cs (turnPr h p T L) LA LC IA IC TA TC h ccs) (hN : NeedsAt w0) (h0 : rightErr p = 0) (hs : Slim h p.cond) (hT : IsPerm p.threads.length T) (hL : IsPerm p.locs.length L) (hA : RowsAt w0 A 1 (intsZ (backZ p.threads.length T))) (hB : RowsAt w0 B 1 (intsZ (backZ p.locs.length L))) :
    Calls Tryd.prog 6 #[.agg cs.toArray, .slice A p.threads.length C, .slice B p.locs.length D] w0 fun e w' => ∃ v, e = .returned (.tuple #[v, .int .i64 0]) ∧ ProgOut p w0 w' h v := by
  have e := turn_back (h := h) h0 hT hL
  have h3 := turn_good cs (turnPr h p T L) LA LC IA IC TA TC h ccs A C (backZ p.threads.length T) B D (backZ p.locs.length L) p.threads.length p.locs.length w0 hp hN (right_turn h0 hT hL) (slim_turn h h p.cond hs) hA hB (by rw [thr_lenT]; exact back_perm hT) (by rw [locs_len]; exact back_perm hL) thr_lenT.symm locs_len.symm
  rw [e] at h3
  exact h3
end Go.Proofs.YtfcidfljidkcaaaDoor
