/-
  The last step of a row, from Below. Conditions: none.
 
  Arguments opened: bytes, structs, slices, programs, as the rows' readings give them. Conditions: none.
-/
import Derived.Test.YtbdjlmdejlklkaaRows
import Derived.WalkKit
import Derived.ProofKit
import Derived.OpenShut
import Derived.ShutString
import Derived.Below
import Derived.ChangeSame
import Derived.Test.YtbdjlmdejlklkaaCkK
import Derived.Deep.Slices
import Derived.Deep.Fields
import Derived.SizedLaws
import Derived.WideKeyArgs
set_option linter.unusedSimpArgs false
set_option linter.unusedVariables false
namespace Go.Proofs.Ytbdjlmdejlklkaa
open Go.RowKit Go.WideShapes Go.ChangeShapes
section
variable {H : Type} {enc : TypeId × Value → H} {P : Program}
theorem post_of_below {f : Func} {s : ChangeSpec} {apart fresh handsOn again : Bool} {W W' : World} {args : Array Value} {v : Value} {ds gs : List (DataW H)} {before pa pv : List MemPlace}
    (hW : DataW.Whole enc P f.params.toList s.vars apart W args.toList ds gs before)
    (hres : ∀ (b : Nat) (sp : Nat → Bool) (hd : Bool), DataW.TrodAll enc P W' b sp hd f.resultTypes.toList (v.resultList f.resultTypes.size) (s.fn H (ds ++ gs)).results [])
    (hargs : ∀ sp : Nat → Bool, (∀ p ∈ before, sp p.block = true) → DataW.TrodAll enc P W' 0 sp true f.params.toList args.toList (s.fn H (ds ++ gs)).args pa)
    (hvars : ∀ sp : Nat → Bool, (∀ p ∈ before, sp p.block = true) → DataW.TrodVars enc P W' sp s.vars (s.fn H (ds ++ gs)).vars pv)
    (hps : before = pa ++ pv) (hb : Below W.heap.size W W')
    (hok : ∀ (j : Nat) (t : TypeId) (r : Value), f.resultTypes[j]? = some t → (v.resultList f.resultTypes.size)[j]? = some r → Value.okWide P W' .any 0 t r) :
    s.post enc P f apart fresh handsOn again W args v W' := by
  have hlt : ∀ p ∈ before, p.block < W.heap.size := fun p hp => hW.lt p hp
  have hold : ∀ p ∈ before, (fun b => decide (b < W.heap.size)) p.block = true := fun p hp => by simpa using hlt p hp
  refine ⟨ds, gs, before, [], pa, pv, hW, hres _ _ _, hargs _ hold, hvars _ hold, World.keptBut_mono (fun p hp => ⟨hp, ?_⟩) (hb.frame (· ∈ before)), fun _ => ?_⟩
  · rw [hps, List.mem_append] at hp
    exact Or.inr hp
  · obtain ⟨_, _, _, _, _, hz, hn⟩ := hW
    refine ⟨hok, _, _, ([] ++ pa) ++ pv, ⟨[] ++ pa, pv, trodAll_append (hargs _ (fun _ _ => rfl)) (hres _ _ _), hvars _ (fun _ _ => rfl), rfl, ?_, ?_⟩, ?_⟩
    · intro b off hp
      have hin : MemPlace.cell b off ∈ before := by rw [hps]; simpa using hp
      rw [hb.frozen (hlt _ hin)]
      exact hz b off hin
    · intro ha
      have := hn ha
      rw [hps] at this
      simpa using this
    · intro p hp _
      rw [hps]
      simpa using hp
end
theorem row_knob : ownKnob Try.prog.godebug = none := by kernel_rfl
end Go.Proofs.Ytbdjlmdejlklkaa

namespace Go.Proofs.Ytbdjlmdejlklkaa
open Go.ChangeShapes Go.WideShapes Go.ChangeAt Go.RowKit Go.Deep

section
variable {H : Type} {enc : TypeId × Value → H} {P : Program} {w : World} {spare : Nat → Bool} {held : Bool} {fuel : Nat} {t : TypeId} {cs : List Value} {x : DataW H × List MemPlace}
theorem o_struct {fs : Array Field} (ht : P.underlying t = some (.struct fs)) (h : DataW.trod enc P w 0 spare held fuel t cs = some x) :
    cs.length = P.cellsOf t ∧ ∃ n, fuel = n + 1 ∧ ∀ (i : Nat) (f : Field), fs[i]? = some f → ∃ y, DataW.trod enc P w 0 spare held n f.type ((cs.drop f.offset).take (P.cellsOf f.type)) = some y := by
  obtain ⟨xs, n, hn, _, hl, hxl, hf⟩ := DataW.trod_struct ht h
  refine ⟨hl, n, hn, fun i f hi => ?_⟩
  have hlt : i < xs.length := by rw [hxl]; exact (Array.getElem?_eq_some_iff.1 hi).1
  exact ⟨_, (hf i f hi).trans (List.getElem?_eq_getElem hlt)⟩
theorem o_array {n : Nat} {e : TypeId} (ht : P.underlying t = some (.array n e)) (h : DataW.trod enc P w 0 spare held fuel t cs = some x) :
    cs.length = P.cellsOf t ∧ ∃ m, fuel = m + 1 ∧ ∀ i, i < n → ∃ y, DataW.trod enc P w 0 spare held m e ((cs.drop (i * P.cellsOf e)).take (P.cellsOf e)) = some y := by
  obtain ⟨xs, m, hm, _, hl, hxl, hf⟩ := DataW.trod_array ht h
  exact ⟨hl, m, hm, fun i hi => ⟨_, (hf i hi).trans (List.getElem?_eq_getElem (by omega))⟩⟩
theorem o_slice {e : TypeId} (ht : P.underlying t = some (.slice e)) (hpos : 0 < P.cellsOf e) (h : DataW.trod enc P w 0 spare held fuel t cs = some x) :
    ∃ A len cap, cs = [.slice A len cap] ∧ len ≤ cap ∧ cap ≤ maxLen ∧ (A = none → len = 0 ∧ cap = 0) ∧
      ∃ m, fuel = m + 1 ∧ ∀ i, i < len → ∃ b off cs' y, A = some ⟨b, off, none⟩ ∧ b < w.heap.size ∧ cs'.length = P.cellsOf e ∧ w.rangeAt b (off + i * P.cellsOf e) cs' ∧ DataW.trod enc P w 0 spare held m e cs' = some y := by
  rcases DataW.trod_slice ht h with ⟨rfl, _⟩ | ⟨a, len, cap, elems, rest, n, hn, rfl, _, hb, hl, hm, hlen, hel, _, _⟩
  · cases fuel with
    | zero => simp [DataW.trod] at h
    | succ m => exact ⟨none, 0, 0, rfl, Nat.le_refl _, Nat.zero_le _, fun _ => ⟨rfl, rfl⟩, m, rfl, fun i hi => by omega⟩
  · refine ⟨some a, len, cap, rfl, hl, hm, (fun h => by cases h), n, hn, fun i hi => ?_⟩
    obtain ⟨b, o, sp⟩ := a
    have hsp : sp = none := by
      have he := hel 0 (by omega)
      rw [List.getElem?_eq_getElem (by omega)] at he
      obtain ⟨cs', hc, _⟩ := Option.bind_eq_some_iff.1 he
      obtain ⟨_, hcl, hat⟩ := World.cells?_some hc
      have h0 := hat 0 hpos
      rw [List.getElem?_eq_getElem (by omega)] at h0
      simpa [Addr.add] using World.cell?_spot h0
    subst hsp
    have he := hel i hi
    rw [List.getElem?_eq_getElem (by omega)] at he
    obtain ⟨cs', hc, ht'⟩ := Option.bind_eq_some_iff.1 he
    obtain ⟨_, hcl, hat⟩ := World.cells?_some hc
    have hc0 : w.cell? ⟨b, o + i * P.cellsOf e + 0, none⟩ = some (cs'[0]'(by omega)) := by
      have := hat 0 hpos
      rw [List.getElem?_eq_getElem (by omega), Addr.add_mid, Addr.add_mid] at this
      exact this
    refine ⟨b, o, cs', _, rfl, World.block_lt_of_cell? w _ hc0, hcl, fun j v hj => ?_, ht'⟩
    have hjl : j < cs'.length := (List.getElem?_eq_some_iff.1 hj).1
    have := hat j (by omega)
    rw [Addr.add_mid, Addr.add_mid, hj] at this
    exact this
theorem o_u8 (ht : P.underlying t = some (.int .u8)) (h : DataW.trod enc P w 0 spare held fuel t cs = some x) : ∃ u : UInt8, cs = [b8 u] := by
  obtain ⟨n, rfl, _, hwf⟩ := DataW.trod_int ht h
  simp only [Lit.wf, Bool.and_eq_true, decide_eq_true_eq] at hwf
  rw [show IntKind.u8.min = 0 from by decide, show IntKind.u8.max = 255 from by decide] at hwf
  refine ⟨UInt8.ofNat n.toNat, ?_⟩
  have : (UInt8.ofNat n.toNat).toNat = n.toNat := by rw [UInt8.toNat_ofNat']; omega
  simp only [b8, this]
  rw [Int.toNat_of_nonneg hwf.1]
theorem o_bool (ht : P.underlying t = some .bool) (h : DataW.trod enc P w 0 spare held fuel t cs = some x) : ∃ b : Bool, cs = [.bool b] := by
  obtain ⟨b, h1, _⟩ := DataW.trod_bool ht h
  exact ⟨b, h1⟩
theorem o_str (ht : P.underlying t = some .string) (h : DataW.trod enc P w 0 spare held fuel t cs = some x) : ∃ s : ByteArray, cs = [.string s] ∧ s.size ≤ maxLen := by
  obtain ⟨s, h1, _, h2⟩ := DataW.trod_string ht h
  exact ⟨s, h1, h2⟩
/-- A type of n bytes. -/
def ByT (P : Program) (t : TypeId) (n : Nat) : Prop := P.cellsOf t = n ∧ ∀ {H : Type} (enc : TypeId × Value → H) (w : World) (spare : Nat → Bool) (held : Bool) (fuel : Nat) (cs : List Value) (x : DataW H × List MemPlace),
  DataW.trod enc P w 0 spare held fuel t cs = some x → cs.length = n ∧ ∀ i, i < n → ∃ u : UInt8, cs[i]? = some (b8 u)
theorem byT_u8 (ht : P.underlying t = some (.int .u8)) (hc : P.cellsOf t = 1) : ByT P t 1 := ⟨hc, fun enc w sp hd fuel cs x h => by
  obtain ⟨u, rfl⟩ := o_u8 ht h
  refine ⟨rfl, fun i hi => ?_⟩
  obtain rfl : i = 0 := by omega
  exact ⟨u, rfl⟩⟩
theorem byT_array {n m : Nat} {e : TypeId} (ht : P.underlying t = some (.array n e)) (he : ByT P e m) (hm : 0 < m) (hc : P.cellsOf t = n * m) : ByT P t (n * m) := ⟨hc, fun enc w sp hd fuel cs x h => by
  obtain ⟨hl, f, _, hi⟩ := o_array ht h
  rw [hc] at hl
  refine ⟨hl, fun i hin => ?_⟩
  have hq : i / m < n := Nat.div_lt_of_lt_mul (by rwa [Nat.mul_comm] at hin)
  obtain ⟨y, hy⟩ := hi (i / m) hq
  rw [he.1] at hy
  obtain ⟨_, h2⟩ := he.2 enc w sp hd _ _ _ hy
  have hmod := Nat.mod_lt i hm
  obtain ⟨u, hu⟩ := h2 (i % m) hmod
  rw [List.getElem?_take, if_pos hmod, List.getElem?_drop] at hu
  have e1 : i / m * m + i % m = i := Nat.div_add_mod' i m
  rw [e1] at hu
  exact ⟨u, hu⟩⟩
theorem byT_struct {fs : Array Field} {n : Nat} (ht : P.underlying t = some (.struct fs)) (hc : P.cellsOf t = n)
    (hf : ∀ i, i < n → ∃ (k : Nat) (f : Field) (m : Nat), fs[k]? = some f ∧ ByT P f.type m ∧ f.offset ≤ i ∧ i < f.offset + m) : ByT P t n := ⟨hc, fun enc w sp hd fuel cs x h => by
  obtain ⟨hl, q, _, hi⟩ := o_struct ht h
  refine ⟨by rw [hl, hc], fun i hin => ?_⟩
  obtain ⟨k, f, m, hk, hb, h1, h2⟩ := hf i hin
  obtain ⟨y, hy⟩ := hi k f hk
  rw [hb.1] at hy
  obtain ⟨_, h3⟩ := hb.2 enc w sp hd _ _ _ hy
  obtain ⟨u, hu⟩ := h3 (i - f.offset) (by omega)
  rw [List.getElem?_take, if_pos (by omega), List.getElem?_drop] at hu
  rw [show f.offset + (i - f.offset) = i by omega] at hu
  exact ⟨u, hu⟩⟩
end

theorem len2 {α : Type} {l : List α} (h : l.length = 2) : ∃ a b, l = [a, b] := by
  match l, h with
  | [a, b], _ => exact ⟨a, b, rfl⟩
theorem len10' {α : Type} {l : List α} (h : l.length = 10) : ∃ a0 a1 a2 a3 a4 a5 a6 a7 a8 a9, l = [a0, a1, a2, a3, a4, a5, a6, a7, a8, a9] := by
  match l, h with
  | [a0, a1, a2, a3, a4, a5, a6, a7, a8, a9], _ => exact ⟨a0, a1, a2, a3, a4, a5, a6, a7, a8, a9, rfl⟩
theorem len5' {α : Type} {l : List α} (h : l.length = 5) : ∃ a0 a1 a2 a3 a4, l = [a0, a1, a2, a3, a4] := by
  match l, h with
  | [a0, a1, a2, a3, a4], _ => exact ⟨a0, a1, a2, a3, a4, rfl⟩
instance : Inhabited Ins := ⟨⟨0, 0, 0, false, 0, false, 0, 0, 0, 0⟩⟩
instance : Inhabited Cnd := ⟨.mk 0 0 0 0 []⟩
theorem cU8 : Try.prog.cellsOf 5 = 1 := by kernel_rfl
theorem cBool : Try.prog.cellsOf 4 = 1 := by kernel_rfl
theorem cStr : Try.prog.cellsOf 9 = 1 := by kernel_rfl
theorem cArg : Try.prog.cellsOf 40 = 2 := by kernel_rfl
theorem cIns : Try.prog.cellsOf 42 = 10 := by kernel_rfl
theorem cInses : Try.prog.cellsOf 38 = 1 := by kernel_rfl
theorem cInsess : Try.prog.cellsOf 31 = 1 := by kernel_rfl
theorem cStrs : Try.prog.cellsOf 29 = 1 := by kernel_rfl
theorem cU8s : Try.prog.cellsOf 30 = 1 := by kernel_rfl
theorem cCond : Try.prog.cellsOf 24 = 5 := by kernel_rfl
theorem cConds : Try.prog.cellsOf 22 = 1 := by kernel_rfl
theorem cProg : Try.prog.cellsOf 33 = 10 := by kernel_rfl
section
variable {H : Type} {enc : TypeId × Value → H} {w : World} {spare : Nat → Bool} {held : Bool} {fuel : Nat} {cs : List Value} {x : DataW H × List MemPlace}
theorem o_arg (h : DataW.trod enc Try.prog w 0 spare held fuel 40 cs = some x) : ∃ (r : Bool) (n : UInt8), cs = [.bool r, b8 n] := by
  obtain ⟨hl, m, _, hf⟩ := o_struct Try.underlying40 h
  rw [cArg] at hl
  obtain ⟨a, b, rfl⟩ := len2 hl
  obtain ⟨y0, h0⟩ := hf 0 _ rfl
  obtain ⟨y1, h1⟩ := hf 1 _ rfl
  replace h0 : DataW.trod enc Try.prog w 0 spare held m 4 (([a, b].drop 0).take (Try.prog.cellsOf 4)) = _ := h0
  replace h1 : DataW.trod enc Try.prog w 0 spare held m 5 (([a, b].drop 1).take (Try.prog.cellsOf 5)) = _ := h1
  rw [cBool] at h0
  rw [cU8] at h1
  obtain ⟨r, e0⟩ := o_bool Try.underlying4 h0
  obtain ⟨n, e1⟩ := o_u8 Try.underlying5 h1
  simp only [List.drop, List.take, List.cons.injEq, and_true] at e0 e1
  exact ⟨r, n, by rw [e0, e1]⟩
theorem o_ins (h : DataW.trod enc Try.prog w 0 spare held fuel 42 cs = some x) : ∃ i : Ins, cs = i.cells := by
  obtain ⟨hl, m, _, hf⟩ := o_struct Try.underlying42 h
  rw [cIns] at hl
  obtain ⟨a0, a1, a2, a3, a4, a5, a6, a7, a8, a9, rfl⟩ := len10' hl
  have key : ∀ o, DataW.trod enc Try.prog w 0 spare held m 5 (([a0, a1, a2, a3, a4, a5, a6, a7, a8, a9].drop o).take (Try.prog.cellsOf 5)) ≠ none → ∃ u : UInt8, ([a0, a1, a2, a3, a4, a5, a6, a7, a8, a9].drop o).take 1 = [b8 u] := by
    intro o ho
    obtain ⟨y, hy⟩ := Option.ne_none_iff_exists'.1 ho
    rw [cU8] at hy
    exact o_u8 Try.underlying5 hy
  have karg : ∀ o, DataW.trod enc Try.prog w 0 spare held m 40 (([a0, a1, a2, a3, a4, a5, a6, a7, a8, a9].drop o).take (Try.prog.cellsOf 40)) ≠ none → ∃ (r : Bool) (n : UInt8), ([a0, a1, a2, a3, a4, a5, a6, a7, a8, a9].drop o).take 2 = [.bool r, b8 n] := by
    intro o ho
    obtain ⟨y, hy⟩ := Option.ne_none_iff_exists'.1 ho
    rw [cArg] at hy
    exact o_arg hy
  have nn : ∀ {z : Option (DataW H × List MemPlace)}, (∃ y, z = some y) → z ≠ none := fun ⟨y, hy⟩ => by rw [hy]; exact fun h => by cases h
  obtain ⟨u0, e0⟩ := key 0 (nn (hf 0 _ rfl))
  obtain ⟨u1, e1⟩ := key 1 (nn (hf 1 _ rfl))
  obtain ⟨u2, e2⟩ := key 2 (nn (hf 2 _ rfl))
  obtain ⟨r3, n3, e3⟩ := karg 3 (nn (hf 3 _ rfl))
  obtain ⟨r4, n4, e4⟩ := karg 5 (nn (hf 4 _ rfl))
  obtain ⟨u5, e5⟩ := key 7 (nn (hf 5 _ rfl))
  obtain ⟨u6, e6⟩ := key 8 (nn (hf 6 _ rfl))
  obtain ⟨u7, e7⟩ := key 9 (nn (hf 7 _ rfl))
  simp only [List.drop, List.take, List.cons.injEq, and_true] at e0 e1 e2 e3 e4 e5 e6 e7
  obtain ⟨e3, e3'⟩ := e3
  obtain ⟨e4, e4'⟩ := e4
  subst e0 e1 e2 e3 e3' e4 e4' e5 e6 e7
  exact ⟨⟨u0, u1, u2, r3, n3, r4, n4, u5, u6, u7⟩, rfl⟩
/-- A slice, as rows. -/
theorem o_rows {α : Type} [Inhabited α] {t e : TypeId} {f : α → List Value} {n : Nat} (ht : Try.prog.underlying t = some (.slice e)) (hn : Try.prog.cellsOf e = n) (hpos : 0 < n)
    (he : ∀ {fuel : Nat} {cs : List Value} {x : DataW H × List MemPlace}, DataW.trod enc Try.prog w 0 spare held fuel e cs = some x → ∃ a, cs = f a)
    (h : DataW.trod enc Try.prog w 0 spare held fuel t cs = some x) : ∃ A C, ∃ l : List α, cs = [.slice A l.length C] ∧ RowsAt w A n (l.map f) ∧ l.length ≤ C ∧ C ≤ maxLen ∧ (A = none → C = 0) := by
  obtain ⟨A, len, cap, rfl, hl, hc, hA, m, _, hi⟩ := o_slice ht (by omega) h
  rw [hn] at hi
  obtain ⟨T, hT⟩ := choose_lt (p := fun i (a : α) => ∃ b off, A = some ⟨b, off, none⟩ ∧ w.rangeAt b (off + i * n) (f a)) (fun i him => by
    obtain ⟨b, off, cs', y, h1, _, _, h2, h3⟩ := hi i him
    obtain ⟨a, rfl⟩ := he h3
    exact ⟨a, b, off, h1, h2⟩)
  refine ⟨A, cap, (List.range len).map T, by simp, fun j c hj => ?_, by simpa using hl, hc, fun h => (hA h).2⟩
  rw [List.map_map, List.getElem?_map] at hj
  obtain ⟨q, hq, rfl⟩ := Option.map_eq_some_iff.1 hj
  obtain ⟨hjl, rfl⟩ := List.getElem?_eq_some_iff.1 hq
  rw [List.length_range] at hjl
  rw [List.getElem_range]
  exact hT j hjl
theorem o_bytes (h : DataW.trod enc Try.prog w 0 spare held fuel 30 cs = some x) : ∃ A C, ∃ l : List UInt8, cs = [.slice A l.length C] ∧ RowsAt w A 1 (l.map fun x => [b8 x]) ∧ l.length ≤ C ∧ C ≤ maxLen ∧ (A = none → C = 0) :=
  o_rows Try.underlying30 cU8 (by omega) (fun h => o_u8 Try.underlying5 h) h
theorem o_inses (h : DataW.trod enc Try.prog w 0 spare held fuel 38 cs = some x) : ∃ A C, ∃ l : List Ins, cs = [.slice A l.length C] ∧ RowsAt w A 10 (l.map Ins.cells) ∧ l.length ≤ C ∧ C ≤ maxLen ∧ (A = none → C = 0) :=
  o_rows Try.underlying38 cIns (by omega) (fun h => o_ins h) h
theorem o_strs (h : DataW.trod enc Try.prog w 0 spare held fuel 29 cs = some x) : ∃ A C, ∃ l : List ByteArray, cs = [.slice A l.length C] ∧ StrsAt w A l ∧ (∀ s ∈ l, s.size ≤ maxLen) ∧ l.length ≤ C ∧ C ≤ maxLen ∧ (A = none → C = 0) := by
  obtain ⟨A, len, cap, rfl, hl, hc, hA, m, _, hi⟩ := o_slice Try.underlying29 (by rw [cStr]; omega) h
  rw [cStr] at hi
  obtain ⟨T, hT⟩ := choose_lt (p := fun i (s : ByteArray) => s.size ≤ maxLen ∧ ∃ b off, A = some ⟨b, off, none⟩ ∧ w.rangeAt b (off + i * 1) [.string s]) (fun i him => by
    obtain ⟨b, off, cs', y, h1, _, _, h2, h3⟩ := hi i him
    obtain ⟨a, rfl, h4⟩ := o_str Try.underlying9 h3
    exact ⟨a, h4, b, off, h1, h2⟩)
  refine ⟨A, cap, (List.range len).map T, by simp, fun j c hj => ?_, fun s hs => ?_, by simpa using hl, hc, fun h => (hA h).2⟩
  · rw [List.map_map, List.getElem?_map] at hj
    obtain ⟨q, hq, rfl⟩ := Option.map_eq_some_iff.1 hj
    obtain ⟨hjl, rfl⟩ := List.getElem?_eq_some_iff.1 hq
    rw [List.length_range] at hjl
    rw [List.getElem_range]
    exact (hT j hjl).2
  · obtain ⟨i, hi2, rfl⟩ := List.mem_map.1 hs
    exact (hT i (List.mem_range.1 hi2)).1
theorem o_threads (h : DataW.trod enc Try.prog w 0 spare held fuel 31 cs = some x) : ∃ A C, ∃ l : List (List Ins), cs = [.slice A l.length C] ∧ ThreadsAt w A l ∧ l.length ≤ C ∧ C ≤ maxLen ∧ (A = none → C = 0) := by
  obtain ⟨A, len, cap, rfl, hl, hc, hA, m, _, hi⟩ := o_slice Try.underlying31 (by rw [cInses]; omega) h
  rw [cInses] at hi
  obtain ⟨T, hT⟩ := choose_lt (p := fun i (t : List Ins) => ∃ b off B C, A = some ⟨b, off, none⟩ ∧ w.cell? ⟨b, off + i * 1, none⟩ = some (.slice B t.length C) ∧ RowsAt w B 10 (t.map Ins.cells) ∧ t.length ≤ 9223372036854775807) (fun i him => by
    obtain ⟨b, off, cs', y, h1, _, _, h2, h3⟩ := hi i him
    obtain ⟨B, C, l, rfl, h4, h5, h6, _⟩ := o_inses h3
    exact ⟨l, b, off, B, C, h1, by have := h2 0 _ rfl; rwa [Nat.add_zero] at this, h4, by unfold maxLen at h6; omega⟩)
  refine ⟨A, cap, (List.range len).map T, by simp, fun j c hj => ?_, by simpa using hl, hc, fun h => (hA h).2⟩
  rw [List.getElem?_map] at hj
  obtain ⟨q, hq, rfl⟩ := Option.map_eq_some_iff.1 hj
  obtain ⟨hjl, rfl⟩ := List.getElem?_eq_some_iff.1 hq
  rw [List.length_range] at hjl
  rw [List.getElem_range]
  exact hT j hjl
theorem CondAt.succ : ∀ (h : Nat) (cs : List Value) (c : Cnd), CondAt w h cs c → CondAt w (h + 1) cs c
  | 0, _, _, hc => hc.elim
  | h + 1, cs, .mk k t n v kids, hc => by
    obtain ⟨A, C, h1, h2, h3⟩ := hc
    refine ⟨A, C, h1, h2, fun j kid hj => ?_⟩
    obtain ⟨b, off, cs', h4, h5, h6⟩ := h3 j kid hj
    exact ⟨b, off, cs', h4, h5, CondAt.succ h cs' kid h6⟩
theorem CondAt.mono {a b : Nat} (h : a ≤ b) {cs : List Value} {c : Cnd} (hc : CondAt w a cs c) : CondAt w b cs c := by
  induction h with
  | refl => exact hc
  | step _ ih => exact CondAt.succ _ _ _ ih
theorem o_cond : ∀ (fuel : Nat) {cs : List Value} {x : DataW H × List MemPlace}, DataW.trod enc Try.prog w 0 spare held fuel 24 cs = some x → ∃ c : Cnd, CondAt w fuel cs c := by
  intro fuel
  induction fuel using Nat.strongRecOn with
  | ind fuel ih =>
    intro cs x h
    obtain ⟨hl, m, rfl, hf⟩ := o_struct Try.underlying24 h
    rw [cCond] at hl
    obtain ⟨a0, a1, a2, a3, a4, rfl⟩ := len5' hl
    have key : ∀ o, DataW.trod enc Try.prog w 0 spare held m 5 (([a0, a1, a2, a3, a4].drop o).take (Try.prog.cellsOf 5)) ≠ none → ∃ u : UInt8, ([a0, a1, a2, a3, a4].drop o).take 1 = [b8 u] := by
      intro o ho
      obtain ⟨y, hy⟩ := Option.ne_none_iff_exists'.1 ho
      rw [cU8] at hy
      exact o_u8 Try.underlying5 hy
    have nn : ∀ {z : Option (DataW H × List MemPlace)}, (∃ y, z = some y) → z ≠ none := fun ⟨y, hy⟩ => by rw [hy]; exact fun h => by cases h
    obtain ⟨u0, e0⟩ := key 0 (nn (hf 0 _ rfl))
    obtain ⟨u1, e1⟩ := key 1 (nn (hf 1 _ rfl))
    obtain ⟨u2, e2⟩ := key 2 (nn (hf 2 _ rfl))
    obtain ⟨u3, e3⟩ := key 3 (nn (hf 3 _ rfl))
    obtain ⟨y4, h4⟩ := hf 4 _ rfl
    replace h4 : DataW.trod enc Try.prog w 0 spare held m 22 (([a0, a1, a2, a3, a4].drop 4).take (Try.prog.cellsOf 22)) = _ := h4
    rw [cConds] at h4
    obtain ⟨A, len, cap, e4, hle, hc, hA, m2, rfl, hi⟩ := o_slice Try.underlying22 (by rw [cCond]; omega) h4
    rw [cCond] at hi
    simp only [List.drop, List.take, List.cons.injEq, and_true] at e0 e1 e2 e3 e4
    subst e0 e1 e2 e3 e4
    obtain ⟨T, hT⟩ := choose_lt (p := fun i (c : Cnd) => ∃ b off cs', A = some ⟨b, off, none⟩ ∧ w.rangeAt b (off + i * 5) cs' ∧ CondAt w (m2 + 1) cs' c) (fun i him => by
      obtain ⟨b, off, cs', y, h1, _, _, h2, h3⟩ := hi i him
      obtain ⟨c, hcc⟩ := ih m2 (by omega) h3
      exact ⟨c, b, off, cs', h1, h2, hcc.mono (by omega)⟩)
    refine ⟨.mk u0 u1 u2 u3 ((List.range len).map T), A, cap, by simp, by rw [List.length_map, List.length_range]; unfold maxLen at hc; omega, fun j kid hj => ?_⟩
    rw [List.getElem?_map] at hj
    obtain ⟨q, hq, rfl⟩ := Option.map_eq_some_iff.1 hj
    obtain ⟨hjl, rfl⟩ := List.getElem?_eq_some_iff.1 hq
    rw [List.length_range] at hjl
    rw [List.getElem_range]
    exact hT j hjl
theorem o_prog (h : DataW.trod enc Try.prog w 0 spare held fuel 33 cs = some x) : ∃ p : Prg, ProgAt w cs p := by
  obtain ⟨hl, m, _, hf⟩ := o_struct Try.underlying33 h
  rw [cProg] at hl
  obtain ⟨a0, a1, a2, a3, a4, a5, a6, a7, a8, a9, rfl⟩ := len10' hl
  obtain ⟨y0, h0⟩ := hf 0 _ rfl
  obtain ⟨y1, h1⟩ := hf 1 _ rfl
  obtain ⟨y2, h2⟩ := hf 2 _ rfl
  obtain ⟨y3, h3⟩ := hf 3 _ rfl
  obtain ⟨y4, h4⟩ := hf 4 _ rfl
  obtain ⟨y5, h5⟩ := hf 5 _ rfl
  replace h0 : DataW.trod enc Try.prog w 0 spare held m 9 (([a0, a1, a2, a3, a4, a5, a6, a7, a8, a9].drop 0).take (Try.prog.cellsOf 9)) = _ := h0
  replace h1 : DataW.trod enc Try.prog w 0 spare held m 29 (([a0, a1, a2, a3, a4, a5, a6, a7, a8, a9].drop 1).take (Try.prog.cellsOf 29)) = _ := h1
  replace h2 : DataW.trod enc Try.prog w 0 spare held m 30 (([a0, a1, a2, a3, a4, a5, a6, a7, a8, a9].drop 2).take (Try.prog.cellsOf 30)) = _ := h2
  replace h3 : DataW.trod enc Try.prog w 0 spare held m 31 (([a0, a1, a2, a3, a4, a5, a6, a7, a8, a9].drop 3).take (Try.prog.cellsOf 31)) = _ := h3
  replace h4 : DataW.trod enc Try.prog w 0 spare held m 5 (([a0, a1, a2, a3, a4, a5, a6, a7, a8, a9].drop 4).take (Try.prog.cellsOf 5)) = _ := h4
  replace h5 : DataW.trod enc Try.prog w 0 spare held m 24 (([a0, a1, a2, a3, a4, a5, a6, a7, a8, a9].drop 5).take (Try.prog.cellsOf 24)) = _ := h5
  rw [cStr] at h0
  rw [cStrs] at h1
  rw [cU8s] at h2
  rw [cInsess] at h3
  rw [cU8] at h4
  rw [cCond] at h5
  obtain ⟨s, e0, hs⟩ := o_str Try.underlying9 h0
  obtain ⟨LA, LC, locs, e1, l1, l2, l3, l4, _⟩ := o_strs h1
  obtain ⟨IA, IC, init, e2, i1, i2, i3, _⟩ := o_bytes h2
  obtain ⟨TA, TC, threads, e3, t1, t2, t3, _⟩ := o_threads h3
  obtain ⟨ask, e4⟩ := o_u8 Try.underlying5 h4
  obtain ⟨c, hc⟩ := o_cond m h5
  simp only [List.drop, List.take, List.cons.injEq, and_true] at e0 e1 e2 e3 e4 hc
  subst e0 e1 e2 e3 e4
  unfold maxLen at l4 i3 t3
  exact ⟨⟨s, locs, init, threads, ask, c⟩, LA, LC, IA, IC, TA, TC, m, [a5, a6, a7, a8, a9], rfl, hs, l1, by show locs.length ≤ _; omega, l3, l2, i1, by show init.length ≤ _; omega, t1, by show threads.length ≤ _; omega, hc⟩
end
theorem laidOutP : laidOutB Try.prog = true := by kernel_rfl
end Go.Proofs.Ytbdjlmdejlklkaa
