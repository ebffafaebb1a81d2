/-
  The last step of a row, from Below. Conditions: none.
 
  Arguments opened: bytes, structs, slices, programs, as the rows' readings give them. Conditions: none.
 
  The table of needs as the rows' condition gives it; arguments opened. Conditions: none.
-/
import Derived.Test.YtmfdpnjgljlkbaaDoorRows
import Derived.WalkKit
import Derived.ProofKit
import Derived.OpenShut
import Derived.ShutString
import Derived.Below
import Derived.ChangeSame
import Derived.Test.YtmfdpnjgljlkbaaDoorCkK
import Derived.Deep.Slices
import Derived.Deep.Fields
import Derived.SizedLaws
import Derived.WideKeyArgs
import Derived.LaidMore
import Derived.Stop.Joined
set_option linter.unusedSimpArgs false
set_option linter.unusedVariables false
namespace Go.Proofs.YtmfdpnjgljlkbaaDoor
open Go.RowKit Go.WideShapes Go.ChangeShapes
section
variable {H : Type} {enc : TypeId × Value → H} {P : Program}
theorem post_of_below {f : Func} {s : ChangeSpec} {apart fresh handsOn again : Bool} {W W' : World} {args : Array Value} {v : Value} {ds gs : List (DataW H)} {before pa pv : List MemPlace}
    (hW : DataW.Whole enc P f.params.toList s.vars apart W args.toList ds gs before)
    (hres : ∀ (b : Nat) (sp : Nat → Bool) (hd : Bool), DataW.TrodAll enc P W' b sp hd f.resultTypes.toList (v.resultList f.resultTypes.size) (s.fn H (ds ++ gs)).results [])
    (hargs : ∀ sp : Nat → Bool, (∀ p ∈ before, sp p.block = true) → DataW.TrodAll enc P W' 0 sp true f.params.toList args.toList (s.fn H (ds ++ gs)).args pa)
    (hvars : ∀ sp : Nat → Bool, (∀ p ∈ before, sp p.block = true) → DataW.TrodVars enc P W' sp s.vars (s.fn H (ds ++ gs)).vars pv)
    (hps : before = pa ++ pv) (hb : Below W.heap.size W W')
    (hok : ∀ (j : Nat) (t : TypeId) (r : Value), f.resultTypes[j]? = some t → (v.resultList f.resultTypes.size)[j]? = some r → Value.okWide P W' .any 0 t r) :
    s.post enc P f apart fresh handsOn again W args v W' := by
  have hlt : ∀ p ∈ before, p.block < W.heap.size := fun p hp => hW.lt p hp
  have hold : ∀ p ∈ before, (fun b => decide (b < W.heap.size)) p.block = true := fun p hp => by simpa using hlt p hp
  refine ⟨ds, gs, before, [], pa, pv, hW, hres _ _ _, hargs _ hold, hvars _ hold, World.keptBut_mono (fun p hp => ⟨hp, ?_⟩) (hb.frame (· ∈ before)), fun _ => ?_⟩
  · rw [hps, List.mem_append] at hp
    exact Or.inr hp
  · obtain ⟨_, _, _, _, _, hz, hn⟩ := hW
    refine ⟨hok, _, _, ([] ++ pa) ++ pv, ⟨[] ++ pa, pv, trodAll_append (hargs _ (fun _ _ => rfl)) (hres _ _ _), hvars _ (fun _ _ => rfl), rfl, ?_, ?_⟩, ?_⟩
    · intro b off hp
      have hin : MemPlace.cell b off ∈ before := by rw [hps]; simpa using hp
      rw [hb.frozen (hlt _ hin)]
      exact hz b off hin
    · intro ha
      have := hn ha
      rw [hps] at this
      simpa using this
    · intro p hp _
      rw [hps]
      simpa using hp
end
theorem row_knob : ownKnob Tryd.prog.godebug = none := by kernel_rfl
end Go.Proofs.YtmfdpnjgljlkbaaDoor

namespace Go.Proofs.YtmfdpnjgljlkbaaDoor
open Go.ChangeShapes Go.WideShapes Go.ChangeAt Go.RowKit Go.Deep

section
variable {H : Type} {enc : TypeId × Value → H} {P : Program} {w : World} {spare : Nat → Bool} {held : Bool} {fuel : Nat} {t : TypeId} {cs : List Value} {x : DataW H × List MemPlace}
theorem o_struct {fs : Array Field} (ht : P.underlying t = some (.struct fs)) (h : DataW.trod enc P w 0 spare held fuel t cs = some x) :
    cs.length = P.cellsOf t ∧ ∃ n, fuel = n + 1 ∧ ∀ (i : Nat) (f : Field), fs[i]? = some f → ∃ y, DataW.trod enc P w 0 spare held n f.type ((cs.drop f.offset).take (P.cellsOf f.type)) = some y := by
  obtain ⟨xs, n, hn, _, hl, hxl, hf⟩ := DataW.trod_struct ht h
  refine ⟨hl, n, hn, fun i f hi => ?_⟩
  have hlt : i < xs.length := by rw [hxl]; exact (Array.getElem?_eq_some_iff.1 hi).1
  exact ⟨_, (hf i f hi).trans (List.getElem?_eq_getElem hlt)⟩
theorem o_array {n : Nat} {e : TypeId} (ht : P.underlying t = some (.array n e)) (h : DataW.trod enc P w 0 spare held fuel t cs = some x) :
    cs.length = P.cellsOf t ∧ ∃ m, fuel = m + 1 ∧ ∀ i, i < n → ∃ y, DataW.trod enc P w 0 spare held m e ((cs.drop (i * P.cellsOf e)).take (P.cellsOf e)) = some y := by
  obtain ⟨xs, m, hm, _, hl, hxl, hf⟩ := DataW.trod_array ht h
  exact ⟨hl, m, hm, fun i hi => ⟨_, (hf i hi).trans (List.getElem?_eq_getElem (by omega))⟩⟩
theorem o_slice {e : TypeId} (ht : P.underlying t = some (.slice e)) (hpos : 0 < P.cellsOf e) (h : DataW.trod enc P w 0 spare held fuel t cs = some x) :
    ∃ A len cap, cs = [.slice A len cap] ∧ len ≤ cap ∧ cap ≤ maxLen ∧ (A = none → len = 0 ∧ cap = 0) ∧
      ∃ m, fuel = m + 1 ∧ ∀ i, i < len → ∃ b off cs' y, A = some ⟨b, off, none⟩ ∧ b < w.heap.size ∧ cs'.length = P.cellsOf e ∧ w.rangeAt b (off + i * P.cellsOf e) cs' ∧ DataW.trod enc P w 0 spare held m e cs' = some y := by
  rcases DataW.trod_slice ht h with ⟨rfl, _⟩ | ⟨a, len, cap, elems, rest, n, hn, rfl, _, hb, hl, hm, hlen, hel, _, _⟩
  · cases fuel with
    | zero => simp [DataW.trod] at h
    | succ m => exact ⟨none, 0, 0, rfl, Nat.le_refl _, Nat.zero_le _, fun _ => ⟨rfl, rfl⟩, m, rfl, fun i hi => by omega⟩
  · refine ⟨some a, len, cap, rfl, hl, hm, (fun h => by cases h), n, hn, fun i hi => ?_⟩
    obtain ⟨b, o, sp⟩ := a
    have hsp : sp = none := by
      have he := hel 0 (by omega)
      rw [List.getElem?_eq_getElem (by omega)] at he
      obtain ⟨cs', hc, _⟩ := Option.bind_eq_some_iff.1 he
      obtain ⟨_, hcl, hat⟩ := World.cells?_some hc
      have h0 := hat 0 hpos
      rw [List.getElem?_eq_getElem (by omega)] at h0
      simpa [Addr.add] using World.cell?_spot h0
    subst hsp
    have he := hel i hi
    rw [List.getElem?_eq_getElem (by omega)] at he
    obtain ⟨cs', hc, ht'⟩ := Option.bind_eq_some_iff.1 he
    obtain ⟨_, hcl, hat⟩ := World.cells?_some hc
    have hc0 : w.cell? ⟨b, o + i * P.cellsOf e + 0, none⟩ = some (cs'[0]'(by omega)) := by
      have := hat 0 hpos
      rw [List.getElem?_eq_getElem (by omega), Addr.add_mid, Addr.add_mid] at this
      exact this
    refine ⟨b, o, cs', _, rfl, World.block_lt_of_cell? w _ hc0, hcl, fun j v hj => ?_, ht'⟩
    have hjl : j < cs'.length := (List.getElem?_eq_some_iff.1 hj).1
    have := hat j (by omega)
    rw [Addr.add_mid, Addr.add_mid, hj] at this
    exact this
theorem o_u8 (ht : P.underlying t = some (.int .u8)) (h : DataW.trod enc P w 0 spare held fuel t cs = some x) : ∃ u : UInt8, cs = [b8 u] := by
  obtain ⟨n, rfl, _, hwf⟩ := DataW.trod_int ht h
  simp only [Lit.wf, Bool.and_eq_true, decide_eq_true_eq] at hwf
  rw [show IntKind.u8.min = 0 from by decide, show IntKind.u8.max = 255 from by decide] at hwf
  refine ⟨UInt8.ofNat n.toNat, ?_⟩
  have : (UInt8.ofNat n.toNat).toNat = n.toNat := by rw [UInt8.toNat_ofNat']; omega
  simp only [b8, this]
  rw [Int.toNat_of_nonneg hwf.1]
theorem o_bool (ht : P.underlying t = some .bool) (h : DataW.trod enc P w 0 spare held fuel t cs = some x) : ∃ b : Bool, cs = [.bool b] := by
  obtain ⟨b, h1, _⟩ := DataW.trod_bool ht h
  exact ⟨b, h1⟩
theorem o_str (ht : P.underlying t = some .string) (h : DataW.trod enc P w 0 spare held fuel t cs = some x) : ∃ s : ByteArray, cs = [.string s] ∧ s.size ≤ maxLen := by
  obtain ⟨s, h1, _, h2⟩ := DataW.trod_string ht h
  exact ⟨s, h1, h2⟩
/-- A type of n bytes. -/
def ByT (P : Program) (t : TypeId) (n : Nat) : Prop := P.cellsOf t = n ∧ ∀ {H : Type} (enc : TypeId × Value → H) (w : World) (spare : Nat → Bool) (held : Bool) (fuel : Nat) (cs : List Value) (x : DataW H × List MemPlace),
  DataW.trod enc P w 0 spare held fuel t cs = some x → cs.length = n ∧ ∀ i, i < n → ∃ u : UInt8, cs[i]? = some (b8 u)
theorem byT_u8 (ht : P.underlying t = some (.int .u8)) (hc : P.cellsOf t = 1) : ByT P t 1 := ⟨hc, fun enc w sp hd fuel cs x h => by
  obtain ⟨u, rfl⟩ := o_u8 ht h
  refine ⟨rfl, fun i hi => ?_⟩
  obtain rfl : i = 0 := by omega
  exact ⟨u, rfl⟩⟩
theorem byT_array {n m : Nat} {e : TypeId} (ht : P.underlying t = some (.array n e)) (he : ByT P e m) (hm : 0 < m) (hc : P.cellsOf t = n * m) : ByT P t (n * m) := ⟨hc, fun enc w sp hd fuel cs x h => by
  obtain ⟨hl, f, _, hi⟩ := o_array ht h
  rw [hc] at hl
  refine ⟨hl, fun i hin => ?_⟩
  have hq : i / m < n := Nat.div_lt_of_lt_mul (by rwa [Nat.mul_comm] at hin)
  obtain ⟨y, hy⟩ := hi (i / m) hq
  rw [he.1] at hy
  obtain ⟨_, h2⟩ := he.2 enc w sp hd _ _ _ hy
  have hmod := Nat.mod_lt i hm
  obtain ⟨u, hu⟩ := h2 (i % m) hmod
  rw [List.getElem?_take, if_pos hmod, List.getElem?_drop] at hu
  have e1 : i / m * m + i % m = i := Nat.div_add_mod' i m
  rw [e1] at hu
  exact ⟨u, hu⟩⟩
theorem byT_struct {fs : Array Field} {n : Nat} (ht : P.underlying t = some (.struct fs)) (hc : P.cellsOf t = n)
    (hf : ∀ i, i < n → ∃ (k : Nat) (f : Field) (m : Nat), fs[k]? = some f ∧ ByT P f.type m ∧ f.offset ≤ i ∧ i < f.offset + m) : ByT P t n := ⟨hc, fun enc w sp hd fuel cs x h => by
  obtain ⟨hl, q, _, hi⟩ := o_struct ht h
  refine ⟨by rw [hl, hc], fun i hin => ?_⟩
  obtain ⟨k, f, m, hk, hb, h1, h2⟩ := hf i hin
  obtain ⟨y, hy⟩ := hi k f hk
  rw [hb.1] at hy
  obtain ⟨_, h3⟩ := hb.2 enc w sp hd _ _ _ hy
  obtain ⟨u, hu⟩ := h3 (i - f.offset) (by omega)
  rw [List.getElem?_take, if_pos (by omega), List.getElem?_drop] at hu
  rw [show f.offset + (i - f.offset) = i by omega] at hu
  exact ⟨u, hu⟩⟩
end

theorem len2 {α : Type} {l : List α} (h : l.length = 2) : ∃ a b, l = [a, b] := by
  match l, h with
  | [a, b], _ => exact ⟨a, b, rfl⟩
theorem len10' {α : Type} {l : List α} (h : l.length = 10) : ∃ a0 a1 a2 a3 a4 a5 a6 a7 a8 a9, l = [a0, a1, a2, a3, a4, a5, a6, a7, a8, a9] := by
  match l, h with
  | [a0, a1, a2, a3, a4, a5, a6, a7, a8, a9], _ => exact ⟨a0, a1, a2, a3, a4, a5, a6, a7, a8, a9, rfl⟩
theorem len5' {α : Type} {l : List α} (h : l.length = 5) : ∃ a0 a1 a2 a3 a4, l = [a0, a1, a2, a3, a4] := by
  match l, h with
  | [a0, a1, a2, a3, a4], _ => exact ⟨a0, a1, a2, a3, a4, rfl⟩
instance : Inhabited Ins := ⟨⟨0, 0, 0, false, 0, false, 0, 0, 0, 0⟩⟩
instance : Inhabited Cnd := ⟨.mk 0 0 0 0 []⟩
theorem cU8 : Tryd.prog.cellsOf 5 = 1 := by kernel_rfl
theorem cBool : Tryd.prog.cellsOf 4 = 1 := by kernel_rfl
theorem cStr : Tryd.prog.cellsOf 9 = 1 := by kernel_rfl
theorem cArg : Tryd.prog.cellsOf 48 = 2 := by kernel_rfl
theorem cIns : Tryd.prog.cellsOf 50 = 10 := by kernel_rfl
theorem cInses : Tryd.prog.cellsOf 22 = 1 := by kernel_rfl
theorem cInsess : Tryd.prog.cellsOf 35 = 1 := by kernel_rfl
theorem cStrs : Tryd.prog.cellsOf 33 = 1 := by kernel_rfl
theorem cU8s : Tryd.prog.cellsOf 34 = 1 := by kernel_rfl
theorem cCond : Tryd.prog.cellsOf 25 = 5 := by kernel_rfl
theorem cConds : Tryd.prog.cellsOf 23 = 1 := by kernel_rfl
theorem cProg : Tryd.prog.cellsOf 37 = 10 := by kernel_rfl
section
variable {H : Type} {enc : TypeId × Value → H} {w : World} {spare : Nat → Bool} {held : Bool} {fuel : Nat} {cs : List Value} {x : DataW H × List MemPlace}
theorem o_arg (h : DataW.trod enc Tryd.prog w 0 spare held fuel 48 cs = some x) : ∃ (r : Bool) (n : UInt8), cs = [.bool r, b8 n] := by
  obtain ⟨hl, m, _, hf⟩ := o_struct Tryd.underlying48 h
  rw [cArg] at hl
  obtain ⟨a, b, rfl⟩ := len2 hl
  obtain ⟨y0, h0⟩ := hf 0 _ rfl
  obtain ⟨y1, h1⟩ := hf 1 _ rfl
  replace h0 : DataW.trod enc Tryd.prog w 0 spare held m 4 (([a, b].drop 0).take (Tryd.prog.cellsOf 4)) = _ := h0
  replace h1 : DataW.trod enc Tryd.prog w 0 spare held m 5 (([a, b].drop 1).take (Tryd.prog.cellsOf 5)) = _ := h1
  rw [cBool] at h0
  rw [cU8] at h1
  obtain ⟨r, e0⟩ := o_bool Tryd.underlying4 h0
  obtain ⟨n, e1⟩ := o_u8 Tryd.underlying5 h1
  simp only [List.drop, List.take, List.cons.injEq, and_true] at e0 e1
  exact ⟨r, n, by rw [e0, e1]⟩
theorem o_ins (h : DataW.trod enc Tryd.prog w 0 spare held fuel 50 cs = some x) : ∃ i : Ins, cs = i.cells := by
  obtain ⟨hl, m, _, hf⟩ := o_struct Tryd.underlying50 h
  rw [cIns] at hl
  obtain ⟨a0, a1, a2, a3, a4, a5, a6, a7, a8, a9, rfl⟩ := len10' hl
  have key : ∀ o, DataW.trod enc Tryd.prog w 0 spare held m 5 (([a0, a1, a2, a3, a4, a5, a6, a7, a8, a9].drop o).take (Tryd.prog.cellsOf 5)) ≠ none → ∃ u : UInt8, ([a0, a1, a2, a3, a4, a5, a6, a7, a8, a9].drop o).take 1 = [b8 u] := by
    intro o ho
    obtain ⟨y, hy⟩ := Option.ne_none_iff_exists'.1 ho
    rw [cU8] at hy
    exact o_u8 Tryd.underlying5 hy
  have karg : ∀ o, DataW.trod enc Tryd.prog w 0 spare held m 48 (([a0, a1, a2, a3, a4, a5, a6, a7, a8, a9].drop o).take (Tryd.prog.cellsOf 48)) ≠ none → ∃ (r : Bool) (n : UInt8), ([a0, a1, a2, a3, a4, a5, a6, a7, a8, a9].drop o).take 2 = [.bool r, b8 n] := by
    intro o ho
    obtain ⟨y, hy⟩ := Option.ne_none_iff_exists'.1 ho
    rw [cArg] at hy
    exact o_arg hy
  have nn : ∀ {z : Option (DataW H × List MemPlace)}, (∃ y, z = some y) → z ≠ none := fun ⟨y, hy⟩ => by rw [hy]; exact fun h => by cases h
  obtain ⟨u0, e0⟩ := key 0 (nn (hf 0 _ rfl))
  obtain ⟨u1, e1⟩ := key 1 (nn (hf 1 _ rfl))
  obtain ⟨u2, e2⟩ := key 2 (nn (hf 2 _ rfl))
  obtain ⟨r3, n3, e3⟩ := karg 3 (nn (hf 3 _ rfl))
  obtain ⟨r4, n4, e4⟩ := karg 5 (nn (hf 4 _ rfl))
  obtain ⟨u5, e5⟩ := key 7 (nn (hf 5 _ rfl))
  obtain ⟨u6, e6⟩ := key 8 (nn (hf 6 _ rfl))
  obtain ⟨u7, e7⟩ := key 9 (nn (hf 7 _ rfl))
  simp only [List.drop, List.take, List.cons.injEq, and_true] at e0 e1 e2 e3 e4 e5 e6 e7
  obtain ⟨e3, e3'⟩ := e3
  obtain ⟨e4, e4'⟩ := e4
  subst e0 e1 e2 e3 e3' e4 e4' e5 e6 e7
  exact ⟨⟨u0, u1, u2, r3, n3, r4, n4, u5, u6, u7⟩, rfl⟩
/-- A slice, as rows. -/
theorem o_rows {α : Type} [Inhabited α] {t e : TypeId} {f : α → List Value} {n : Nat} (ht : Tryd.prog.underlying t = some (.slice e)) (hn : Tryd.prog.cellsOf e = n) (hpos : 0 < n)
    (he : ∀ {fuel : Nat} {cs : List Value} {x : DataW H × List MemPlace}, DataW.trod enc Tryd.prog w 0 spare held fuel e cs = some x → ∃ a, cs = f a)
    (h : DataW.trod enc Tryd.prog w 0 spare held fuel t cs = some x) : ∃ A C, ∃ l : List α, cs = [.slice A l.length C] ∧ RowsAt w A n (l.map f) ∧ l.length ≤ C ∧ C ≤ maxLen ∧ (A = none → C = 0) := by
  obtain ⟨A, len, cap, rfl, hl, hc, hA, m, _, hi⟩ := o_slice ht (by omega) h
  rw [hn] at hi
  obtain ⟨T, hT⟩ := choose_lt (p := fun i (a : α) => ∃ b off, A = some ⟨b, off, none⟩ ∧ w.rangeAt b (off + i * n) (f a)) (fun i him => by
    obtain ⟨b, off, cs', y, h1, _, _, h2, h3⟩ := hi i him
    obtain ⟨a, rfl⟩ := he h3
    exact ⟨a, b, off, h1, h2⟩)
  refine ⟨A, cap, (List.range len).map T, by simp, fun j c hj => ?_, by simpa using hl, hc, fun h => (hA h).2⟩
  rw [List.map_map, List.getElem?_map] at hj
  obtain ⟨q, hq, rfl⟩ := Option.map_eq_some_iff.1 hj
  obtain ⟨hjl, rfl⟩ := List.getElem?_eq_some_iff.1 hq
  rw [List.length_range] at hjl
  rw [List.getElem_range]
  exact hT j hjl
theorem o_bytes (h : DataW.trod enc Tryd.prog w 0 spare held fuel 34 cs = some x) : ∃ A C, ∃ l : List UInt8, cs = [.slice A l.length C] ∧ RowsAt w A 1 (l.map fun x => [b8 x]) ∧ l.length ≤ C ∧ C ≤ maxLen ∧ (A = none → C = 0) :=
  o_rows Tryd.underlying34 cU8 (by omega) (fun h => o_u8 Tryd.underlying5 h) h
theorem o_inses (h : DataW.trod enc Tryd.prog w 0 spare held fuel 22 cs = some x) : ∃ A C, ∃ l : List Ins, cs = [.slice A l.length C] ∧ RowsAt w A 10 (l.map Ins.cells) ∧ l.length ≤ C ∧ C ≤ maxLen ∧ (A = none → C = 0) :=
  o_rows Tryd.underlying22 cIns (by omega) (fun h => o_ins h) h
theorem o_strs (h : DataW.trod enc Tryd.prog w 0 spare held fuel 33 cs = some x) : ∃ A C, ∃ l : List ByteArray, cs = [.slice A l.length C] ∧ StrsAt w A l ∧ (∀ s ∈ l, s.size ≤ maxLen) ∧ l.length ≤ C ∧ C ≤ maxLen ∧ (A = none → C = 0) := by
  obtain ⟨A, len, cap, rfl, hl, hc, hA, m, _, hi⟩ := o_slice Tryd.underlying33 (by rw [cStr]; omega) h
  rw [cStr] at hi
  obtain ⟨T, hT⟩ := choose_lt (p := fun i (s : ByteArray) => s.size ≤ maxLen ∧ ∃ b off, A = some ⟨b, off, none⟩ ∧ w.rangeAt b (off + i * 1) [.string s]) (fun i him => by
    obtain ⟨b, off, cs', y, h1, _, _, h2, h3⟩ := hi i him
    obtain ⟨a, rfl, h4⟩ := o_str Tryd.underlying9 h3
    exact ⟨a, h4, b, off, h1, h2⟩)
  refine ⟨A, cap, (List.range len).map T, by simp, fun j c hj => ?_, fun s hs => ?_, by simpa using hl, hc, fun h => (hA h).2⟩
  · rw [List.map_map, List.getElem?_map] at hj
    obtain ⟨q, hq, rfl⟩ := Option.map_eq_some_iff.1 hj
    obtain ⟨hjl, rfl⟩ := List.getElem?_eq_some_iff.1 hq
    rw [List.length_range] at hjl
    rw [List.getElem_range]
    exact (hT j hjl).2
  · obtain ⟨i, hi2, rfl⟩ := List.mem_map.1 hs
    exact (hT i (List.mem_range.1 hi2)).1
theorem o_threads (h : DataW.trod enc Tryd.prog w 0 spare held fuel 35 cs = some x) : ∃ A C, ∃ l : List (List Ins), cs = [.slice A l.length C] ∧ ThreadsAt w A l ∧ l.length ≤ C ∧ C ≤ maxLen ∧ (A = none → C = 0) := by
  obtain ⟨A, len, cap, rfl, hl, hc, hA, m, _, hi⟩ := o_slice Tryd.underlying35 (by rw [cInses]; omega) h
  rw [cInses] at hi
  obtain ⟨T, hT⟩ := choose_lt (p := fun i (t : List Ins) => ∃ b off B C, A = some ⟨b, off, none⟩ ∧ w.cell? ⟨b, off + i * 1, none⟩ = some (.slice B t.length C) ∧ RowsAt w B 10 (t.map Ins.cells) ∧ t.length ≤ 9223372036854775807) (fun i him => by
    obtain ⟨b, off, cs', y, h1, _, _, h2, h3⟩ := hi i him
    obtain ⟨B, C, l, rfl, h4, h5, h6, _⟩ := o_inses h3
    exact ⟨l, b, off, B, C, h1, by have := h2 0 _ rfl; rwa [Nat.add_zero] at this, h4, by unfold maxLen at h6; omega⟩)
  refine ⟨A, cap, (List.range len).map T, by simp, fun j c hj => ?_, by simpa using hl, hc, fun h => (hA h).2⟩
  rw [List.getElem?_map] at hj
  obtain ⟨q, hq, rfl⟩ := Option.map_eq_some_iff.1 hj
  obtain ⟨hjl, rfl⟩ := List.getElem?_eq_some_iff.1 hq
  rw [List.length_range] at hjl
  rw [List.getElem_range]
  exact hT j hjl
theorem CondAt.succ : ∀ (h : Nat) (cs : List Value) (c : Cnd), CondAt w h cs c → CondAt w (h + 1) cs c
  | 0, _, _, hc => hc.elim
  | h + 1, cs, .mk k t n v kids, hc => by
    obtain ⟨A, C, h1, h2, h3⟩ := hc
    refine ⟨A, C, h1, h2, fun j kid hj => ?_⟩
    obtain ⟨b, off, cs', h4, h5, h6⟩ := h3 j kid hj
    exact ⟨b, off, cs', h4, h5, CondAt.succ h cs' kid h6⟩
theorem CondAt.mono {a b : Nat} (h : a ≤ b) {cs : List Value} {c : Cnd} (hc : CondAt w a cs c) : CondAt w b cs c := by
  induction h with
  | refl => exact hc
  | step _ ih => exact CondAt.succ _ _ _ ih
theorem o_cond : ∀ (fuel : Nat) {cs : List Value} {x : DataW H × List MemPlace}, DataW.trod enc Tryd.prog w 0 spare held fuel 25 cs = some x → ∃ c : Cnd, CondAt w fuel cs c := by
  intro fuel
  induction fuel using Nat.strongRecOn with
  | ind fuel ih =>
    intro cs x h
    obtain ⟨hl, m, rfl, hf⟩ := o_struct Tryd.underlying25 h
    rw [cCond] at hl
    obtain ⟨a0, a1, a2, a3, a4, rfl⟩ := len5' hl
    have key : ∀ o, DataW.trod enc Tryd.prog w 0 spare held m 5 (([a0, a1, a2, a3, a4].drop o).take (Tryd.prog.cellsOf 5)) ≠ none → ∃ u : UInt8, ([a0, a1, a2, a3, a4].drop o).take 1 = [b8 u] := by
      intro o ho
      obtain ⟨y, hy⟩ := Option.ne_none_iff_exists'.1 ho
      rw [cU8] at hy
      exact o_u8 Tryd.underlying5 hy
    have nn : ∀ {z : Option (DataW H × List MemPlace)}, (∃ y, z = some y) → z ≠ none := fun ⟨y, hy⟩ => by rw [hy]; exact fun h => by cases h
    obtain ⟨u0, e0⟩ := key 0 (nn (hf 0 _ rfl))
    obtain ⟨u1, e1⟩ := key 1 (nn (hf 1 _ rfl))
    obtain ⟨u2, e2⟩ := key 2 (nn (hf 2 _ rfl))
    obtain ⟨u3, e3⟩ := key 3 (nn (hf 3 _ rfl))
    obtain ⟨y4, h4⟩ := hf 4 _ rfl
    replace h4 : DataW.trod enc Tryd.prog w 0 spare held m 23 (([a0, a1, a2, a3, a4].drop 4).take (Tryd.prog.cellsOf 23)) = _ := h4
    rw [cConds] at h4
    obtain ⟨A, len, cap, e4, hle, hc, hA, m2, rfl, hi⟩ := o_slice Tryd.underlying23 (by rw [cCond]; omega) h4
    rw [cCond] at hi
    simp only [List.drop, List.take, List.cons.injEq, and_true] at e0 e1 e2 e3 e4
    subst e0 e1 e2 e3 e4
    obtain ⟨T, hT⟩ := choose_lt (p := fun i (c : Cnd) => ∃ b off cs', A = some ⟨b, off, none⟩ ∧ w.rangeAt b (off + i * 5) cs' ∧ CondAt w (m2 + 1) cs' c) (fun i him => by
      obtain ⟨b, off, cs', y, h1, _, _, h2, h3⟩ := hi i him
      obtain ⟨c, hcc⟩ := ih m2 (by omega) h3
      exact ⟨c, b, off, cs', h1, h2, hcc.mono (by omega)⟩)
    refine ⟨.mk u0 u1 u2 u3 ((List.range len).map T), A, cap, by simp, by rw [List.length_map, List.length_range]; unfold maxLen at hc; omega, fun j kid hj => ?_⟩
    rw [List.getElem?_map] at hj
    obtain ⟨q, hq, rfl⟩ := Option.map_eq_some_iff.1 hj
    obtain ⟨hjl, rfl⟩ := List.getElem?_eq_some_iff.1 hq
    rw [List.length_range] at hjl
    rw [List.getElem_range]
    exact hT j hjl
theorem o_prog (h : DataW.trod enc Tryd.prog w 0 spare held fuel 37 cs = some x) : ∃ p : Prg, ProgAt w cs p := by
  obtain ⟨hl, m, _, hf⟩ := o_struct Tryd.underlying37 h
  rw [cProg] at hl
  obtain ⟨a0, a1, a2, a3, a4, a5, a6, a7, a8, a9, rfl⟩ := len10' hl
  obtain ⟨y0, h0⟩ := hf 0 _ rfl
  obtain ⟨y1, h1⟩ := hf 1 _ rfl
  obtain ⟨y2, h2⟩ := hf 2 _ rfl
  obtain ⟨y3, h3⟩ := hf 3 _ rfl
  obtain ⟨y4, h4⟩ := hf 4 _ rfl
  obtain ⟨y5, h5⟩ := hf 5 _ rfl
  replace h0 : DataW.trod enc Tryd.prog w 0 spare held m 9 (([a0, a1, a2, a3, a4, a5, a6, a7, a8, a9].drop 0).take (Tryd.prog.cellsOf 9)) = _ := h0
  replace h1 : DataW.trod enc Tryd.prog w 0 spare held m 33 (([a0, a1, a2, a3, a4, a5, a6, a7, a8, a9].drop 1).take (Tryd.prog.cellsOf 33)) = _ := h1
  replace h2 : DataW.trod enc Tryd.prog w 0 spare held m 34 (([a0, a1, a2, a3, a4, a5, a6, a7, a8, a9].drop 2).take (Tryd.prog.cellsOf 34)) = _ := h2
  replace h3 : DataW.trod enc Tryd.prog w 0 spare held m 35 (([a0, a1, a2, a3, a4, a5, a6, a7, a8, a9].drop 3).take (Tryd.prog.cellsOf 35)) = _ := h3
  replace h4 : DataW.trod enc Tryd.prog w 0 spare held m 5 (([a0, a1, a2, a3, a4, a5, a6, a7, a8, a9].drop 4).take (Tryd.prog.cellsOf 5)) = _ := h4
  replace h5 : DataW.trod enc Tryd.prog w 0 spare held m 25 (([a0, a1, a2, a3, a4, a5, a6, a7, a8, a9].drop 5).take (Tryd.prog.cellsOf 25)) = _ := h5
  rw [cStr] at h0
  rw [cStrs] at h1
  rw [cU8s] at h2
  rw [cInsess] at h3
  rw [cU8] at h4
  rw [cCond] at h5
  obtain ⟨s, e0, hs⟩ := o_str Tryd.underlying9 h0
  obtain ⟨LA, LC, locs, e1, l1, l2, l3, l4, _⟩ := o_strs h1
  obtain ⟨IA, IC, init, e2, i1, i2, i3, _⟩ := o_bytes h2
  obtain ⟨TA, TC, threads, e3, t1, t2, t3, _⟩ := o_threads h3
  obtain ⟨ask, e4⟩ := o_u8 Tryd.underlying5 h4
  obtain ⟨c, hc⟩ := o_cond m h5
  simp only [List.drop, List.take, List.cons.injEq, and_true] at e0 e1 e2 e3 e4 hc
  subst e0 e1 e2 e3 e4
  unfold maxLen at l4 i3 t3
  exact ⟨⟨s, locs, init, threads, ask, c⟩, LA, LC, IA, IC, TA, TC, m, [a5, a6, a7, a8, a9], rfl, hs, l1, by show locs.length ≤ _; omega, l3, l2, i1, by show init.length ≤ _; omega, t1, by show threads.length ≤ _; omega, hc⟩
end
theorem laidOutP : laidOutB Tryd.prog = true := by kernel_rfl
end Go.Proofs.YtmfdpnjgljlkbaaDoor

namespace Go.Proofs.YtmfdpnjgljlkbaaDoor
open Go.ChangeShapes Go.WideShapes Go.ChangeAt Go.RowKit Go.Deep
set_option maxRecDepth 100000

def laidN : List (String × DataW Unit) := [("seisin/check.needs", Rows.laid_seisin_check_needs)]
/-- A laid variable, found in the list. -/
theorem laid_at {P : Program} {W : World} {n : String} {d : DataW Unit} : ∀ {l : List (String × DataW Unit)} {ps : List MemPlace}, DataW.LaidVars P W l ps → (n, d) ∈ l →
    ∃ g t cs fuel p, P.globalNamed n = some g ∧ (P.globals[g]?).map (·.type) = some t ∧ W.var? P n = some cs ∧ DataW.trod (fun _ => ()) P W 0 (fun _ => true) false fuel t cs.toList = some (d, p)
  | [], _, _, hm => by cases hm
  | (n0, d0) :: r, ps, ⟨g, t, cs, f, p, q, h1, h2, h3, h4, h5, _⟩, hm => by
    rcases List.mem_cons.1 hm with e | e
    · cases e; exact ⟨g, t, cs, f, p, h1, h2, h3, h4⟩
    · exact laid_at h5 e
theorem gNeeds : Tryd.prog.globalNamed "seisin/check.needs" = some 0 := by kernel_rfl
theorem tNeeds : (Tryd.prog.globals[0]?).map (·.type) = some 95 := by kernel_rfl
theorem needs_of_laid {W : World} (h : laidMetH Tryd.prog laidN W) : NeedsAt W := by
  rw [MakeChecks.laidMetH_plain _ _ _ (by kernel_rfl)] at h
  obtain ⟨ps, hps, _, _⟩ := h
  obtain ⟨g0, t0, cs0, f0, p0, hg0, ht0, hv0, hd0⟩ := laid_at (n := "seisin/check.needs") (d := Rows.laid_seisin_check_needs) hps (by unfold laidN; first | exact .head _ | exact .tail _ (.head _) | exact .tail _ (.tail _ (.tail _ (.head _))))
  obtain rfl := Option.some.inj (gNeeds.symm.trans hg0)
  obtain rfl := Option.some.inj (tNeeds.symm.trans ht0)
  obtain ⟨xs, m1, rfl, hx1, hlen, hn3, hel⟩ := DataW.trod_array Tryd.underlying95 hd0
  have key : ∀ i, i < 9 → ∃ n, cs0[i]? = some (.int .u8 n) ∧ (xs.map (·.1))[i]? = some (.lit (.int .u8 n)) := fun i hi => by
    have h1 := hel i hi
    rw [cU8, List.getElem?_eq_getElem (by omega)] at h1
    obtain ⟨n, e1, e2, _⟩ := DataW.trod_int Tryd.underlying5 h1
    refine ⟨n, ?_, ?_⟩
    · have : (((cs0.toList.drop (i * 1)).take 1))[0]? = some (.int .u8 n) := by rw [e1]; rfl
      rw [List.getElem?_take, if_pos (by omega), List.getElem?_drop, Nat.mul_one, Nat.add_zero, Array.getElem?_toList] at this
      exact this
    · rw [List.getElem?_map, List.getElem?_eq_getElem (by omega), e2]; rfl
  simp only [Prod.mk.injEq] at hx1
  have hl : xs.map (·.1) = [.lit (.int .u8 0), .lit (.int .u8 35), .lit (.int .u8 38), .lit (.int .u8 29), .lit (.int .u8 7), .lit (.int .u8 7), .lit (.int .u8 15), .lit (.int .u8 32), .lit (.int .u8 92)] := by
    have := hx1.1
    simp only [Rows.laid_seisin_check_needs, DataW.agg.injEq] at this
    exact this.symm
  rw [hl] at key
  have fin : ∀ i : UInt8, i < 9 → ∀ n : Int, (([.lit (.int .u8 0), .lit (.int .u8 35), .lit (.int .u8 38), .lit (.int .u8 29), .lit (.int .u8 7), .lit (.int .u8 7), .lit (.int .u8 15), .lit (.int .u8 32), .lit (.int .u8 92)] : List (DataW Unit))[i.toNat]? = some (.lit (.int .u8 n))) → Value.int .u8 n = b8 (needOf i) := by
    intro i hi n hn
    have h9 : i.toNat < 9 := UInt8.lt_iff_toNat_lt.1 hi
    have hi2 : i = UInt8.ofNat i.toNat := by simp
    generalize i.toNat = k at h9 hn hi2
    subst hi2
    match k, h9 with
    | 0, _ => simp at hn; subst hn; rfl
    | 1, _ => simp at hn; subst hn; rfl
    | 2, _ => simp at hn; subst hn; rfl
    | 3, _ => simp at hn; subst hn; rfl
    | 4, _ => simp at hn; subst hn; rfl
    | 5, _ => simp at hn; subst hn; rfl
    | 6, _ => simp at hn; subst hn; rfl
    | 7, _ => simp at hn; subst hn; rfl
    | 8, _ => simp at hn; subst hn; rfl
    | k + 9, h => omega
  intro i hi
  obtain ⟨n, h1, h2⟩ := key i.toNat (UInt8.lt_iff_toNat_lt.1 hi)
  rw [World.var?_cell hg0 hv0, h1, fin i hi n h2]

section
variable {H : Type} {enc : TypeId × Value → H} {W : World} {v : Value} {d : DataW H} {p : List MemPlace}
theorem okWide_array' {P : Program} {w : World} {r : Reach} {base : Nat} {t e : TypeId} {n : Nat} {v : Value} (ht : P.underlying t = some (.array n e)) (h : Value.okWide P w r base t v) : ∃ cs, v = .agg cs := by
  simp only [Value.okWide, ht] at h
  obtain ⟨cs, h1, _⟩ := h
  exact ⟨cs, h1⟩
theorem a_prog (hv : Value.okWide Tryd.prog W .any 0 37 v) (h : DataW.Trod enc Tryd.prog W 0 (fun _ => true) true 37 v d p) : ∃ cs q, v = .agg cs.toArray ∧ ProgAt W cs q := by
  obtain ⟨cs, rfl, _⟩ := okWide_struct Tryd.underlying37 hv
  obtain ⟨fuel, hf⟩ := h
  obtain ⟨q, hq⟩ := o_prog hf
  exact ⟨cs.toList, q, by simp, hq⟩
theorem a_bytes (hv : Value.okWide Tryd.prog W .any 0 34 v) (h : DataW.Trod enc Tryd.prog W 0 (fun _ => true) true 34 v d p) : ∃ A C, ∃ l : List UInt8, v = .slice A l.length C ∧ RowsAt W A 1 (l.map fun x => [b8 x]) ∧ l.length ≤ C ∧ l.length ≤ 9223372036854775807 ∧ (A = none → C = 0) := by
  obtain ⟨a, len, cap, rfl⟩ := okWide_slice Tryd.underlying34 hv
  obtain ⟨fuel, hf⟩ := h
  obtain ⟨A, C, l, h1, h2, h3, h4, h5⟩ := o_bytes hf
  unfold maxLen at h4
  exact ⟨A, C, l, by simpa [Value.cells] using h1, h2, h3, by omega, h5⟩
theorem a_int (hv : Value.okWide Tryd.prog W .any 0 3 v) (h : DataW.Trod enc Tryd.prog W 0 (fun _ => true) true 3 v d p) : ∃ n : Int, v = .int .i64 n ∧ -9223372036854775808 ≤ n ∧ n ≤ 9223372036854775807 := by
  obtain ⟨n, rfl⟩ := okWide_int Tryd.underlying3 hv
  obtain ⟨fuel, hf⟩ := h
  obtain ⟨m, h1, _, hwf⟩ := DataW.trod_int Tryd.underlying3 hf
  simp only [Value.cells, List.cons.injEq, Value.int.injEq, and_true, true_and] at h1
  subst h1
  simp only [Lit.wf, Bool.and_eq_true, decide_eq_true_eq] at hwf
  rw [show IntKind.i64.min = -9223372036854775808 from by decide, show IntKind.i64.max = 9223372036854775807 from by decide] at hwf
  exact ⟨n, rfl, hwf.1, hwf.2⟩
theorem a_u8 (hv : Value.okWide Tryd.prog W .any 0 5 v) (h : DataW.Trod enc Tryd.prog W 0 (fun _ => true) true 5 v d p) : ∃ u : UInt8, v = b8 u := by
  obtain ⟨n, rfl⟩ := okWide_int Tryd.underlying5 hv
  obtain ⟨fuel, hf⟩ := h
  obtain ⟨u, h1⟩ := o_u8 Tryd.underlying5 hf
  exact ⟨u, by simpa [Value.cells] using h1⟩
end
end Go.Proofs.YtmfdpnjgljlkbaaDoor
