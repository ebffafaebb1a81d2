/-
  The law of layer 4: sizes, which covers sources around the limits. Conditions: none.
-/
import Derived.Test.YtckpkgnnbnfoeaaLexes
import Derived.Test.YtckpkgnnbnfoeaaWords
import Derived.Test.YtckpkgnnbnfoeaaAwake
import Derived.Laws.IdiomStrings
namespace Go.Proofs.Ytckpkgnnbnfoeaa
open Go.RowKit

theorem conv1 (w : World) (n : Int) (h0 : 0 ≤ n) (h1 : n ≤ 255) :
    (convert 34 9 (.slice (some ⟨w.heap.size, 0, none⟩) 1 1)).run Try.prog (w.alloc (.cells #[.int .u8 n] 5)) = .ok (.string ⟨#[UInt8.ofNat n.toNat]⟩) (w.alloc (.cells #[.int .u8 n] 5)) := by
  have h := run_convert_bytes_back (P := Try.prog) (w.alloc (.cells #[.int .u8 n] 5)) 34 9 5 ⟨w.heap.size, 0, none⟩ 1 [UInt8.ofNat n.toNat] Try.underlying34 Try.underlying5 Try.underlying9 (by
    intro j hj
    have hj0 : j = 0 := by simp at hj; omega
    subst hj0
    have hc : (w.alloc (.cells #[.int .u8 n] 5)).cell? ⟨w.heap.size, 0, none⟩ = some (.int .u8 n) := Blk.cell (Blk.new w #[.int .u8 n] 5) 0 rfl
    show (w.alloc (.cells #[.int .u8 n] 5)).cell? ⟨w.heap.size, 0, none⟩ = _
    rw [hc]
    simp only [List.getElem_cons_zero, Option.some.injEq, Value.int.injEq, true_and]
    rw [UInt8.toNat_ofNat']
    omega)
  exact h

theorem conv3 (w : World) (a b c : Int) (ha : 0 ≤ a ∧ a ≤ 255) (hb : 0 ≤ b ∧ b ≤ 255) (hc : 0 ≤ c ∧ c ≤ 255) :
    (convert 34 9 (.slice (some ⟨w.heap.size, 0, none⟩) 3 3)).run Try.prog (w.alloc (.cells #[.int .u8 a, .int .u8 b, .int .u8 c] 5)) = .ok (.string ⟨#[UInt8.ofNat a.toNat, UInt8.ofNat b.toNat, UInt8.ofNat c.toNat]⟩) (w.alloc (.cells #[.int .u8 a, .int .u8 b, .int .u8 c] 5)) := by
  have hB := Blk.new w #[.int .u8 a, .int .u8 b, .int .u8 c] 5
  have h := run_convert_bytes_back (P := Try.prog) (w.alloc (.cells #[.int .u8 a, .int .u8 b, .int .u8 c] 5)) 34 9 5 ⟨w.heap.size, 0, none⟩ 3 [UInt8.ofNat a.toNat, UInt8.ofNat b.toNat, UInt8.ofNat c.toNat] Try.underlying34 Try.underlying5 Try.underlying9 (by
    intro j hj
    have hj' : j < 3 := hj
    rcases (by omega : j = 0 ∨ j = 1 ∨ j = 2) with rfl | rfl | rfl
    · refine (hB.cell 0 rfl).trans ?_
      simp only [List.getElem_cons_zero, UInt8.toNat_ofNat', Option.some.injEq, Value.int.injEq, true_and]
      omega
    · refine (hB.cell 1 rfl).trans ?_
      simp only [List.getElem_cons_succ, List.getElem_cons_zero, UInt8.toNat_ofNat', Option.some.injEq, Value.int.injEq, true_and]
      omega
    · refine (hB.cell 2 rfl).trans ?_
      simp only [List.getElem_cons_succ, List.getElem_cons_zero, UInt8.toNat_ofNat', Option.some.injEq, Value.int.injEq, true_and]
      omega)
  exact h
/-- The words of the list. -/
def wordL : List ByteArray := [⟨#[116, 101, 115, 116]⟩, ⟨#[105, 110, 105, 116]⟩, ⟨#[116, 104, 114, 101, 97, 100]⟩, ⟨#[115, 111, 109, 101]⟩, ⟨#[110, 111, 110, 101]⟩, ⟨#[97, 108, 108]⟩, ⟨#[97, 99, 113]⟩, ⟨#[114, 101, 108]⟩, ⟨#[115, 119, 97, 112]⟩, ⟨#[102, 101, 116, 99, 104]⟩, ⟨#[99, 97, 115]⟩, ⟨#[102, 101, 110, 99, 101]⟩, ⟨#[108, 111, 97, 100, 115]⟩, ⟨#[115, 116, 111, 114, 101, 115]⟩, ⟨#[115, 107, 105, 112]⟩, ⟨#[105, 102]⟩, ⟨#[116, 114, 117, 101]⟩, ⟨#[84, 101, 115, 116]⟩, ⟨#[102, 97, 108, 115, 101]⟩, ⟨#[]⟩]
def wordN (i : Nat) : ByteArray := wordL.getD i ByteArray.empty
theorem wordN_size (i : Nat) : (wordN i).size ≤ 6 := by
  have h : wordL.all (fun x => decide (x.size ≤ 6)) = true := by decide +kernel
  unfold wordN
  rw [List.getD_eq_getElem?_getD]
  cases hx : wordL[i]? with
  | none => exact Nat.zero_le _
  | some x =>
    have := List.all_eq_true.1 h x (List.mem_of_getElem? hx)
    simpa using this
/-- The block B holds the words. -/
def WordsAt (w : World) (B : Nat) : Prop := B < w.heap.size ∧ ∀ i, i < 20 → w.cell? ⟨B, i, none⟩ = some (.string (wordN i))
theorem WordsAt.drewN {w : World} {B : Nat} (h : WordsAt w B) (d : Nat) : WordsAt (w.drewN d) B :=
  ⟨by simpa using h.1, fun i hi => by simpa using h.2 i hi⟩
theorem wordsAt_new (w : World) (t : TypeId) : WordsAt (w.alloc (.cells #[.string ⟨#[116, 101, 115, 116]⟩, .string ⟨#[105, 110, 105, 116]⟩, .string ⟨#[116, 104, 114, 101, 97, 100]⟩, .string ⟨#[115, 111, 109, 101]⟩, .string ⟨#[110, 111, 110, 101]⟩, .string ⟨#[97, 108, 108]⟩, .string ⟨#[97, 99, 113]⟩, .string ⟨#[114, 101, 108]⟩, .string ⟨#[115, 119, 97, 112]⟩, .string ⟨#[102, 101, 116, 99, 104]⟩, .string ⟨#[99, 97, 115]⟩, .string ⟨#[102, 101, 110, 99, 101]⟩, .string ⟨#[108, 111, 97, 100, 115]⟩, .string ⟨#[115, 116, 111, 114, 101, 115]⟩, .string ⟨#[115, 107, 105, 112]⟩, .string ⟨#[105, 102]⟩, .string ⟨#[116, 114, 117, 101]⟩, .string ⟨#[84, 101, 115, 116]⟩, .string ⟨#[102, 97, 108, 115, 101]⟩, .string ⟨#[]⟩] t)) w.heap.size := by
  refine ⟨by simp, fun i hi => ?_⟩
  refine (Blk.new w _ t).cell i ?_
  have h : i < (wordL.map Value.string).length := hi
  have h2 : (wordL.map Value.string)[i]? = some (.string (wordN i)) := by
    have h3 : i < wordL.length := hi
    rw [List.getElem?_map, List.getElem?_eq_getElem h3]
    unfold wordN
    rw [List.getD_eq_getElem?_getD, List.getElem?_eq_getElem h3]
    rfl
  exact h2
theorem WordsAt.below {w w1 : World} {B : Nat} (h : WordsAt w B) (hb : Below w.heap.size w w1) : WordsAt w1 B :=
  ⟨Nat.lt_of_lt_of_le h.1 hb.size, fun i hi => (hb.cell (p := ⟨B, i, none⟩) h.1).trans (h.2 i hi)⟩
theorem below_step {w wx w1 : World} (h : Below w.heap.size w wx) (hb : Below wx.heap.size wx w1) : Below w.heap.size w w1 := h.trans (hb.mono h.size)
theorem wrap_inc {i : Nat} (h : i < 100) : IntKind.i64.wrap ((i : Int) + 1) = (i : Int) + 1 := by rw [IntKind.wrap_i64]; omega
theorem small_size {s : ByteArray} (h : s.size ≤ 20000) : s.size ≤ maxLen := by unfold maxLen; omega
theorem size_mk (a : Array UInt8) : (⟨a⟩ : ByteArray).size = a.size := rfl

/-- The block B holds 16385 bytes. -/
def BytesAt (w : World) (B : Nat) : Prop := ∃ l : List UInt8, l.length = 16385 ∧ Blk w B (l.map fun b => .int .u8 (b.toNat : Int)) 5
theorem make_bytes : ∃ C : Array Value, (∀ w : World, (Instr.makeSlice 34 (.int .i64 16385) (.int .i64 16385)).run Try.prog w = .ok (.slice (some ⟨w.heap.size, 0, none⟩) 16385 16385) (w.alloc (.cells C 5))) ∧
    ∀ w : World, BytesAt (w.alloc (.cells C 5)) w.heap.size := by
  obtain ⟨i0, hi, hz0, hz1, hz2⟩ := info_parts byte_info
  refine ⟨madeCells #[.int .u8 0] 16385, fun w => ?_, fun w => ⟨List.replicate 16385 0, List.length_replicate, ?_⟩⟩
  · have hr := run_make (P := Try.prog) w 34 5 i0 (.int .u8 0) Try.underlying34 hi hz0 .i64 .i64 16385 16385 (by omega) (by omega) (by rw [hz2]; omega) (by omega)
    rw [hz1] at hr
    exact hr
  · have := Blk.new w (madeCells #[.int .u8 0] 16385) 5
    rw [toList_madeCells_one] at this
    rw [List.map_replicate]
    exact this
theorem BytesAt.frozen {w : World} {B : Nat} (h : BytesAt w B) (j : Nat) : w.frozen? ⟨B, j, none⟩ = false := by
  obtain ⟨l, _, hb⟩ := h; exact hb.frozen j
theorem BytesAt.cell {w : World} {B : Nat} (h : BytesAt w B) {j : Nat} (hj : j < 16385) : ∃ n, w.cell? ⟨B, j, none⟩ = some (.int .u8 n) := by
  obtain ⟨l, hl, hb⟩ := h
  exact ⟨((l[j]'(by omega)).toNat : Int), hb.cell j (by rw [List.getElem?_map, List.getElem?_eq_getElem (by omega)]; rfl)⟩
theorem BytesAt.set {w : World} {B : Nat} (h : BytesAt w B) (j : Nat) (c : UInt8) {n : Int} (hn : n = (c.toNat : Int)) : BytesAt (w.setCell ⟨B, j, none⟩ (.int .u8 n)) B := by
  subst hn
  obtain ⟨l, hl, hb⟩ := h
  refine ⟨l.set j c, by simpa using hl, ?_⟩
  have := hb.set j (.int .u8 (c.toNat : Int))
  rw [List.map_set]
  exact this
theorem BytesAt.below {w w1 : World} {B : Nat} (h : BytesAt w B) (hb : Below w.heap.size w w1) : BytesAt w1 B := by
  obtain ⟨l, hl, hx⟩ := h
  exact ⟨l, hl, (hb.block B hx.lt).trans hx⟩
theorem BytesAt.conv {w : World} {B : Nat} (h : BytesAt w B) (o n cap : Nat) (ho : o + n ≤ 16385) :
    ∃ x : ByteArray, x.size = n ∧ (convert 34 9 (.slice (some ⟨B, o, none⟩) n cap)).run Try.prog w = .ok (.string x) w := by
  obtain ⟨l, hl, hb⟩ := h
  have hn : ((l.drop o).take n).length = n := by rw [List.length_take, List.length_drop]; omega
  refine ⟨⟨((l.drop o).take n).toArray⟩, ?_, ?_⟩
  · show ((l.drop o).take n).toArray.size = n
    rw [List.size_toArray]; exact hn
  · have h := run_convert_bytes_back (P := Try.prog) w 34 9 5 ⟨B, o, none⟩ cap ((l.drop o).take n) Try.underlying34 Try.underlying5 Try.underlying9 (by
      intro j hj
      rw [hn] at hj
      rw [show (⟨B, o, none⟩ : Addr).add j = ⟨B, o + j, none⟩ from by simp [Addr.add]]
      refine Blk.cell hb (o + j) (v := .int .u8 ((((l.drop o).take n)[j]'(by rw [hn]; exact hj)).toNat : Int)) ?_
      rw [List.getElem?_map, List.getElem?_eq_getElem (by omega)]
      simp)
    rw [hn] at h
    exact h
set_option maxRecDepth 100000 in
set_option maxHeartbeats 4000000 in
theorem sizes_any (w : World) : Calls Try.prog 18 #[] w fun e w' => e = .returned (.bool true) ∧ Below w.heap.size w w' := by
  go_enter Try.func18, Try.ntmps18
  have hsy : (⟨#[97, 98, 99, 100, 101, 102, 103, 104, 105, 106, 107, 108, 109, 110, 111, 112, 113, 114, 115, 116, 117, 118, 119, 120, 121, 122]⟩ : ByteArray).size = 26 := rfl
  have hbw := Below.refl w.heap.size w
  go_wp2
  go_loopg [1] 300 (fun m b wr => ∃ j : Nat, Hid (m = 300 - j) ∧ b = .int .i64 j ∧ j ≤ 300 ∧ Below w.heap.size w wr)
  case atStart => exact ⟨0, Lib.hid rfl, rfl, by omega, hbw⟩
  case round =>
    clear hbw
    obtain ⟨j, hm, rfl, hj, hbw⟩ := hrel
    by_cases hlt : j < 300
    · go_wp2
      rw [conv3 wr _ _ _ (by omega) (by omega) (by omega)]
      obtain ⟨x, hx⟩ : ∃ x : ByteArray, (⟨#[UInt8.ofNat (48 + (j : Int) / 100).toNat, UInt8.ofNat (48 + (j : Int) / 10 % 10).toNat, UInt8.ofNat (48 + (j : Int) % 10).toNat]⟩ : ByteArray) = x := ⟨_, rfl⟩
      have hxs : x.size = 3 := by rw [← hx]; rfl
      rw [hx]
      clear hx
      replace hbw := hbw.alloc hbw.size (.cells #[.int .u8 (48 + (j : Int) / 100), .int .u8 (48 + (j : Int) / 10 % 10), .int .u8 (48 + (j : Int) % 10)] 5)
      generalize wr.alloc (.cells #[.int .u8 (48 + (j : Int) / 100), .int .u8 (48 + (j : Int) / 10 % 10), .int .u8 (48 + (j : Int) % 10)] 5) = wa at *
      go_wp2
      go_loopg [3] 3 (fun m b wr => ∃ i : Nat, Hid (m = 3 - i) ∧ b = .int .i64 i ∧ i ≤ 3 ∧ Below w.heap.size w wr)
      case atStart => exact ⟨0, Lib.hid rfl, rfl, by omega, hbw⟩
      case round =>
        clear hbw
        obtain ⟨i, hm1, rfl, hi, hbw⟩ := hrel
        by_cases hlt1 : i < 3
        · go_wp2_with (first
            | (go_at_call 13; go_must (refine (words_any _ _ (small_size (by first | decide | omega | (simp only [ByteArray.size_extract, hxs]; omega) | (simp only [ByteArray.size_append, ByteArray.size_extract, size_mk, List.size_toArray, List.length_cons, List.length_nil, hxs]; omega)))).mono ?_; rintro e wx ⟨rfl, hbx⟩; replace hbw := below_step (by first | exact hbw | exact below_drewN hbw _) hbx; clear hbx))
            | (go_at_call 12; go_must (refine (lexes_any _ _ (small_size (by first | decide | omega | (simp only [ByteArray.size_extract, hxs]; omega) | (simp only [ByteArray.size_append, ByteArray.size_extract, size_mk, List.size_toArray, List.length_cons, List.length_nil, hxs]; omega)))).mono ?_; rintro e wx ⟨rfl, hbx⟩; replace hbw := below_step (by first | exact hbw | exact below_drewN hbw _) hbx; clear hbx)))
          go_roundg (3 - (i + 1))
          case measure => rw [hm1.out]; omega
          case rel => exact ⟨i + 1, Lib.hid rfl, by go_num, by omega, hbw⟩
        · go_wp2
          go_roundg (300 - (j + 1))
          case measure => rw [hm.out]; omega
          case rel => exact ⟨j + 1, Lib.hid rfl, by go_num, by omega, hbw⟩
    · go_wp2
      generalize (⟨#[97, 98, 99, 100, 101, 102, 103, 104, 105, 106, 107, 108, 109, 110, 111, 112, 113, 114, 115, 116, 117, 118, 119, 120, 121, 122]⟩ : ByteArray) = y at *
      go_loopg [5] 6 (fun m b wr => ∃ i : Nat, Hid (m = 20 - i) ∧ b = .int .i64 i ∧ 14 ≤ i ∧ i ≤ 20 ∧ Below w.heap.size w wr)
      case atStart => exact ⟨14, Lib.hid rfl, rfl, by omega, by omega, hbw⟩
      case round =>
        clear hbw
        obtain ⟨i, hm1, rfl, hi1, hi, hbw⟩ := hrel
        by_cases hlt1 : i < 20
        · have zi : (0 : Int) ≤ (i : Int) := (by omega); have li : (i : Int) ≤ 26 := (by omega); have li2 : (i : Int) ≤ 20 := (by omega)
          have mi : min i 26 = i := by omega
          have mi2 : min i 20 = i := by omega
          go_wp2_with (first
            | (go_at_call 13; go_must (refine (words_any _ _ (small_size (by first | decide | omega | (simp only [ByteArray.size_extract, hsy]; omega) | (simp only [ByteArray.size_append, ByteArray.size_extract, size_mk, List.size_toArray, List.length_cons, List.length_nil, hsy]; omega)))).mono ?_; rintro e wx ⟨rfl, hbx⟩; replace hbw := below_step (by first | exact hbw | exact below_drewN hbw _) hbx; clear hbx))
            | (go_at_call 12; go_must (refine (lexes_any _ _ (small_size (by first | decide | omega | (simp only [ByteArray.size_extract, hsy]; omega) | (simp only [ByteArray.size_append, ByteArray.size_extract, size_mk, List.size_toArray, List.length_cons, List.length_nil, hsy]; omega)))).mono ?_; rintro e wx ⟨rfl, hbx⟩; replace hbw := below_step (by first | exact hbw | exact below_drewN hbw _) hbx; clear hbx)))
          go_roundg (20 - (i + 1))
          case measure => rw [hm1.out]; omega
          case rel => exact ⟨i + 1, Lib.hid rfl, by go_num, by omega, by omega, hbw⟩
        · go_wp2
          have hK := wordsAt_new wr 9
          replace hbw := hbw.alloc hbw.size (.cells #[.string ⟨#[116, 101, 115, 116]⟩, .string ⟨#[105, 110, 105, 116]⟩, .string ⟨#[116, 104, 114, 101, 97, 100]⟩, .string ⟨#[115, 111, 109, 101]⟩, .string ⟨#[110, 111, 110, 101]⟩, .string ⟨#[97, 108, 108]⟩, .string ⟨#[97, 99, 113]⟩, .string ⟨#[114, 101, 108]⟩, .string ⟨#[115, 119, 97, 112]⟩, .string ⟨#[102, 101, 116, 99, 104]⟩, .string ⟨#[99, 97, 115]⟩, .string ⟨#[102, 101, 110, 99, 101]⟩, .string ⟨#[108, 111, 97, 100, 115]⟩, .string ⟨#[115, 116, 111, 114, 101, 115]⟩, .string ⟨#[115, 107, 105, 112]⟩, .string ⟨#[105, 102]⟩, .string ⟨#[116, 114, 117, 101]⟩, .string ⟨#[84, 101, 115, 116]⟩, .string ⟨#[102, 97, 108, 115, 101]⟩, .string ⟨#[]⟩] 9)
          generalize wr.alloc (.cells #[.string ⟨#[116, 101, 115, 116]⟩, .string ⟨#[105, 110, 105, 116]⟩, .string ⟨#[116, 104, 114, 101, 97, 100]⟩, .string ⟨#[115, 111, 109, 101]⟩, .string ⟨#[110, 111, 110, 101]⟩, .string ⟨#[97, 108, 108]⟩, .string ⟨#[97, 99, 113]⟩, .string ⟨#[114, 101, 108]⟩, .string ⟨#[115, 119, 97, 112]⟩, .string ⟨#[102, 101, 116, 99, 104]⟩, .string ⟨#[99, 97, 115]⟩, .string ⟨#[102, 101, 110, 99, 101]⟩, .string ⟨#[108, 111, 97, 100, 115]⟩, .string ⟨#[115, 116, 111, 114, 101, 115]⟩, .string ⟨#[115, 107, 105, 112]⟩, .string ⟨#[105, 102]⟩, .string ⟨#[116, 114, 117, 101]⟩, .string ⟨#[84, 101, 115, 116]⟩, .string ⟨#[102, 97, 108, 115, 101]⟩, .string ⟨#[]⟩] 9) = wa at *
          generalize wr.heap.size = B at *
          go_loopg [7] 20 (fun m b wr => ∃ i : Nat, Hid (m = 20 - i) ∧ b = .int .i64 i ∧ i ≤ 20 ∧ Below w.heap.size w wr ∧ WordsAt wr B)
          case atStart => exact ⟨0, Lib.hid rfl, rfl, by omega, hbw, hK⟩
          case round =>
            clear hbw hK
            obtain ⟨i, hm1, rfl, hi, hbw, hK⟩ := hrel
            by_cases hlt1 : i < 20
            · have ti : ((i : Int) < 20) = True := by simp; omega
              go_wp2
              obtain ⟨t, ht⟩ : ∃ t, wordN i = t := ⟨_, rfl⟩
              have hts : t.size ≤ 6 := by rw [← ht]; exact wordN_size i
              have Ht := Lib.hid ht
              clear ht
              go_loopg [8] 7 (fun m b wr => ∃ k : Nat, Hid (m = 7 - k) ∧ b = .int .i64 k ∧ k ≤ t.size + 1 ∧ Below w.heap.size w wr ∧ WordsAt wr B)
              case atStart => exact ⟨0, Lib.hid rfl, rfl, by omega, hbw, hK⟩
              case round =>
                clear hbw hK
                obtain ⟨k, hm2, rfl, hk, hbw, hK⟩ := hrel
                have r0 := hK.2 i hlt1
                rw [Ht.out] at r0
                by_cases hlt2 : k ≤ t.size
                · have zk : (0 : Int) ≤ (k : Int) := (by omega); have lk : (k : Int) ≤ t.size := (by omega); have wk := wrap_inc (i := k) (by omega)
                  have mk : min k t.size = k := by omega
                  have d2 : decide ((k : Int) ≤ t.size) = true := by simp; omega
                  go_wp2_with (first
                    | (go_at_call 13; go_must (refine (words_any _ _ (small_size (by first | decide | omega | (simp only [ByteArray.size_extract]; omega) | (simp only [ByteArray.size_append, ByteArray.size_extract, size_mk, List.size_toArray, List.length_cons, List.length_nil]; omega)))).mono ?_; rintro e wx ⟨rfl, hbx⟩; replace hbw := below_step (by first | exact hbw | exact below_drewN hbw _) hbx; replace hK := WordsAt.below (by first | exact hK | exact hK.drewN _) hbx; have r1 := hK.2 i hlt1; rw [Ht.out] at r1; clear hbx)))
                  go_roundg (7 - (k + 1))
                  case measure => rw [hm2.out]; omega
                  case rel => exact ⟨k + 1, Lib.hid rfl, by go_num, by omega, hbw, hK⟩
                · have d2 : decide ((k : Int) ≤ t.size) = false := by simp; omega
                  go_wp2
                  go_roundg (20 - (i + 1))
                  case measure => rw [hm1.out]; omega
                  case rel => exact ⟨i + 1, Lib.hid rfl, by go_num, by omega, hbw, hK⟩
            · go_wp2
              obtain ⟨C, hmk, hC⟩ := make_bytes
              clear hsy
              go_wp2
              rw [hmk]
              have hX := hC wr
              have hDw := hbw.size
              replace hbw := hbw.alloc hbw.size (.cells C 5)
              generalize wr.alloc (.cells C 5) = wb at *
              generalize wr.heap.size = D at *
              clear hmk hC
              go_wp2
              go_loopg [10] 16385 (fun m b wr => ∃ i : Nat, Hid (m = 16385 - i) ∧ b = .int .i64 i ∧ i ≤ 16385 ∧ Below w.heap.size w wr ∧ BytesAt wr D)
              case atStart => exact ⟨0, Lib.hid rfl, rfl, by omega, hbw, hX⟩
              case round =>
                clear hbw hX
                obtain ⟨q, hm2, rfl, hq, hbw, hX⟩ := hrel
                by_cases hlt2 : q < 16385
                · have f0 := hX.frozen q
                  obtain ⟨n0, c0⟩ := hX.cell hlt2
                  go_wp2
                  go_roundg (16385 - (q + 1))
                  case measure => rw [hm2.out]; omega
                  case rel => exact ⟨q + 1, Lib.hid rfl, by go_num, by omega, hbw.setCell hDw _, hX.set q 32 (n := 32) rfl⟩
                · have f0 := hX.frozen 16383
                  obtain ⟨n0, c0⟩ := hX.cell (j := 16383) (by omega)
                  replace hbw := hbw.setCell (p := ⟨D, 16383, none⟩) hDw (.int .u8 120)
                  replace hX := hX.set 16383 120 (n := 120) rfl
                  obtain ⟨x0, z0, v0⟩ := hX.conv 0 16385 16385 (by omega)
                  go_wp2_with (go_at_call 12; go_must (refine (lexes_any _ _ (small_size (by omega))).mono ?_; rintro e wx ⟨rfl, hbx⟩; replace hbw := below_step (by first | exact hbw | exact below_drewN hbw _) hbx; replace hX := BytesAt.below (by exact hX) hbx; clear hbx; obtain ⟨x1, z1, v1⟩ := hX.conv 0 16384 16385 (by omega); obtain ⟨x2, z2, v2⟩ := hX.conv 1 16384 16384 (by omega)))
                  go_returns
                  exact ⟨rfl, hbw⟩
end Go.Proofs.Ytckpkgnnbnfoeaa
