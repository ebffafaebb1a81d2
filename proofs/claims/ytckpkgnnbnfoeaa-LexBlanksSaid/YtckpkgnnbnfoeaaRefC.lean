/-
  The reference of layer 4: Type. Conditions: at most a million tokens, whose text has at most 2^46 bytes.
-/
import Derived.Test.YtckpkgnnbnfoeaaTypeB
namespace Go.Proofs.Ytckpkgnnbnfoeaa
open Go.RowKit

/-- The slice value reads as these tokens of the reference. -/
def RTokRead (w : World) (sv : Value) (ts : List AT) : Prop :=
  (ts = [] ∧ ∃ a c, sv = .slice a 0 c) ∨ ∃ b off cap, sv = .slice (some ⟨b, off, none⟩) ts.length cap ∧
    ∀ j t, ts[j]? = some t → w.cell? ⟨b, off + j * 3, none⟩ = some (.int .i64 t.kind) ∧ w.cell? ⟨b, off + j * 3 + 1, none⟩ = some (.string t.text) ∧ w.cell? ⟨b, off + j * 3 + 2, none⟩ = some (.int .i64 t.pos)

theorem data_app (a b : ByteArray) : (a ++ b).data.toList = a.data.toList ++ b.data.toList := by simp
theorem typeG_snoc {ts : List AT} {j : Nat} {t : AT} (ht : ts[j]? = some t) : typeG false (ts.take (j + 1)) = typeG false (ts.take j) ++ (if t.kind = 4 then [10] else (if withinG false (ts.take j) then [32] else []) ++ t.text.data.toList) := by
  have hj : j < ts.length := (List.getElem?_eq_some_iff.1 ht).1
  have he : ts.take (j + 1) = ts.take j ++ [t] := by
    rw [List.take_succ_eq_append_getElem hj]; rw [List.getElem?_eq_getElem hj] at ht; rw [Option.some.inj ht]
  rw [he, typeG_append]
  simp only [typeG]
  split <;> simp
theorem within_zero : withinG false ([] : List AT) = false := rfl
theorem within_succ {ts : List AT} {j : Nat} {u : AT} (hu : ts[j]? = some u) : withinG false (ts.take (j + 1)) = (u.kind != 4) := by
  have hj : j < ts.length := (List.getElem?_eq_some_iff.1 hu).1
  have he : ts.take (j + 1) = ts.take j ++ [u] := by
    rw [List.take_succ_eq_append_getElem hj]; rw [List.getElem?_eq_getElem hj] at hu; rw [Option.some.inj hu]
  rw [he, withinG_append]; rfl

/-- The sizes of a concatenation's parts, for the walk. -/
theorem rtype_sz {ts : List AT} {j : Nat} {t : AT} {acc : ByteArray} (ht : ts[j]? = some t) (ha : acc.data.toList = typeG false (ts.take j)) (hb : (typeG false ts).length ≤ 70368744177664) :
    acc.size ≤ 70368744177664 ∧ (t.kind ≠ 4 → acc.size + t.text.size ≤ 70368744177664) := by
  have h1 := typeG_len (pre := ts.take j) (all := ts) (List.take_prefix _ _)
  have h2 := typeG_len (pre := ts.take (j + 1)) (all := ts) (List.take_prefix _ _)
  have h3 : acc.size = (typeG false (ts.take j)).length := by rw [← ha, data_length]
  refine ⟨by omega, fun hk => ?_⟩
  rw [typeG_snoc ht, if_neg hk] at h2
  simp only [List.length_append, data_length] at h2
  omega

set_option maxHeartbeats 2000000 in
theorem rtype_any (sa : Option Addr) (sn sc : Nat) (ts : List AT) (w : World) (hR : RTokRead w (.slice sa sn sc) ts) (hlen : ts.length ≤ 1000000) (hbd : (typeG false ts).length ≤ 70368744177664) :
    Calls Try.prog 15 #[.slice sa sn sc] w fun e w' => e = .returned (.string ⟨(typeG false ts).toArray⟩) ∧ ∃ d, w' = w.drewN d := by
  have Hbd := Lib.hid hbd
  clear hbd
  rcases hR with ⟨rfl, a, c, h⟩ | ⟨b, off, cap, h, hcs⟩
  · cases h
    go_enter Try.func15, Try.ntmps15
    go_wp2
    go_loopg [3, 4] 0 (fun m o i wr => w = wr ∧ o = .string ⟨#[]⟩ ∧ i = .int .i64 0)
    case atStart => exact ⟨rfl, rfl, rfl⟩
    case round =>
      obtain ⟨rfl, rfl, rfl⟩ := hrel
      go_wp2
      go_returns
      exact ⟨rfl, 0, rfl⟩
  · cases h
    have Hcs := Lib.hid hcs
    clear hcs
    go_enter Try.func15, Try.ntmps15
    go_wp2
    go_loopg [3, 4] ts.length (fun m o i wr => ∃ (j : Nat) (acc : ByteArray), Hid (m = ts.length - j) ∧ j ≤ ts.length ∧ (∃ d, wr = w.drewN d) ∧ o = .string acc ∧ i = .int .i64 j ∧ Hid (acc.data.toList = typeG false (ts.take j)))
    case atStart => exact ⟨0, ⟨#[]⟩, Lib.hid rfl, Nat.zero_le _, ⟨0, rfl⟩, rfl, rfl, Lib.hid rfl⟩
    case round =>
      obtain ⟨j, acc, hm, hj, ⟨d, rfl⟩, rfl, rfl, hacc⟩ := hrel
      by_cases hlt : j < ts.length
      · obtain ⟨t, ht⟩ : ∃ t, ts[j]? = some t := ⟨_, List.getElem?_eq_getElem hlt⟩
        obtain ⟨c0, c1, c2⟩ := Hcs.out j t ht
        obtain ⟨z1, z2⟩ := rtype_sz ht hacc.out Hbd.out
        by_cases hk : t.kind = 4
        · have hk4 : (t.kind == 4) = true := by simpa using hk
          have Hx : Hid ((acc ++ ⟨#[10]⟩ : ByteArray).data.toList = typeG false (ts.take (j + 1))) := Lib.hid (by rw [typeG_snoc ht, if_pos hk, data_app, hacc.out])
          clear hk z2 ht
          go_wp2
          go_roundg (ts.length - (j + 1))
          case measure => rw [hm.out]; omega
          case rel => exact ⟨j + 1, _, Lib.hid rfl, by omega, ⟨_, by first | rw [World.drewN_drewN] | rfl⟩, rfl, by go_num, Hx⟩
        · have hk4 : (t.kind == 4) = false := by simpa using hk
          have z2' := z2 hk
          have Hsn := Lib.hid (typeG_snoc ht)
          have Hk := Lib.hid hk
          have Ht := Lib.hid ht
          clear hk z2 ht
          by_cases h0 : j = 0
          · subst h0
            simp only [Nat.zero_mul, Nat.add_zero] at c0 c1 c2
            have Hx : Hid ((acc ++ t.text).data.toList = typeG false (ts.take (0 + 1))) := Lib.hid (by rw [Hsn.out, if_neg Hk.out, data_app, hacc.out]; simp [withinG])
            go_wp2
            go_roundg (ts.length - 1)
            case measure => rw [hm.out]; omega
            case rel => exact ⟨1, _, Lib.hid rfl, by omega, ⟨_, by first | rw [World.drewN_drewN] | rfl⟩, rfl, rfl, Hx⟩
          · obtain ⟨i, rfl⟩ : ∃ i, j = i + 1 := ⟨j - 1, by omega⟩
            obtain ⟨u, hu⟩ : ∃ u, ts[i]? = some u := ⟨_, List.getElem?_eq_getElem (by omega)⟩
            obtain ⟨d0, d1, d2⟩ := Hcs.out i u hu
            have hwi := within_succ hu
            cases hk' : (u.kind != 4)
            · have Hx : Hid ((acc ++ t.text).data.toList = typeG false (ts.take (i + 1 + 1))) := Lib.hid (by rw [Hsn.out, if_neg Hk.out, data_app, hacc.out, hwi, hk']; simp)
              clear h0 hwi hu
              go_wp2
              go_roundg (ts.length - (i + 1 + 1))
              case measure => rw [hm.out]; omega
              case rel => exact ⟨i + 1 + 1, _, Lib.hid rfl, by omega, ⟨_, by first | rw [World.drewN_drewN] | rfl⟩, rfl, by go_num, Hx⟩
            · have Hx : Hid ((acc ++ ⟨#[32]⟩ ++ t.text).data.toList = typeG false (ts.take (i + 1 + 1))) := Lib.hid (by rw [Hsn.out, if_neg Hk.out, data_app, data_app, hacc.out, hwi, hk']; simp)
              clear h0 hwi hu
              go_wp2
              go_roundg (ts.length - (i + 1 + 1))
              case measure => rw [hm.out]; omega
              case rel => exact ⟨i + 1 + 1, _, Lib.hid rfl, by omega, ⟨_, by first | rw [World.drewN_drewN] | rfl⟩, rfl, by go_num, Hx⟩
      · have hjl : j = ts.length := by omega
        have Hx : Hid (acc = ⟨(typeG false ts).toArray⟩) := Lib.hid (by
          have h := hacc.out; rw [hjl, List.take_length] at h
          exact ByteArray.ext (Array.ext' h))
        clear hjl
        go_wp2
        go_returns
        exact ⟨by rw [Hx.out]; rfl, d, rfl⟩
end Go.Proofs.Ytckpkgnnbnfoeaa
