/-
  The law of layer 4: empty, alike. Conditions: empty: the text is blank; alike: the tokens have the same kinds and texts, and there are at most a million.
-/
import Derived.Test.YtckpkgnnbnfoeaaBackQ
import Derived.Test.YtckpkgnnbnfoeaaLawJoins
namespace Go.Proofs.Ytckpkgnnbnfoeaa
open Go.RowKit

theorem emp_step {l : List UInt8} (h : emp false l ≠ none) {i : Nat} (hi : i < l.length) {r : Bool} (hr : emp false (l.take i) = some r) : ∃ r', emp r [l[i]] = some r' ∧ emp false (l.take (i + 1)) = some r' := by
  have h1 : emp false (l.take (i + 1)) = emp r [l[i]] := by
    rw [List.take_succ_eq_append_getElem hi, emp_append, hr]; rfl
  cases h2 : emp r [l[i]] with
  | some r' => exact ⟨r', rfl, by rw [h1, h2]⟩
  | none =>
    rw [h2] at h1
    exfalso
    apply h
    conv => lhs; rw [← List.take_append_drop (i + 1) l]
    rw [emp_append, h1]; rfl
theorem emp_cases {r r' : Bool} {b : UInt8} (h : emp r [b] = some r') : (b.toNat = 10 ∧ r' = false) ∨ (b.toNat = 35 ∧ r' = true) ∨ (b.toNat ≠ 10 ∧ b.toNat ≠ 35 ∧ r = true ∧ r' = true) ∨ (r = false ∧ r' = false ∧ b.toNat = 32) ∨ (r = false ∧ r' = false ∧ b.toNat = 9) := by
  unfold emp at h
  split at h
  · cases h; exact .inl ⟨by assumption, rfl⟩
  · split at h
    · cases h; exact .inr (.inl ⟨by assumption, rfl⟩)
    · split at h
      · cases h
      · rename_i h1 h2 h3
        cases h
        cases r
        · by_cases h4 : b.toNat = 32
          · exact .inr (.inr (.inr (.inl ⟨rfl, rfl, h4⟩)))
          · refine .inr (.inr (.inr (.inr ⟨rfl, rfl, ?_⟩)))
            apply Decidable.byContradiction
            intro h5
            exact h3 ⟨rfl, h4, h5⟩
        · exact .inr (.inr (.inl ⟨h1, h2, rfl, rfl⟩))

set_option maxHeartbeats 4000000 in
theorem empty_any (x : ByteArray) (w : World) (hs : x.size ≤ 5000) (h : emp false x.data.toList ≠ none) : Calls Try.prog 21 #[.string x] w fun e w' => e = .returned (.bool true) ∧ ∃ d, w' = w.drewN d := by
  have H := Lib.hid h
  clear h
  go_enter Try.func21, Try.ntmps21
  go_wp2
  go_loopg [3, 4] x.size (fun m f i wr => ∃ (j : Nat) (r : Bool), Hid (m = x.size - j) ∧ f = .bool r ∧ i = .int .i64 j ∧ j ≤ x.size ∧ Hid (emp false (x.data.toList.take j) = some r) ∧ ∃ d, wr = w.drewN d)
  case atStart => exact ⟨0, false, Lib.hid rfl, rfl, rfl, Nat.zero_le _, Lib.hid rfl, 0, rfl⟩
  case round =>
    obtain ⟨j, r, hm, rfl, rfl, hj, Hr, d, rfl⟩ := hrel
    by_cases hlt : j < x.size
    · obtain ⟨r', h1, h2⟩ := emp_step H.out (i := j) (by rw [data_length]; exact hlt) Hr.out
      have H2 := Lib.hid h2
      have h3 := emp_cases h1
      rw [data_get hlt] at h3
      clear h1 h2 Hr
      rcases h3 with ⟨v, rfl⟩ | ⟨v, rfl⟩ | ⟨v, v2, rfl, rfl⟩ | ⟨rfl, rfl, v⟩ | ⟨rfl, rfl, v⟩
      all_goals
        go_wp2
        go_roundg (x.size - (j + 1))
        case measure => rw [hm.out]; omega
        case rel => exact ⟨j + 1, _, Lib.hid rfl, rfl, by go_num, by omega, H2, d, rfl⟩
    · go_wp2
      go_returns
      exact ⟨rfl, d, rfl⟩

set_option maxHeartbeats 4000000 in
theorem alike_any (A : Option Addr) (n C : Nat) (B : Option Addr) (m D : Nat) (ts us : List AT) (w : World) (hA : TokGen w A n ts) (hB : TokGen w B m us) (hl : ts.length = us.length) (hlen : ts.length ≤ 1000000)
    (hk : ∀ (j : Nat) (t u : AT), ts[j]? = some t → us[j]? = some u → t.kind = u.kind ∧ t.text = u.text) :
    Calls Try.prog 20 #[.slice A n C, .slice B m D] w fun e w' => e = .returned (.bool true) ∧ ∃ d, w' = w.drewN d := by
  have hmn : m = n := by rw [hA.1, hB.1, hl]
  subst hmn
  have hn := hA.1
  have Hn := Lib.hid hn
  have HA := Lib.hid hA.2
  have HB := Lib.hid hB.2
  have Hk := Lib.hid hk
  have Hl := Lib.hid hl
  have hm6 : m ≤ 1000000 := by omega
  clear hA hB hl hk hn hlen
  go_enter Try.func20, Try.ntmps20
  go_wp2
  go_loopg [4, 5] m (fun mm f i wr => ∃ j : Nat, Hid (mm = m - j) ∧ f = .bool false ∧ j ≤ m ∧ (∃ d, wr = w.drewN d) ∧ i = .int .i64 j)
  case atStart => exact ⟨0, Lib.hid rfl, rfl, Nat.zero_le _, ⟨0, rfl⟩, rfl⟩
  case round =>
    obtain ⟨j, hm, rfl, hj, ⟨d, rfl⟩, rfl⟩ := hrel
    by_cases hlt : j < m
    · obtain ⟨t, ht⟩ : ∃ t, ts[j]? = some t := ⟨_, List.getElem?_eq_getElem (by rw [← Hn.out]; exact hlt)⟩
      obtain ⟨u, hu⟩ : ∃ u, us[j]? = some u := ⟨_, List.getElem?_eq_getElem (by rw [← Hl.out, ← Hn.out]; exact hlt)⟩
      obtain ⟨p1, o1, rfl, _, c0, c1, _⟩ := HA.out j t ht
      obtain ⟨p2, o2, rfl, _, d0, d1, _⟩ := HB.out j u hu
      obtain ⟨k1, k2⟩ := Hk.out j t u ht hu
      clear ht hu
      rw [k1] at c0
      rw [k2] at c1
      obtain ⟨kd, tx, ps⟩ := u
      simp only at c0 c1 d0 d1
      clear k1 k2
      go_wp2
      go_quiet (fail)
      go_wp2
      go_roundg (m - (j + 1))
      case measure => rw [hm.out]; omega
      case rel => exact ⟨j + 1, Lib.hid rfl, rfl, by omega, ⟨_, by first | rw [World.drewN_drewN] | rfl⟩, by go_num⟩
    · go_wp2
      go_returns
      exact ⟨rfl, d, rfl⟩
end Go.Proofs.Ytckpkgnnbnfoeaa
