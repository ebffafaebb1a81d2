/-
  WALK2. The laws of chapter 14: what the walks along a play share. Conditions: none.
-/
import Derived.Test.YtjephfjnohgcbaaDoorBwC
import Derived.Test.YtjephfjnohgcbaaDoorBfW
set_option linter.unusedSimpArgs false
set_option linter.unusedVariables false
namespace Go.Proofs.YtjephfjnohgcbaaDoor
open Go.RowKit
set_option maxRecDepth 100000

theorem drop_next {α : Type} {l : List α} {j : Nat} {x : α} (h : l[j]? = some x) : l.drop j = x :: l.drop (j + 1) := by
  obtain ⟨hj, rfl⟩ := List.getElem?_eq_some_iff.1 h
  exact List.drop_eq_getElem_cons hj
theorem machine14_any (m : UInt8) (w0 : World) : Calls Tryd.prog 23 #[Go.Proofs.YtjephfjnohgcbaaDoor.b8 m] w0 fun e w' => e = .returned (Go.Proofs.YtjephfjnohgcbaaDoor.b8 (1 + m % 3)) ∧ Below w0.heap.size w0 w' := by
  have H := Own.start w0 none
  refine enterF Tryd.func23 rfl Tryd.ntmps23 rfl (fun a F => ?_)
  refine cSeq (fun K1 hK1 => ?_)
  refine cReg ?_
  refine sAs F rfl rfl rfl ?_;clear F a;intro a F
  refine sNil ?_
  refine hK1 _ _ ?_; clear hK1
  refine cSeq (fun K2 hK2 => ?_)
  refine cReg ?_
  refine sMv F rfl rfl rfl ?_;clear F a;intro a F
  refine sBin F rfl rfl rfl rfl (bRemB (y := 3) ?_) ?_
  focus decide
  clear F a; intro a F
  refine sBin F rfl rfl rfl rfl (bAddB (x := 1)) ?_;clear F a;intro a F
  refine sAs F rfl rfl rfl ?_;clear F a;intro a F
  refine sNil ?_
  refine hK2 _ _ ?_; clear hK2
  refine wp_ret ?_
  refine bRet Tryd.results23 F rfl ?_
  exact ⟨rfl, H.below⟩
theorem known_machine (m : UInt8) : knownM (1 + m % 3) = true := by
  have h : (m % 3).toNat < 3 := by rw [UInt8.toNat_mod]; exact Nat.mod_lt _ (by decide)
  have e : (1 + m % 3).toNat = 1 + (m % 3).toNat := by rw [UInt8.toNat_add, show (1 : UInt8).toNat = 1 from rfl]; omega
  unfold knownM
  rw [decide_eq_true (UInt8.le_iff_toNat_le.2 (by rw [e, show (1 : UInt8).toNat = 1 from rfl]; omega)), decide_eq_true (UInt8.le_iff_toNat_le.2 (by rw [e, show (3 : UInt8).toNat = 3 from rfl]; omega))]
  rfl
theorem bytes_take {w : World} {A : Option Addr} {l : List UInt8} (h : BytesAt w A l) (n : Nat) : BytesAt w A (l.take n) := fun j c hj => h j c (by
  rw [List.getElem?_map] at hj ⊢
  rw [List.getElem?_take] at hj
  split at hj
  · exact hj
  · cases hj)
theorem goes_succ {l : List Pss} {k t : Nat} {y : Pss} (h : l[k]? = some y) : goesP (l.take (k + 1)) t = (goesP (l.take k) t || (y.t.toNat == t && !y.d)) := by
  unfold goesP
  rw [List.take_add_one, h]; simp
theorem drains_succ {l : List Pss} {k t : Nat} {y : Pss} (h : l[k]? = some y) : drainsP (l.take (k + 1)) t = (drainsP (l.take k) t || (y.t.toNat == t && y.d)) := by
  unfold drainsP
  rw [List.take_add_one, h]; simp
theorem enabled_end {p : Prg} {m : UInt8} {s : By} {t : Nat} {l : List Ins} (hl : p.threads[t]? = some l) (h : l.length ≤ (s (t * 9)).toNat) : enabledM p m s t = false := by
  unfold enabledM
  rw [nextI_none hl h]
theorem enabled_go {p : Prg} {m : UInt8} {s : By} {t : Nat} {l : List Ins} (hl : p.threads[t]? = some l) (h : (s (t * 9)).toNat < l.length) (h0 : manyB s t = 0) : enabledM p m s t = true := by
  unfold enabledM
  rw [nextI_at hl (List.getElem?_eq_getElem h)]
  have h0t : (s (138 + t) == 0) = true := by
    unfold manyB at h0
    rw [beq_iff_eq]; exact UInt8.toNat_inj.1 h0
  show readyI _ m s t = true
  unfold readyI
  rw [h0t]
  split
  · rfl
  · split
    · exact Bool.or_true _
    · rfl
theorem enabled_wait {p : Prg} {m : UInt8} {s : By} {t : Nat} {l : List Ins} {x : Ins} (hl : p.threads[t]? = some l) (hx : l[(s (t * 9)).toNat]? = some x) (he : enabledM p m s t = true) (h0 : 0 < manyB s t) : ¬ (x.op = 4 ∨ x.op = 5 ∨ x.op = 6) ∧ ¬ (x.op = 7 ∧ x.mode = 3) := by
  unfold enabledM at he
  rw [nextI_at hl hx] at he
  have he : readyI x m s t = true := he
  have h0t : (s (138 + t) == 0) = false := by
    unfold manyB at h0
    rw [beq_eq_false_iff_ne]
    intro h
    rw [h, show (0 : UInt8).toNat = 0 from rfl] at h0
    omega
  unfold readyI at he
  rw [h0t] at he
  refine ⟨fun h => ?_, fun h => ?_⟩
  · rw [if_pos h] at he; cases he
  · rw [if_neg (by rw [h.1]; decide), if_pos h.1, h.2] at he
    simp at he
theorem nu_start_sum {p : Prg} {m : UInt8} (hp : rightErr p = 0) (hm : knownM m = true) : nu p (startP p) = 2 * sumL p.threads := by
  obtain ⟨_, h0⟩ := start_rightM hp hm
  unfold nu
  rw [mu_sum hp, h0 0 (by omega), h0 1 (by omega), h0 2 (by omega), h0 3 (by omega)]
  omega
end Go.Proofs.YtjephfjnohgcbaaDoor
