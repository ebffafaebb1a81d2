/-
  WALK2. Package runs: Count, Reached, the way to a state. Conditions: the program lies in memory; block 0 holds the table of needs.
-/
import Derived.Test.YtbgnapmaimkpkaaGreatDoorRnB
set_option linter.unusedSimpArgs false
set_option linter.unusedVariables false
namespace Go.Proofs.YtbgnapmaimkpkaaGreatDoor
open Go.RowKit
set_option maxRecDepth 100000
section
variable {P : Program} {N : Nat} {a : Act} {env : List (Nat × Value)} {w : World}
theorem bRet3 {fn : Func} {R : Ending → World → Prop} {t s r : Tmp} {u v x : Value} (hres : fn.results = #[.tmp t, .tmp s, .tmp r]) (F : Has N a env) (hu : lk env t = some u) (hv : lk env s = some v) (hx : lk env r = some x) (h : R (.returned (.tuple #[u, v, x])) w) : bodyPost P fn R .ret a w := by
  exact bodyPost_ret (v := .tuple #[u, v, x]) (by rw [results_tmp3 hres, F.get t u hu, F.get s v hv, F.get r x hx]) F.nod h
end
theorem states_small {p : Prg} {m : UInt8} {n : Int} {a : Fnd} (h : statesR p m n = some a) : a.list.length ≤ 65536 ∧ a.ends.length ≤ 65536 := by
  unfold statesR at h
  split at h
  · rename_i hC
    obtain ⟨h1, h2, h3, h4⟩ := hC
    have hI := reach_ok h4 h1 (by omega) h
    have := hI.many
    refine ⟨by omega, ?_⟩
    rw [hI.ends];refine Nat.le_trans (List.length_filter_le _ _) ?_
    rw [List.length_range]; omega
  · cases h
theorem states_many (p : Prg) (m : UInt8) (n : Int) : (fo (statesR p m n)).list.length ≤ 65536 ∧ (fo (statesR p m n)).ends.length ≤ 65536 := by
  cases h : statesR p m n with
  | none => exact ⟨Nat.zero_le _, Nat.zero_le _⟩
  | some a => exact states_small h
theorem count_any (cs : List Value) (p : Prg) (w0 : World) (hP : ProgAt w0 cs p) (hN : NeedsAt w0) (mc : UInt8) (n : Int) (hlo : -9223372036854775808 ≤ n) (hhi : n ≤ 9223372036854775807) :
    Calls Tryz.prog 20 #[.agg cs.toArray, Go.Proofs.YtbgnapmaimkpkaaGreatDoor.b8 mc, .int .i64 n] w0 fun e w' => e = .returned (.tuple #[.int .i64 ((fo (statesR p mc n)).list.length : Int), .int .i64 ((fo (statesR p mc n)).ends.length : Int), .int .i64 (statesE p mc n)]) ∧ Below w0.heap.size w0 w' := by
  have H := Own.start w0 none
  have hP0 := hP
  obtain ⟨LA, LC, IA, IC, TA, TC, h, ccs, hp⟩ := hP
  obtain ⟨c1, c2, c3, c4, c5, rfl⟩ := len5 (condAt_len hp.cond)
  have hcs := hp.cs
  subst hcs
  have hm := states_many p mc n
  refine enterF Tryz.func20 rfl Tryz.ntmps20 rfl (fun a F => ?_);refine cSR fun K1 hK1=>?_;refine sBx H F rfl rfl rfl ?_;clear F a H; intro b3 a w F H;refine sAs F rfl rfl rfl (qAs rfl rfl rfl (qAs rfl rfl rfl (qNK hK1 (qSR fun K2 hK2=>?_))));clear hK1;clear F a;intro a F
  refine sLr Tryz.underlying29 rfl ?si F rfl rfl rfl (H.whole 0 rfl) ?_
  case si => exact info_size Tryz.sizeOf29
  clear F a; intro a F;refine sMv F rfl rfl rfl (qMv rfl rfl rfl ?_);clear F a;intro a F;refine sCall Tryz.call46 F rfl rfl rfl (states_any _ p _ (hP0.own H) (hN.own H) mc n hlo hhi) ?_;rintro e w ⟨A1, k1, A2, k2, A3, k3, rfl, H2⟩;replace H := H.join H2; clear H2;refine ⟨_, rfl, ?_⟩;clear F a; intro a F;refine sMv F rfl rfl rfl (qExt rfl rfl rfl rfl (qExt rfl rfl rfl rfl ?_));clear F a;intro a F;refine sAl H Tryz.zeroValue113 F rfl rfl ?_;clear F a H; intro b9 a w F H
  refine sSr H 0 ?si F rfl rfl rfl ?s1 rfl rfl ?_
  case si => exact info_size Tryz.sizeOf113
  case s1 => first | rfl | (repeat (first | exact one_nil | (apply one_cons; · first | rfl | assumption | exact one_bif rfl rfl)))
  clear H; intro w H;refine sAs F rfl rfl rfl (qNK hK2 ?_);clear hK2;clear F a;intro a F;refine cSeq (fun K3 hK3 => ?_);refine cRegRO (by kernel_rfl) H ?_;replace H := H.drew;refine eTF 0 rfl (by kernel_rfl) F rfl rfl rfl (fun w=>rFa (f := 0) (k := 0) Tryz.underlying113 rfl Tryz.sizeOf51 rfl rfl F rfl) H qq0 (qT 1 rfl (by kernel_rfl) rfl rfl rfl rfl (fun a F w H=>rLd Tryz.isAgg51 F rfl (H.cell 0 rfl rfl)) H qq0 (qT 2 rfl (by kernel_rfl) rfl rfl rfl rfl (fun a F w H=>rLen Tryz.underlying51 F rfl) H qq0 (qTF 3 rfl (by kernel_rfl) rfl rfl rfl (fun a F w=>rFa (f := 2) (k := 2) Tryz.underlying113 rfl Tryz.sizeOf83 rfl rfl F rfl) H qq0 (qT 4 rfl (by kernel_rfl) rfl rfl rfl rfl (fun a F w H=>rLd Tryz.isAgg83 F rfl (H.cell 0 rfl rfl)) H qq0 (qT 5 rfl (by kernel_rfl) rfl rfl rfl rfl (fun a F w H=>rLen Tryz.underlying83 F rfl) H qq0 (qTF 6 rfl (by kernel_rfl) rfl rfl rfl (fun a F w=>rMv F rfl) H qq0 (qTF 7 rfl (by kernel_rfl) rfl rfl rfl (fun a F w=>rAs F rfl) H qq0 (qTF 8 rfl (by kernel_rfl) rfl rfl rfl (fun a F w=>rAs F rfl) H qq0 (qTF 9 rfl (by kernel_rfl) rfl rfl rfl (fun a F w=>rAs F rfl) H qq0 ?_)))))))));clear F a;intro a F;refine eNil (k := 10) (by kernel_rfl) ?_;refine hK3 _ _ ?_;clear hK3;refine wp_ret ?_;refine bRet3 Tryz.results20 F rfl rfl rfl ?_
  exact ⟨rfl, H.below⟩
end Go.Proofs.YtbgnapmaimkpkaaGreatDoor
