/-
  slices.Grow, slices.Concat of outcomes. Conditions: at most 65536 of them.
-/
import Derived.Test.YtbgnapmaimkpkaaGreatDoorRnO
import Derived.Test.YtbgnapmaimkpkaaGreatDoorRnG
import Derived.Test.YtbgnapmaimkpkaaGreatDoorVcU1
set_option linter.unusedSimpArgs false
set_option linter.unusedVariables false
namespace Go.Proofs.YtbgnapmaimkpkaaGreatDoor
open Go.Proofs.Tryz
open Go.RowKit
set_option maxRecDepth 100000
theorem run_append_make {P : Program} {w : World} (t ti ty e : TypeId) (i : TypeInfo) (z : Value) (k : IntKind) (ht : P.underlying t = some (.slice e)) (hu : P.underlying ti = some (.int k)) (hi : ∀ w, (typeInfo e).run P w = .ok i w) (hz : i.zero = some z) (n : Nat) (hs : i.size ≠ 0) (h0 : 0 < n) (h63 : (n : Int) ≤ 9223372036854775807) (h48 : n * i.bytes ≤ 281474976710656) :
    (Builtin.append_ #[t, ti] ty #[.slice none 0 0, .int .i64 (n : Int)]).run P w = .ok (.slice (some ⟨w.heap.size, 0, none⟩) n (grownCap w n 0 e)) (w.drew.alloc (.cells (Builtin.zeroCells z.cells n ++ Builtin.zeroCells z.cells (grownCap w n 0 e - n)) e)) := by
  have hn : n ≠ 0 := by omega
  have h63' : ¬ (9223372036854775807 < (n : Int)) := by omega
  have h48' : ¬ (281474976710656 < Builtin.nextslicecap n 0 * i.bytes) := by rw [nextslicecap_zero h0]; omega
  have h48i : ¬ (281474976710656 < (n : Int) * (i.bytes : Int)) := by
    have : ((n * i.bytes : Nat) : Int) ≤ 281474976710656 := by omega
    rw [Int.natCast_mul] at this; omega
  have hw : IntKind.i64.wrap (n : Int) = n := by simp [IntKind.wrap, IntKind.bits, IntKind.signed]; omega
  have hmax : max (n : Int) 0 = n := by omega
  have hle : ¬ ((n : Int) ≤ 0) := by omega
  have hneg : ¬ ((n : Int) < 0) := by omega
  have hns : n * i.size ≠ 0 := by
    intro h
    rcases Nat.mul_eq_zero.1 h with h | h
    · exact hn h
    · exact hs h
  simp [Builtin.append_, run_underlying ht, run_underlying hu, sizeOf, zeroValue, hi, hz, Builtin.lenOf, hn, h63', h48', h48i, hw, hneg, hns, hs, Question.forced, run_firstCells_none, newRow, grownCap, asInt, asIntOf, hmax, hle]
theorem zeroCells_size (z : Array Value) (n : Nat) : (Builtin.zeroCells z n).size = n * z.size := by simp [Builtin.zeroCells]
theorem own_made {w0 w : World} {row : Option Nat} {rs : List Res} {e : TypeId} {sz c : Nat} {arr : Array Value} (H : Own w0 row w rs) (hc : c ≤ maxLen) (ha : arr.size = c * sz) : Own w0 row (w.drew.alloc (.cells arr e)) (.rws e sz (.slice (some ⟨w.heap.size, 0, none⟩) 0 c) [] :: rs) := by
  have H0 : Own w0 row w.drew rs := ⟨only_drew H.grown, fun i r h => r.loc w w.drew (fun _ _ => rfl) (H.pred i r h), H.foot, H.apart⟩
  refine H0.add _ ((Below.refl _ _).alloc (Nat.le_refl _) _) ?_ ?_
  · exact World.ownsRow_made (w := w.drew) (e := e) (size := sz) (base := 0) arr c (Nat.zero_le _) hc ha
  · intro b hb
    have hb : Value.ownBlock (.slice (some ⟨w.heap.size, 0, none⟩) 0 c) = some b := hb
    simp only [Value.ownBlock, Option.some.injEq] at hb
    subst hb
    exact ⟨Nat.le_refl _, by simp⟩
section
variable {P : Program} {l : List Oper} {Q : Exit → Act → World → Prop} {N : Nat} {a : Act} {env : List (Nat × Value)} {rest : List Oper} {d : Tmp} {ty : TypeId} {pos : String} {af : Array Edge} {g : Option (Nat × Bool)} {w0 w : World} {row : Option Nat} {rs : List Res}
theorem rCap {t : TypeId} {x : Operand} {A : Option Addr} {n c : Nat} {e : TypeId} (ht : P.underlying t = some (.slice e)) (F : Has N a env) (hx : ev env x = some (.slice A n c)) : (execOp a.eval ⟨some d, .call ⟨.builtin .cap, #[x], #[t]⟩, ty, pos, af, g⟩).run P w = .ok (.value (.int .i64 (c : Int))) w :=
  (by
    simp only [execOp, resolve, List.map_toArray, List.map_cons, List.map_nil, F.eval hx]
    simp [invoke, builtin, Builtin.cap_, run_underlying ht, goInt, go_sem])
theorem sCap {t : TypeId} {x : Operand} {A : Option Addr} {n c : Nat} {e : TypeId} (ht : P.underlying t = some (.slice e)) (F : Has N a env) (hg : wants l env g = true) (hN : Nat.blt d N = true) (hx : ev env x = some (.slice A n c))
    (K : ∀ a, Has N a ((d, .int .i64 (c : Int)) :: env) → wpList P l.toArray Q rest a w) : wpList P l.toArray Q (⟨some d, .call ⟨.builtin .cap, #[x], #[t]⟩, ty, pos, af, g⟩ :: rest) a w :=
  stepV F hg rfl hN (rCap ht F hx) K
theorem qCap {t : TypeId} {x : Operand} {A : Option Addr} {n c : Nat} {e : TypeId} (ht : P.underlying t = some (.slice e)) (hg : wants l env g = true) (hN : Nat.blt d N = true) (hx : ev env x = some (.slice A n c)) (K : ∀ a, Has N a ((d, .int .i64 (c : Int)) :: env) → wpList P l.toArray Q rest a w) : ∀ a, Has N a env → wpList P l.toArray Q (⟨some d, .call ⟨.builtin .cap, #[x], #[t]⟩, ty, pos, af, g⟩ :: rest) a w := fun a F => sCap ht F hg hN hx K
theorem sMkApp {t tx e : TypeId} {s x : Operand} {n : Nat} {ti : TypeInfo} {z : Value} {k : IntKind} {sz bytes : Nat} (H : Own w0 row w rs) (ht : P.underlying t = some (.slice e)) (hu : P.underlying tx = some (.int k)) (hi : ∀ w, (typeInfo e).run P w = .ok ti w) (hz : ti.zero = some z) (hsize : ti.size = sz) (hby : ti.bytes = bytes) (hzs : z.cells.size = sz) (hsz : Nat.blt 0 sz = true)
    (F : Has N a env) (hg : wants l env g = true) (hN : Nat.blt d N = true) (hs : ev env s = some (.slice none 0 0)) (hx : ev env x = some (.int .i64 (n : Int))) (h0 : 0 < n) (h63 : (n : Int) ≤ 9223372036854775807) (h48 : n * bytes ≤ 281474976710656)
    (K : ∀ b c a w, n ≤ c → Has N a ((d, .slice (some ⟨b, 0, none⟩) n c) :: env) → Own w0 row w (.rws e sz (.slice (some ⟨b, 0, none⟩) 0 c) [] :: rs) → wpList P l.toArray Q rest a w) :
    wpList P l.toArray Q (⟨some d, .call ⟨.builtin .append, #[s, x], #[t, tx]⟩, ty, pos, af, g⟩ :: rest) a w := by
  subst hsize hby
  have hap := run_append_make (P := P) (w := w) t tx ty e ti z k ht hu hi hz n (by have h1 := hsz; rw [Nat.blt_eq] at h1; omega) h0 h63 h48
  have hge := grownCap_ge w n 0 e
  have hcm := grownCap_le_maxLen w n 0 e (by simp only [maxLen]; omega)
  have hr : (execOp a.eval ⟨some d, .call ⟨.builtin .append, #[s, x], #[t, tx]⟩, ty, pos, af, g⟩).run P w = .ok (.value (.slice (some ⟨w.heap.size, 0, none⟩) n (grownCap w n 0 e))) (w.drew.alloc (.cells (Builtin.zeroCells z.cells n ++ Builtin.zeroCells z.cells (grownCap w n 0 e - n)) e)) := by
    simp only [execOp, resolve, invoke, builtin, Sem.run_bind, Sem.run_pure, Result.andThen_ok, List.map_toArray, List.map_cons, List.map_nil, F.eval hs, F.eval hx, hap]
  refine stepV F hg rfl hN hr (fun a F' => K _ _ a _ hge F' (own_made H hcm ?_));rw [Array.size_append, zeroCells_size, zeroCells_size, hzs, ← Nat.add_mul]
  congr 1
  omega
end
theorem grow_any (n : Nat) (hn : n ≤ 65536) (w0 : World) :
    Calls Tryz.prog 136 #[.slice none 0 0, .int .i64 (n : Int)] w0 fun e w' => ∃ A c, e = .returned (.slice A 0 c) ∧ Own w0 none w' [.rws 47 38 (.slice A 0 c) []] := by
  have H := Own.start w0 none
  refine enterF func136 rfl ntmps136 rfl (fun a F => ?_);refine cSR fun K1 hK1=>sAs F rfl rfl rfl (qNK hK1 ?_);clear hK1;clear F a;intro a F;refine cSeq (fun K2 hK2 => ?_);refine cSR fun K3 hK3=>sMv F rfl rfl rfl (qBin rfl rfl rfl rfl bLss (qNK hK3 ?_));clear hK3;clear F a;intro a F
  refine cIf F rfl (fun h6 => ?_) (fun h6 => ?_)
  ·
   replace h6 := of_decide_eq_true h6
   exact absurd h6 (by omega)
  replace h6 := of_decide_eq_false h6;refine wp_skip (hK2 _ _ ?_);clear hK2;refine cSeq (fun K4 hK4 => ?_);refine cSR fun K5 hK5=>sMv F rfl rfl rfl (qMv rfl rfl rfl (qCap underlying30 rfl rfl rfl (qMv rfl rfl rfl (qLen underlying30 rfl rfl rfl ?_))));clear F a;intro a F
  refine sBin F rfl rfl rfl rfl (bSubI ?_) ?_
  focus omega
  clear F a; intro a F
  refine sBin F rfl rfl rfl rfl (bSubI ?_) ?_
  focus omega
  clear F a; intro a F;refine sAs F rfl rfl rfl (qNK hK5 (qSR fun K6 hK6=>qMv rfl rfl rfl (qBin rfl rfl rfl rfl bGtr (qNK hK6 ?_))));clear hK5 hK6;clear F a;intro a F
  refine cIf F rfl (fun h16 => ?_) (fun h16 => ?_)
  ·
   replace h16 := of_decide_eq_true h16;refine cReg (sMv F rfl rfl rfl (qMv rfl rfl rfl (qCap underlying30 rfl rfl rfl ?_)));clear F a;intro a F
   refine sSlH underlying30 (fun w => ⟨_, sizeOf47 w⟩) F rfl rfl rfl rfl ?_ ?_
   focus (first | omega | decide | (simp; omega))
   clear F a; intro a F;refine sMv F rfl rfl rfl ?_;clear F a;intro a F;refine sMkApp (n := n) (bytes := 38) H underlying30 underlying3 typeInfo47 rfl rfl rfl rfl rfl F rfl rfl rfl rfl (by omega) (by omega) (by omega) ?_;clear F a H; intro A22 c22 a w hc22 F H;refine sMv F rfl rfl rfl (qLen underlying30 rfl rfl rfl ?_);clear F a;intro a F
   refine sSlH underlying30 (fun w => ⟨_, sizeOf47 w⟩) F rfl rfl rfl rfl ?_ ?_
   focus (first | omega | decide | (simp; omega))
   clear F a; intro a F;refine sAs F rfl rfl rfl (qNK hK4 (qSR fun K7 hK7=>qMv rfl rfl rfl (qAs rfl rfl rfl (qNK hK7 ?_))));clear hK4 hK7;clear F a;intro a F;refine wp_ret ?_;refine bRet results136 F rfl ?_
   first
   | exact ⟨_, _, rfl, H.pick 0 rfl⟩
   | exact ⟨none, 0, rfl, (H.nilRws 47 38).pick 0 rfl⟩
  replace h16 := of_decide_eq_false h16;refine wp_skip (hK4 _ _ (cSR fun K8 hK8=>sMv F rfl rfl rfl (qAs rfl rfl rfl (qNK hK8 ?_))));clear hK4 hK8;clear F a;intro a F;refine wp_ret ?_;refine bRet results136 F rfl ?_
  first
  | exact ⟨_, _, rfl, H.pick 0 rfl⟩
  | exact ⟨none, 0, rfl, (H.nilRws 47 38).pick 0 rfl⟩
theorem bs38_one (l : List By) : ∀ r ∈ l.map (bs 38), r.all (·.oneCell') = true := fun r hr => by
  obtain ⟨s, _, rfl⟩ := List.mem_map.1 hr
  rw [bs_map, List.all_eq_true]
  intro v hv
  obtain ⟨x, _, rfl⟩ := List.mem_map.1 hv
  rfl
theorem bs38_len (l : List By) : ∀ r ∈ l.map (bs 38), r.length = 38 := fun r hr => by
  obtain ⟨s, _, rfl⟩ := List.mem_map.1 hr
  exact bs_length _ _
theorem concat_any (bx ox cx : Nat) (A0 : Option Addr) (C0 : Nat) (l : List By) (w0 : World) (hx : w0.rangeAt bx ox [.slice A0 l.length C0]) (hR : RowsAt w0 A0 38 (l.map (bs 38))) (hl : l.length ≤ 65536) :
    Calls Tryz.prog 97 #[.slice (some ⟨bx, ox, none⟩) 1 cx] w0 fun e w' => ∃ A c, e = .returned (.slice A l.length c) ∧ Own w0 none w' [.rws 47 38 (.slice A l.length c) (l.map (bs 38))] := by
  have H := Own.start w0 none
  have hx0 : w0.cell? ⟨bx, ox, none⟩ = some (.slice A0 l.length C0) := by simpa using hx 0 _ rfl
  refine enterF func97 rfl ntmps97 rfl (fun a F => ?_);refine cSR fun K1 hK1=>sAs F rfl rfl rfl (qNK hK1 (qSR fun K2 hK2=>qAs rfl rfl rfl (qNK hK2 ?_)));clear hK1 hK2;clear F a;intro a F;refine cSeq (fun K3 hK3 => ?_);refine cSR fun K4 hK4=>sMv F rfl rfl rfl (qLen underlying200 rfl rfl rfl (qMv rfl rfl rfl (qNK hK4 ?_)));clear hK4;clear F a;intro a F;refine wp_block ?_
  refine cLoopR [0, 9, 10] (fun m ups w => ∃ (j : Nat) (v : Int), m = 1 - j ∧ ups = [(3, .int .i64 v), (11, .int .i64 ((j : Nat) : Int))] ∧ j ≤ 1 ∧ (j = 0 → v = 0) ∧ (1 ≤ j → v = (l.length : Int)) ∧ Own w0 none w []) F (1) [(3, .int .i64 0), (11, .int .i64 ((0 : Nat) : Int))] (by repeat (first | exact SubR.nil | (apply SubR.cons; · rfl))) ?_ ?_ ?_
  · exact ⟨0, 0, rfl, rfl, by omega, fun _ => rfl, fun h => absurd h (by omega), H⟩
  · repeat (first | exact trivial | refine Le.cons rfl ?_)
  clear F
  clear H
  intro m ups a w hI F
  obtain ⟨j, v, rfl, rfl, hj, hv0, hv1, H⟩ := hI
  refine cSR fun K5 hK5=>sBin F rfl rfl rfl rfl bLss (qNK hK5 ?_);clear hK5;clear F a;intro a F;refine cSeq (fun K6 hK6 => ?_)
  refine cIf F rfl (fun h12 => ?_) (fun h12 => ?_)
  ·
   replace h12 := of_decide_eq_true h12
   obtain rfl : j = 0 := by omega
   have hv := hv0 rfl
   refine wp_skip (hK6 _ _ ?_);clear hK6;refine cSeq (fun K7 hK7 => ?_);refine wp_block ?_;refine cSR fun K8 hK8=>?_
   refine sIx underlying200 sizeOf30 F rfl rfl rfl rfl ?_ ?_
   focus (first | omega | decide | (simp; omega))
   clear F a; intro a F;refine sLd isAgg30 F rfl rfl rfl (by simpa using H.arg hx0) (qAs rfl rfl rfl (qNK hK8 (qSR fun K9 hK9=>qMv rfl rfl rfl (qMv rfl rfl rfl (qLen underlying30 rfl rfl rfl ?_)))));clear hK8;clear F a;intro a F
   refine sBin F rfl rfl rfl rfl (bAddI ?_) ?_
   focus omega
   clear F a; intro a F;refine sAs F rfl rfl rfl (qNK hK9 (qSR fun K10 hK10=>qMv rfl rfl rfl (qBin rfl rfl rfl rfl bLss (qNK hK10 ?_))));clear hK9 hK10;clear F a;intro a F
   refine cIf F rfl (fun h20 => ?_) (fun h20 => ?_)
   ·
    replace h20 := of_decide_eq_true h20
    exact absurd h20 (by omega)
   replace h20 := of_decide_eq_false h20;refine wp_skip (hK7 _ _ (cReg ?_));clear hK7
   refine sBin F rfl rfl rfl rfl (bAddN (j := 1) ?_) ?_
   focus omega
   clear F a; intro a F;refine sMv F rfl rfl rfl ?_;clear F a;intro a F;refine sNil ?_
   exact ⟨_, by omega, _, ⟨1, v + (l.length : Int), rfl, rfl, by omega, fun h => absurd h (by omega), fun _ => by omega, H.sel [] rfl rfl⟩, F.to (by repeat (first | exact trivial | refine Le.cons rfl ?_))⟩
  replace h12 := of_decide_eq_false h12
  obtain rfl : j = 1 := by omega
  obtain rfl := hv1 (by omega)
  refine wp_exit ?_;refine hK3 _ _ (cSR fun K11 hK11=>sMv F rfl rfl rfl ?_);clear hK3;clear F a;intro a F;refine sCall call136 F rfl rfl rfl (grow_any l.length hl _) ?_;rintro e w ⟨AG, cG, rfl, H2⟩;replace H := H.join H2; clear H2;refine ⟨_, rfl, ?_⟩;clear F a; intro a F;refine sAs F rfl rfl rfl (qNK hK11 ?_);clear hK11;clear F a;intro a F;refine cSeq (fun K12 hK12 => ?_);refine cSR fun K13 hK13=>sMv F rfl rfl rfl (qLen underlying200 rfl rfl rfl (qMv rfl rfl rfl (qNK hK13 ?_)));clear hK13;clear F a;intro a F;refine wp_block ?_
  refine cLoopR [25, 26] (fun m ups w => ∃ (j : Nat) (A : Option Addr) (c : Nat) (rows : List (List Value)), m = 1 - j ∧ ups = [(6, .slice A rows.length c), (27, .int .i64 ((j : Nat) : Int))] ∧ j ≤ 1 ∧ (j = 0 → rows = []) ∧ (1 ≤ j → rows = l.map (bs 38)) ∧ Own w0 none w [.rws 47 38 (.slice A rows.length c) rows]) F (1) [(6, .slice AG 0 cG), (27, .int .i64 ((0 : Nat) : Int))] (by repeat (first | exact SubR.nil | (apply SubR.cons; · rfl))) ?_ ?_ ?_
  · exact ⟨0, AG, cG, [], rfl, rfl, by omega, fun _ => rfl, fun h => absurd h (by omega), H.sel [0] rfl rfl⟩
  · repeat (first | exact trivial | refine Le.cons rfl ?_)
  clear F
  clear H
  intro m ups a w hI F
  obtain ⟨j, A, c, rows, rfl, rfl, hj, hr0, hr1, H⟩ := hI
  refine cSR fun K14 hK14=>sBin F rfl rfl rfl rfl bLss (qNK hK14 ?_);clear hK14;clear F a;intro a F;refine cSeq (fun K15 hK15 => ?_)
  refine cIf F rfl (fun h28 => ?_) (fun h28 => ?_)
  ·
   replace h28 := of_decide_eq_true h28
   obtain rfl : j = 0 := by omega
   obtain rfl := hr0 rfl
   refine wp_skip (hK15 _ _ ?_);clear hK15;refine cSeq (fun K16 hK16 => ?_);refine wp_block ?_;refine cSR fun K17 hK17=>?_
   refine sIx underlying200 sizeOf30 F rfl rfl rfl rfl ?_ ?_
   focus (first | omega | decide | (simp; omega))
   clear F a; intro a F;refine sLd isAgg30 F rfl rfl rfl (by simpa using H.arg hx0) (qAs rfl rfl rfl (qNK hK17 (qReg (qMv rfl rfl rfl (qMv rfl rfl rfl ?_)))));clear hK17;clear F a;intro a F;refine sAppO (bytes := 38) (sz := 38) H 0 underlying30 typeInfo47 rfl rfl rfl rfl rfl rfl F rfl rfl rfl rfl rfl ?hm (hR.own H) (bs38_len l) (bs38_one l) ?hb ?_
   case hm => first | rfl | (simp; done) | omega | (simp only [List.length_take, List.length_map]; omega) | (simp; omega)
   case hb => exact ((by simp; omega))
   clear F a H; intro A33 c33 a w F H;refine sAs F rfl rfl rfl (qNK hK16 (qReg ?_));clear hK16;clear F a;intro a F
   refine sBin F rfl rfl rfl rfl (bAddN (j := 1) ?_) ?_
   focus omega
   clear F a; intro a F;refine sMv F rfl rfl rfl ?_;clear F a;intro a F;refine sNil ?_
   exact ⟨_, by omega, _, ⟨1, A33, c33, _, rfl, rfl, by omega, fun h => absurd h (by omega), fun _ => by simp, H.sel [0] rfl rfl⟩, F.to (by repeat (first | exact trivial | refine Le.cons rfl ?_))⟩
  replace h28 := of_decide_eq_false h28
  obtain rfl : j = 1 := by omega
  obtain rfl := hr1 (by omega)
  rw [List.length_map] at F H;refine wp_exit ?_;refine hK12 _ _ (cSR fun K18 hK18=>sMv F rfl rfl rfl (qAs rfl rfl rfl (qNK hK18 ?_)));clear hK12 hK18;clear F a;intro a F;refine wp_ret ?_;refine bRet results97 F rfl ?_
  exact ⟨_, _, rfl, H.pick 0 rfl⟩
end Go.Proofs.YtbgnapmaimkpkaaGreatDoor
