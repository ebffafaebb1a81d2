/-
  WALK2. Package path: execute. Conditions: the run lies in a block of the caller's; the instruction is within the bounds stated.
-/
import Derived.Test.YtklpiodciblabaaGreatDoorPaB
set_option linter.unusedSimpArgs false
set_option linter.unusedVariables false
namespace Go.Proofs.YtklpiodciblabaaGreatDoor
open Go.RowKit
set_option maxRecDepth 100000
section
variable {P : Program} {l : List Oper} {Q : Exit → Act → World → Prop} {N : Nat} {a : Act} {env : List (Nat × Value)} {rest : List Oper} {d : Tmp} {ty : TypeId} {pos : String} {af : Array Edge} {g : Option (Nat × Bool)} {w : World}
theorem sBa {t e : TypeId} {n size : Nat} {parts : List (Nat × Operand)} {ps : List (Nat × Value)} {zs : Array Value} {cs : List Value} (hz : ∀ w, (zeroValue t).run P w = .ok (.agg zs) w) (hu : P.underlying t = some (.array n e)) (hs : ∀ w, (sizeOf e).run P w = .ok size w)
    (F : Has N a env) (hg : wants l env g = true) (hN : Nat.blt d N = true) (he : evP env parts = some ps) (hf : fillL (fun i => some (i * size, size)) zs.toList ps = some cs)
    (K : ∀ a, Has N a ((d, .agg cs.toArray) :: env) → wpList P l.toArray Q rest a w) : wpList P l.toArray Q (⟨some d, .build t parts.toArray, ty, pos, af, g⟩ :: rest) a w :=
  stepV F hg rfl hN (rBa hz hu hs F he hf) K
theorem rIdG {t e : TypeId} {x i : Operand} {len j : Nat} {cs : List Value} {v : Value} {k : IntKind} (ht : P.underlying t = some (.array len e)) (hz : ∀ w, (sizeOf e).run P w = .ok 1 w) (ha : ∀ w, (isAgg e).run P w = .ok false w)
    (F : Has N a env) (hx : ev env x = some (.agg cs.toArray)) (hi : ev env i = some (.int k (j : Int))) (hj : j < len) (hl : cs[j]? = some v) :
    (execOp a.eval ⟨some d, .index t x i, ty, pos, af, g⟩).run P w = .ok (.value v) w := by
  obtain ⟨hlt, hv⟩ := List.getElem?_eq_some_iff.1 hl
  have h1 := part_pk (P := P) (e := e) (n := 1) (off := j * 1) (vs := cs) w hz ha (fun _ => rfl) (by omega)
  have e1 : (cs.drop (j * 1)).take 1 = [v] := by rw [Nat.mul_one, List.drop_eq_getElem_cons hlt, hv]; rfl
  rw [e1] at h1
  simp only [execOp, F.eval hx, F.eval hi, Instr.index, asIntOf, Sem.run_bind, Sem.run_pure, Result.andThen_ok, run_underlying ht, hz]
  rw [if_pos (by omega)]
  simp only [Sem.run_bind, hz, Result.andThen_ok, Int.toNat_natCast, h1, Sem.run_pure, pk]
theorem sIdG {t e : TypeId} {x i : Operand} {len j : Nat} {cs : List Value} {v : Value} {k : IntKind} (ht : P.underlying t = some (.array len e)) (hz : ∀ w, (sizeOf e).run P w = .ok 1 w) (ha : ∀ w, (isAgg e).run P w = .ok false w)
    (F : Has N a env) (hg : wants l env g = true) (hN : Nat.blt d N = true) (hx : ev env x = some (.agg cs.toArray)) (hi : ev env i = some (.int k (j : Int))) (hj : j < len) (hl : cs[j]? = some v)
    (K : ∀ a, Has N a ((d, v) :: env) → wpList P l.toArray Q rest a w) : wpList P l.toArray Q (⟨some d, .index t x i, ty, pos, af, g⟩ :: rest) a w :=
  stepV F hg rfl hN (rIdG ht hz ha F hx hi hj hl) K
theorem qIdG {t e : TypeId} {x i : Operand} {len j : Nat} {cs : List Value} {v : Value} {k : IntKind} (ht : P.underlying t = some (.array len e)) (hz : ∀ w, (sizeOf e).run P w = .ok 1 w) (ha : ∀ w, (isAgg e).run P w = .ok false w) (hg : wants l env g = true) (hN : Nat.blt d N = true) (hx : ev env x = some (.agg cs.toArray)) (hi : ev env i = some (.int k (j : Int))) (hj : j < len) (hl : cs[j]? = some v) (K : ∀ a, Has N a ((d, v) :: env) → wpList P l.toArray Q rest a w) : ∀ a, Has N a env → wpList P l.toArray Q (⟨some d, .index t x i, ty, pos, af, g⟩ :: rest) a w := fun a F => sIdG ht hz ha F hg hN hx hi hj hl K
end
def effL : List Value := [.nilFunc, .func (.func 77) #[] #[], .func (.func 78) #[] #[], .func (.func 79) #[] #[], .func (.func 80) #[] #[], .func (.func 81) #[] #[], .func (.func 82) #[] #[], .func (.func 83) #[] #[], .func (.func 84) #[] #[]]
theorem effectsP_any (w0 : World) : Calls Tryz.prog 42 #[] w0 fun e w' => e = .returned (.agg effL.toArray) ∧ Below w0.heap.size w0 w' := by
  have H := Own.start w0 none
  refine enterF Tryz.func42 rfl Tryz.ntmps42 rfl (fun a F => ?_);refine cSR fun K1 hK1=>?_;refine sAl H Tryz.zeroValue107 F rfl rfl ?_;clear F a H; intro b0 a w F H;refine nK hK1 (cSR fun K2 hK2=>sBa Tryz.zeroValue107 Tryz.underlying107 Tryz.sizeOf106 F rfl rfl rfl rfl ?_);clear hK1;clear F a;intro a F
  refine sSr H 0 ?si F rfl rfl rfl ?s1 rfl rfl ?_
  case si => exact info_size Tryz.sizeOf107
  case s1 => first | rfl | (repeat (first | exact one_nil | (apply one_cons; · first | rfl | assumption | exact one_bif rfl rfl)))
  clear H; intro w H;refine nK hK2 ?_;clear hK2;refine wp_ret ?_;refine bRetC Tryz.results42 F rfl Tryz.underlying107 rfl H 0 rfl Tryz.sizeOf107 rfl ?_
  exact ⟨rfl, H.below⟩
structure RunOk (r : RunP) : Prop where
  sets : SetsOk r
  pc : r.pc < 256
  many : r.many + 1 < 24
theorem eff_any {x : Ins} {r : RunP} {b : Nat} (hx : InR x) (hr : RunOk r) (ho : 1 ≤ x.op.toNat ∧ x.op.toNat ≤ 8) : ∃ v, effL[x.op.toNat]? = some v ∧ ∀ (val : UInt8) (w0 : World), RunAt w0 b r →
    CallsF Tryz.prog v [.pointer (some ⟨b, 0, none⟩), .agg x.cells.toArray, Go.Proofs.YtklpiodciblabaaGreatDoor.b8 val] w0 fun e w' => e = .returned (.tuple #[]) ∧ Own w0 (some b) w' [.blk b (effE x val r).cells 81] := by
  have hm := hr.many
  have hm' : r.many < 24 := by omega
  have e : ∀ k : Nat, x.op.toNat = k → k < 256 → x.op = UInt8.ofNat k := fun k h1 h2 => by rw [← h1]; simp
  have hc : x.op = 1 ∨ x.op = 2 ∨ x.op = 3 ∨ x.op = 4 ∨ x.op = 5 ∨ x.op = 6 ∨ x.op = 7 ∨ x.op = 8 := by
    rcases (by omega : x.op.toNat = 1 ∨ x.op.toNat = 2 ∨ x.op.toNat = 3 ∨ x.op.toNat = 4 ∨ x.op.toNat = 5 ∨ x.op.toNat = 6 ∨ x.op.toNat = 7 ∨ x.op.toNat = 8) with h | h | h | h | h | h | h | h
    · exact .inl (e 1 h (by decide))
    · exact .inr (.inl (e 2 h (by decide)))
    · exact .inr (.inr (.inl (e 3 h (by decide))))
    · exact .inr (.inr (.inr (.inl (e 4 h (by decide)))))
    · exact .inr (.inr (.inr (.inr (.inl (e 5 h (by decide))))))
    · exact .inr (.inr (.inr (.inr (.inr (.inl (e 6 h (by decide)))))))
    · exact .inr (.inr (.inr (.inr (.inr (.inr (.inl (e 7 h (by decide))))))))
    · exact .inr (.inr (.inr (.inr (.inr (.inr (.inr (e 8 h (by decide))))))))
  rcases hc with h | h | h | h | h | h | h | h
  · rw [h]; refine ⟨_, rfl, fun val w0 hB => ⟨_, [], [], rfl, Tryz.call77, ?_⟩⟩
    rw [show effE x val r = loadE x val r by unfold effE; rw [h]; rfl]
    exact load_any b r x val w0 hB hx hm' hr.pc
  · rw [h]; refine ⟨_, rfl, fun val w0 hB => ⟨_, [], [], rfl, Tryz.call78, ?_⟩⟩
    rw [show effE x val r = storeE x r by unfold effE; rw [h]; rfl]
    exact store_any b r x val w0 hB hx hm' hr.pc
  · rw [h]; refine ⟨_, rfl, fun val w0 hB => ⟨_, [], [], rfl, Tryz.call79, ?_⟩⟩
    rw [show effE x val r = moveE' x r by unfold effE; rw [h]; rfl]
    exact moveI_any b r x val w0 hB hx hr.sets
  · rw [h]; refine ⟨_, rfl, fun val w0 hB => ⟨_, [], [], rfl, Tryz.call80, ?_⟩⟩
    rw [show effE x val r = swapE x val r by unfold effE; rw [h]; rfl]
    exact swap_any b r x val w0 hB hx hm hr.pc
  · rw [h]; refine ⟨_, rfl, fun val w0 hB => ⟨_, [], [], rfl, Tryz.call81, ?_⟩⟩
    rw [show effE x val r = fetchE x val r by unfold effE; rw [h]; rfl]
    exact fetch_any b r x val w0 hB hx hr.sets hm hr.pc
  · rw [h]; refine ⟨_, rfl, fun val w0 hB => ⟨_, [], [], rfl, Tryz.call82, ?_⟩⟩
    rw [show effE x val r = casE x val r by unfold effE; rw [h]; rfl]
    exact cas_any b r x val w0 hB hx hr.sets hm hr.pc
  · rw [h]; refine ⟨_, rfl, fun val w0 hB => ⟨_, [], [], rfl, Tryz.call83, ?_⟩⟩
    rw [show effE x val r = fenceE x r by unfold effE; rw [h]; rfl]
    exact fence_any b r x val w0 hB hm' hr.pc
  · rw [h]; refine ⟨_, rfl, fun val w0 hB => ⟨_, [], [], rfl, Tryz.call84, ?_⟩⟩
    rw [show effE x val r = skipE x r by unfold effE; rw [h]; rfl]
    exact skip_any b r x val w0 hB hx hr.sets hr.pc
theorem wReg_pc (r : RunP) (d : Nat) (v : UInt8) : (r.wReg d v).pc = r.pc := rfl
theorem wDep_pc (r : RunP) (d n : Nat) : (r.wDep d n).pc = r.pc := rfl
theorem wMany_pc (r : RunP) (n : Nat) : (r.wMany n).pc = r.pc := rfl
theorem wEv_pc (r : RunP) (k : Nat) (e : Ev) : (r.wEv k e).pc = r.pc := rfl
theorem wData_pc (r : RunP) (d n : Nat) : (r.wData d n).pc = r.pc := rfl
theorem wCtrl_pc (r : RunP) (d n : Nat) : (r.wCtrl d n).pc = r.pc := rfl
theorem wAtt_pc (r : RunP) (d n : Nat) : (r.wAtt d n).pc = r.pc := rfl
theorem wPc_pc (r : RunP) (n : Nat) : (r.wPc n).pc = n := rfl
theorem set_pc' (d v : UInt8) (n : Nat) (r : RunP) : (setP d v n r).pc = r.pc := by unfold setP; rw [wDep_pc, wReg_pc]
theorem emit_pc (kind loc val mode : UInt8) (n : Nat) (r : RunP) : (emitP kind loc val mode n r).pc = r.pc := by unfold emitP; rw [wMany_pc, wCtrl_pc, wData_pc, wEv_pc]
theorem exch_pc (x : Ins) (old val : UInt8) (n : Nat) (r : RunP) : (exchE x old val n r).pc = r.pc := by unfold exchE; rw [set_pc', wAtt_pc, emit_pc, emit_pc]
theorem load_pc (x : Ins) (v : UInt8) (r : RunP) : (loadE x v r).pc = r.pc := by unfold loadE; rw [set_pc', emit_pc]
theorem store_pc (x : Ins) (r : RunP) : (storeE x r).pc = r.pc := by unfold storeE; rw [emit_pc]
theorem move_pc (x : Ins) (r : RunP) : (moveE' x r).pc = r.pc := by unfold moveE'; rw [set_pc']
theorem swap_pc (x : Ins) (v : UInt8) (r : RunP) : (swapE x v r).pc = r.pc := by unfold swapE; rw [exch_pc]
theorem fetch_pc (x : Ins) (v : UInt8) (r : RunP) : (fetchE x v r).pc = r.pc := by unfold fetchE; rw [wData_pc, exch_pc]
theorem fence_pc (x : Ins) (r : RunP) : (fenceE x r).pc = r.pc := by unfold fenceE; rw [emit_pc]
theorem cas_pc (x : Ins) (v : UInt8) (r : RunP) : (casE x v r).pc = r.pc := by
  unfold casE
  split
  · rw [set_pc', emit_pc]
  · rw [wCtrl_pc, exch_pc]
theorem skip_pc (x : Ins) (r : RunP) : r.pc ≤ (skipE x r).pc ∧ (skipE x r).pc ≤ r.pc + x.skip.toNat := by
  unfold skipE
  split
  · exact ⟨Nat.le_add_right _ _, Nat.le_refl _⟩
  · exact ⟨Nat.le_refl _, Nat.le_add_right _ _⟩
theorem eff_pc (x : Ins) (v : UInt8) (r : RunP) : r.pc ≤ (effE x v r).pc ∧ (effE x v r).pc ≤ r.pc + x.skip.toNat := by
  have key : ∀ n : Nat, n = r.pc → r.pc ≤ n ∧ n ≤ r.pc + x.skip.toNat := fun n h => by omega
  unfold effE
  split
  · exact key _ (load_pc x v r)
  · split
    · exact key _ (store_pc x r)
    · split
      · exact key _ (move_pc x r)
      · split
        · exact key _ (swap_pc x v r)
        · split
          · exact key _ (fetch_pc x v r)
          · split
            · exact key _ (cas_pc x v r)
            · split
              · exact key _ (fence_pc x r)
              · exact skip_pc x r
theorem execute_any (b : Nat) (r : RunP) (x : Ins) (val : UInt8) (w0 : World) (hB : RunAt w0 b r) (hx : InR x) (hr : RunOk r) (ho : 1 ≤ x.op.toNat ∧ x.op.toNat ≤ 8) :
    Calls Tryz.prog 29 #[.pointer (some ⟨b, 0, none⟩), .agg x.cells.toArray, Go.Proofs.YtklpiodciblabaaGreatDoor.b8 val] w0 fun e w' => e = .returned (.tuple #[]) ∧ Own w0 (some b) w' [.blk b (execE x val r).cells 81] := by
  have H := Own.startRow hB
  obtain ⟨v, hv, hE⟩ := eff_any (b := b) hx hr ho
  have hpc := hr.pc
  have hsk := x.skip.toNat_lt
  have hpe := eff_pc x val r
  refine enterF Tryz.func29 rfl Tryz.ntmps29 rfl (fun a F => ?_);refine cSR fun K1 hK1=>?_;refine sBx H F rfl rfl rfl ?_;clear F a H; intro b4 a w F H;refine nK hK1 ?_;clear hK1;refine cSeq (fun K2 hK2 => ?_);refine cRegRO (by kernel_rfl) H ?_;replace H := H.drew;refine eTF 1 rfl (by kernel_rfl) F rfl rfl rfl (fun w=>rFa (f := 0) (k := 0) Tryz.underlying59 rfl Tryz.sizeOf5 rfl rfl F rfl) H qq0 (qT 2 rfl (by kernel_rfl) rfl rfl rfl rfl (fun a F w H=>rLd Tryz.isAgg5 F rfl (H.cell 0 rfl rfl)) H qq0 (qTF 4 rfl (by kernel_rfl) rfl rfl rfl (fun a F w=>rMv F rfl) H qq0 ?_));clear F a;intro a F
  refine eTake (k := 3) (i := 5) rfl (by kernel_rfl) F rfl rfl rfl rfl (fun w H => rLr Tryz.underlying59 rfl ?si F rfl (H.whole 0 rfl)) H (fun _ _ _ h => h) ?_
  case si => exact info_size Tryz.sizeOf59
  clear F a; intro a F;refine eTF 6 rfl (by kernel_rfl) F rfl rfl rfl (fun w=>rMv F rfl) H qq0 ?_;clear F a;intro a F;refine eOne (k := 5) (i := 0) rfl (by kernel_rfl) F rfl (oCall Tryz.call42 F rfl rfl (effectsP_any _) ?_);rintro e w ⟨rfl, hb⟩;replace H := H.grow hb; clear hb;refine ⟨_, rfl, ?_⟩;clear F a; intro a F;refine eKeep H ?_;refine eTF 3 rfl (by kernel_rfl) F rfl rfl rfl (fun w=>rIdG Tryz.underlying107 Tryz.sizeOf106 Tryz.isAgg106 F rfl rfl (by omega) (hv)) H qq0 ?_;clear F a;intro a F;refine eOne (k := 7) (i := 7) rfl (by kernel_rfl) F rfl (oCallV F rfl rfl rfl (hE val _ (H.blk 1 rfl)) ?_);rintro e w ⟨rfl, H2⟩
  replace H := H.turned 1 rfl H2; clear H2
  refine ⟨_, rfl, ?_⟩;clear F a; intro a F;refine ePartO (by kernel_rfl) H ?_;refine eNil (k := 8) (by kernel_rfl) ?_;refine hK2 _ _ (cReg (sMv F rfl rfl rfl (qNc rfl rfl rfl (qFa (f := 0) (k := 0) Tryz.underlying81 rfl Tryz.sizeOf3 rfl rfl rfl rfl rfl (qLd Tryz.isAgg3 rfl rfl rfl (show _ = some (Value.int .i64 ((effE x val r).pc : Int)) from H.cell 1 rfl (cell_pc _)) ?_)))));clear hK2;clear F a;intro a F
  refine sBin F rfl rfl rfl rfl (bAddI ?_) ?_
  focus omega
  clear F a; intro a F;refine sNc F rfl rfl rfl (qFa (f := 0) (k := 0) Tryz.underlying81 rfl Tryz.sizeOf3 rfl rfl rfl rfl rfl ?_);clear F a;intro a F;refine sSt H 1 Tryz.sizeOf3 F rfl rfl rfl rfl rfl (cell_pc _) ?_;clear H; intro w H;refine sNil ?_
  first | refine bEnd Tryz.results29 F ?_ | (simp only [Exit.then, Exit.inBlock, if_true]; (repeat (first | rw [if_pos rfl] | rw [if_neg (by decide)])); refine bEnd Tryz.results29 F ?_)
  exact ⟨rfl, by rw [show (((effE x val r).pc : Int) + 1) = (((effE x val r).pc + 1 : Nat) : Int) from rfl, set_pc] at H; exact H.sel [1] rfl rfl⟩
end Go.Proofs.YtklpiodciblabaaGreatDoor
