/-
  WALK2. Package path: proceed, valid. Conditions: the run lies in a block of the caller's, the thread elsewhere in memory; the thread is valid.
-/
import Derived.Test.YtklpiodciblabaaGreatDoorPaD
import Derived.Test.YtklpiodciblabaaGreatDoorCkL
set_option linter.unusedSimpArgs false
set_option linter.unusedVariables false
namespace Go.Proofs.YtklpiodciblabaaGreatDoor
open Go.RowKit
set_option maxRecDepth 100000
def RowsNot (w : World) (b : Nat) (A : Option Addr) (sz : Nat) (rows : List (List Value)) : Prop := ∀ (j : Nat) (cs : List Value), rows[j]? = some cs → ∃ c off, A = some ⟨c, off, none⟩ ∧ c ≠ b ∧ w.rangeAt c (off + j * sz) cs
theorem Own.oldR {w0 w : World} {b : Nat} {rs : List Res} (H : Own w0 (some b) w rs) {c o : Nat} {cs : List Value} (h : w0.rangeAt c o cs) (hne : c ≠ b) : w.rangeAt c o cs := fun j v hv => H.old (h j v hv) (fun e => hne (Option.some.inj e))
theorem reads_no {op : UInt8} (h : op ≠ 6 ∧ op ≠ 5 ∧ op ≠ 4 ∧ op ≠ 1 ∧ True) : readsB op = false := by
  unfold readsB
  rw [beq_false_of_ne h.1, beq_false_of_ne h.2.1, beq_false_of_ne h.2.2.1, beq_false_of_ne h.2.2.2.1]
  rfl
theorem wants_of {l : List Ins} {r : RunP} {x : Ins} (hx : l[r.pc]? = some x) : wantsP l r = readsB x.op := by unfold wantsP; rw [hx]
theorem wants_end {l : List Ins} {r : RunP} (hx : l[r.pc]? = none) : wantsP l r = false := by unfold wantsP; rw [hx]
theorem proceed_any (b : Nat) (A : Option Addr) (C : Nat) (l : List Ins) (r : RunP) (w0 : World) (hB : RunAt w0 b r) (hA : RowsNot w0 b A 10 (l.map Ins.cells)) (hl : threadOk 6 l = true) (hI : InvR l r) :
    Calls Tryz.prog 28 #[.pointer (some ⟨b, 0, none⟩), .slice A l.length C] w0 fun e w' => e = .returned (.bool (wantsP l (proceedP l r))) ∧ Own w0 (some b) w' [.blk b (proceedP l r).cells 81] := by
  have H := Own.startRow hB
  have hl12 := thr_len hl
  refine enterF Tryz.func28 rfl Tryz.ntmps28 rfl (fun a F => ?_);refine cSR fun K1 hK1=>sAs F rfl rfl rfl (qNK hK1 ?_);clear hK1;clear F a;intro a F;refine cSeq (fun K2 hK2 => ?_);refine wp_block ?_
  refine cLoopR [0, 1] (fun m ups w => ∃ (r' : RunP), m = l.length - r'.pc ∧ ups = [] ∧ InvR l r' ∧ proceedP l r' = proceedP l r ∧ Own w0 (some b) w [.blk b r'.cells 81]) F (l.length - r.pc) [] (by repeat (first | exact SubR.nil | (apply SubR.cons; · rfl))) ?_ ?_ ?_
  · exact ⟨r, rfl, rfl, hI, rfl, H⟩
  · repeat (first | exact trivial | refine Le.cons rfl ?_)
  clear F
  clear H
  intro m ups a w hI F
  obtain ⟨r', rfl, rfl, hI', hp, H⟩ := hI
  refine cSeq (fun K3 hK3 => ?_);refine cSR fun K4 hK4=>sMv F rfl rfl rfl (qNc rfl rfl rfl (qFa (f := 0) (k := 0) Tryz.underlying81 rfl Tryz.sizeOf3 rfl rfl rfl rfl rfl (qLd Tryz.isAgg3 rfl rfl rfl (show _ = some (Value.int .i64 (r'.pc : Int)) from H.cell 0 rfl (cell_pc _)) (qMv rfl rfl rfl (qLen Tryz.underlying22 rfl rfl rfl (qBin rfl rfl rfl rfl bLss (qNK hK4 ?_)))))));clear hK4;clear F a;intro a F
  refine cIf F rfl (fun h11 => ?_) (fun h11 => ?_)
  ·
   replace h11 := of_decide_eq_true h11
   have hpl : r'.pc < l.length := by omega
   obtain ⟨x, hx⟩ : ∃ x, l[r'.pc]? = some x := ⟨_, List.getElem?_eq_getElem hpl⟩
   obtain ⟨c, off, rfl, hcb, hR⟩ := hA r'.pc x.cells (by rw [List.getElem?_map, hx]; rfl)
   have hn : True := trivial
   refine wp_skip (hK3 _ _ ?_);clear hK3;refine wp_block ?_;refine cSeq (fun K5 hK5 => ?_);refine cSR fun K6 hK6=>sMv F rfl rfl rfl (qMv rfl rfl rfl (qNc rfl rfl rfl (qFa (f := 0) (k := 0) Tryz.underlying81 rfl Tryz.sizeOf3 rfl rfl rfl rfl rfl (qLd Tryz.isAgg3 rfl rfl rfl (show _ = some (Value.int .i64 (r'.pc : Int)) from H.cell 0 rfl (cell_pc _)) ?_))));clear F a;intro a F
   refine sIx Tryz.underlying22 Tryz.sizeOf59 F rfl rfl rfl rfl ?_ ?_
   focus (first | omega | decide | (simp; omega))
   clear F a; intro a F;refine sFa (f := 0) Tryz.underlying59 rfl Tryz.sizeOf5 rfl rfl F rfl rfl rfl (qLd Tryz.isAgg5 rfl rfl rfl (H.oldR hR hcb 0 _ rfl) (qNK hK6 ?_));clear hK6;clear F a;intro a F;refine wp_block ?_;refine cSeq (fun K7 hK7 => ?_);refine cSR fun K8 hK8=>sBin F rfl rfl rfl rfl (bEqlB (y := 1)) (qAs rfl rfl rfl (qNK hK8 ?_));clear hK8;clear F a;intro a F
   refine F.split 20 rfl ?_ ?_ <;> (clear F; intro h20 F)
   ·
    replace h20 := beqT h20;refine cIfT F rfl ?_;refine wp_skip (hK7 _ _ ?_);clear hK7;refine cIfT F rfl ?_;refine cSR fun K9 hK9=>sAs F rfl rfl rfl (qNK hK9 ?_);clear hK9;clear F a;intro a F;refine wp_ret ?_;simp only [Exit.inBlock, Exit.then];refine bRet Tryz.results28 F rfl ?_
    first
    | (have e : x.op = 1 := h20
       have hw : wantsP l r' = true := (wants_of hx).trans (by rw [e]; rfl)
       rw [proceed_stop (.inl hw)] at hp;rw [← hp, hw]
       exact ⟨rfl, H.sel [0] rfl rfl⟩)
    | (have e : x.op = 4 := h20
       have hw : wantsP l r' = true := (wants_of hx).trans (by rw [e]; rfl)
       rw [proceed_stop (.inl hw)] at hp;rw [← hp, hw]
       exact ⟨rfl, H.sel [0] rfl rfl⟩)
    | (have e : x.op = 5 := h20
       have hw : wantsP l r' = true := (wants_of hx).trans (by rw [e]; rfl)
       rw [proceed_stop (.inl hw)] at hp;rw [← hp, hw]
       exact ⟨rfl, H.sel [0] rfl rfl⟩)
    | (have e : x.op = 6 := h20
       have hw : wantsP l r' = true := (wants_of hx).trans (by rw [e]; rfl)
       rw [proceed_stop (.inl hw)] at hp;rw [← hp, hw]
       exact ⟨rfl, H.sel [0] rfl rfl⟩)
    | (have hx : l[r'.pc]? = none := List.getElem?_eq_none (by omega)
       rw [proceed_stop (.inr hx)] at hp;rw [← hp, wants_end hx]
       exact ⟨rfl, H.sel [0] rfl rfl⟩)
   replace h20 := beqF h20
   replace hn := And.intro h20 hn
   refine cIfF F rfl ?_;refine cSR fun K10 hK10=>sBin F rfl rfl rfl rfl (bEqlB (y := 4)) (qAs rfl rfl rfl (qNK hK10 ?_));clear hK10;clear F a;intro a F
   refine F.split 20 rfl ?_ ?_ <;> (clear F; intro h20 F)
   ·
    replace h20 := beqT h20;refine cIfT F rfl ?_;refine wp_skip (hK7 _ _ ?_);clear hK7;refine cIfT F rfl ?_;refine cSR fun K11 hK11=>sAs F rfl rfl rfl (qNK hK11 ?_);clear hK11;clear F a;intro a F;refine wp_ret ?_;simp only [Exit.inBlock, Exit.then];refine bRet Tryz.results28 F rfl ?_
    first
    | (have e : x.op = 1 := h20
       have hw : wantsP l r' = true := (wants_of hx).trans (by rw [e]; rfl)
       rw [proceed_stop (.inl hw)] at hp;rw [← hp, hw]
       exact ⟨rfl, H.sel [0] rfl rfl⟩)
    | (have e : x.op = 4 := h20
       have hw : wantsP l r' = true := (wants_of hx).trans (by rw [e]; rfl)
       rw [proceed_stop (.inl hw)] at hp;rw [← hp, hw]
       exact ⟨rfl, H.sel [0] rfl rfl⟩)
    | (have e : x.op = 5 := h20
       have hw : wantsP l r' = true := (wants_of hx).trans (by rw [e]; rfl)
       rw [proceed_stop (.inl hw)] at hp;rw [← hp, hw]
       exact ⟨rfl, H.sel [0] rfl rfl⟩)
    | (have e : x.op = 6 := h20
       have hw : wantsP l r' = true := (wants_of hx).trans (by rw [e]; rfl)
       rw [proceed_stop (.inl hw)] at hp;rw [← hp, hw]
       exact ⟨rfl, H.sel [0] rfl rfl⟩)
    | (have hx : l[r'.pc]? = none := List.getElem?_eq_none (by omega)
       rw [proceed_stop (.inr hx)] at hp;rw [← hp, wants_end hx]
       exact ⟨rfl, H.sel [0] rfl rfl⟩)
   replace h20 := beqF h20
   replace hn := And.intro h20 hn
   refine cIfF F rfl ?_;refine cSR fun K12 hK12=>sBin F rfl rfl rfl rfl (bEqlB (y := 5)) (qAs rfl rfl rfl (qNK hK12 ?_));clear hK12;clear F a;intro a F
   refine F.split 20 rfl ?_ ?_ <;> (clear F; intro h20 F)
   ·
    replace h20 := beqT h20;refine cIfT F rfl ?_;refine wp_skip (hK7 _ _ ?_);clear hK7;refine cIfT F rfl ?_;refine cSR fun K13 hK13=>sAs F rfl rfl rfl (qNK hK13 ?_);clear hK13;clear F a;intro a F;refine wp_ret ?_;simp only [Exit.inBlock, Exit.then];refine bRet Tryz.results28 F rfl ?_
    first
    | (have e : x.op = 1 := h20
       have hw : wantsP l r' = true := (wants_of hx).trans (by rw [e]; rfl)
       rw [proceed_stop (.inl hw)] at hp;rw [← hp, hw]
       exact ⟨rfl, H.sel [0] rfl rfl⟩)
    | (have e : x.op = 4 := h20
       have hw : wantsP l r' = true := (wants_of hx).trans (by rw [e]; rfl)
       rw [proceed_stop (.inl hw)] at hp;rw [← hp, hw]
       exact ⟨rfl, H.sel [0] rfl rfl⟩)
    | (have e : x.op = 5 := h20
       have hw : wantsP l r' = true := (wants_of hx).trans (by rw [e]; rfl)
       rw [proceed_stop (.inl hw)] at hp;rw [← hp, hw]
       exact ⟨rfl, H.sel [0] rfl rfl⟩)
    | (have e : x.op = 6 := h20
       have hw : wantsP l r' = true := (wants_of hx).trans (by rw [e]; rfl)
       rw [proceed_stop (.inl hw)] at hp;rw [← hp, hw]
       exact ⟨rfl, H.sel [0] rfl rfl⟩)
    | (have hx : l[r'.pc]? = none := List.getElem?_eq_none (by omega)
       rw [proceed_stop (.inr hx)] at hp;rw [← hp, wants_end hx]
       exact ⟨rfl, H.sel [0] rfl rfl⟩)
   replace h20 := beqF h20
   replace hn := And.intro h20 hn
   refine cIfF F rfl ?_;refine cReg (sBin F rfl rfl rfl rfl (bEqlB (y := 6)) (qAs rfl rfl rfl (qNK hK7 ?_)));clear hK7;clear F a;intro a F
   refine F.split 20 rfl ?_ ?_ <;> (clear F; intro h20 F)
   ·
    replace h20 := beqT h20;refine cIfT F rfl ?_;refine cSR fun K14 hK14=>sAs F rfl rfl rfl (qNK hK14 ?_);clear hK14;clear F a;intro a F;refine wp_ret ?_;simp only [Exit.inBlock, Exit.then];refine bRet Tryz.results28 F rfl ?_
    first
    | (have e : x.op = 1 := h20
       have hw : wantsP l r' = true := (wants_of hx).trans (by rw [e]; rfl)
       rw [proceed_stop (.inl hw)] at hp;rw [← hp, hw]
       exact ⟨rfl, H.sel [0] rfl rfl⟩)
    | (have e : x.op = 4 := h20
       have hw : wantsP l r' = true := (wants_of hx).trans (by rw [e]; rfl)
       rw [proceed_stop (.inl hw)] at hp;rw [← hp, hw]
       exact ⟨rfl, H.sel [0] rfl rfl⟩)
    | (have e : x.op = 5 := h20
       have hw : wantsP l r' = true := (wants_of hx).trans (by rw [e]; rfl)
       rw [proceed_stop (.inl hw)] at hp;rw [← hp, hw]
       exact ⟨rfl, H.sel [0] rfl rfl⟩)
    | (have e : x.op = 6 := h20
       have hw : wantsP l r' = true := (wants_of hx).trans (by rw [e]; rfl)
       rw [proceed_stop (.inl hw)] at hp;rw [← hp, hw]
       exact ⟨rfl, H.sel [0] rfl rfl⟩)
    | (have hx : l[r'.pc]? = none := List.getElem?_eq_none (by omega)
       rw [proceed_stop (.inr hx)] at hp;rw [← hp, wants_end hx]
       exact ⟨rfl, H.sel [0] rfl rfl⟩)
   replace h20 := beqF h20
   replace hn := And.intro h20 hn
   refine cIfF F rfl ?_;refine wp_skip (hK5 _ _ (cReg (sMv F rfl rfl rfl (qMv rfl rfl rfl (qMv rfl rfl rfl (qNc rfl rfl rfl (qFa (f := 0) (k := 0) Tryz.underlying81 rfl Tryz.sizeOf3 rfl rfl rfl rfl rfl (qLd Tryz.isAgg3 rfl rfl rfl (show _ = some (Value.int .i64 (r'.pc : Int)) from H.cell 0 rfl (cell_pc _)) ?_))))))));clear hK5;clear F a;intro a F
   refine sIx Tryz.underlying22 Tryz.sizeOf59 F rfl rfl rfl rfl ?_ ?_
   focus (first | omega | decide | (simp; omega))
   clear F a; intro a F
   refine sLr Tryz.underlying59 rfl ?si F rfl rfl rfl (H.oldR hR hcb) ?_
   case si => exact info_size Tryz.sizeOf59
   clear F a; intro a F;refine sCall Tryz.call29 F rfl rfl rfl (execute_any b r' x 0 _ (H.blk 0 rfl) (thr_at hl hx).inr (hI'.ok hl hpl) (thr_at hl hx).op) ?_;rintro e w ⟨rfl, H2⟩
   replace H := H.turned 0 rfl H2; clear H2
   refine ⟨_, rfl, ?_⟩;clear F a; intro a F;refine sNil ?_
   (refine ⟨_, ?_, _, ⟨execE x 0 r', rfl, rfl, exec_inv 0 hI' hl hx, ?_, H.sel [0] rfl rfl⟩, F.to (by repeat (first | exact trivial | refine Le.cons rfl ?_))⟩
    · have := exec_pc x 0 r'; omega
    · rw [← proceed_step hx (reads_no hn)]; exact hp)
  replace h11 := of_decide_eq_false h11;refine wp_exit ?_;refine hK2 _ _ (cSR fun K15 hK15=>sAs F rfl rfl rfl (qNK hK15 ?_));clear hK2 hK15;clear F a;intro a F;refine wp_ret ?_;refine bRet Tryz.results28 F rfl ?_
  first
  | (have e : x.op = 1 := h20
     have hw : wantsP l r' = true := (wants_of hx).trans (by rw [e]; rfl)
     rw [proceed_stop (.inl hw)] at hp;rw [← hp, hw]
     exact ⟨rfl, H.sel [0] rfl rfl⟩)
  | (have e : x.op = 4 := h20
     have hw : wantsP l r' = true := (wants_of hx).trans (by rw [e]; rfl)
     rw [proceed_stop (.inl hw)] at hp;rw [← hp, hw]
     exact ⟨rfl, H.sel [0] rfl rfl⟩)
  | (have e : x.op = 5 := h20
     have hw : wantsP l r' = true := (wants_of hx).trans (by rw [e]; rfl)
     rw [proceed_stop (.inl hw)] at hp;rw [← hp, hw]
     exact ⟨rfl, H.sel [0] rfl rfl⟩)
  | (have e : x.op = 6 := h20
     have hw : wantsP l r' = true := (wants_of hx).trans (by rw [e]; rfl)
     rw [proceed_stop (.inl hw)] at hp;rw [← hp, hw]
     exact ⟨rfl, H.sel [0] rfl rfl⟩)
  | (have hx : l[r'.pc]? = none := List.getElem?_eq_none (by omega)
     rw [proceed_stop (.inr hx)] at hp;rw [← hp, wants_end hx]
     exact ⟨rfl, H.sel [0] rfl rfl⟩)
theorem validP_any (A : Option Addr) (C : Nat) (l : List Ins) (w0 : World) (hA : RowsAt w0 A 10 (l.map Ins.cells)) (hN : NeedsAt w0) (hn : l.length ≤ 9223372036854775807) :
    Calls Tryz.prog 27 #[.slice A l.length C] w0 fun e w' => e = .returned (.bool (threadOk 6 l)) ∧ Below w0.heap.size w0 w' := by
  have H := Own.start w0 none
  refine enterF Tryz.func27 rfl Tryz.ntmps27 rfl (fun a F => ?_);refine cSR fun K1 hK1=>sAs F rfl rfl rfl (qNK hK1 (qSR fun K2 hK2=>qMv rfl rfl rfl ?_));clear hK1;clear F a;intro a F;refine sCall Tryz.call26 F rfl rfl rfl (thread_any A C l 6 _ (hA.own H) (hN.own H) hn) ?_;rintro e w ⟨rfl, hb⟩;replace H := H.grow hb; clear hb;refine ⟨_, rfl, ?_⟩;clear F a; intro a F;refine sAs F rfl rfl rfl (qNK hK2 ?_);clear hK2;clear F a;intro a F;refine wp_ret ?_;refine bRet Tryz.results27 F rfl ?_
  exact ⟨rfl, H.below⟩
end Go.Proofs.YtklpiodciblabaaGreatDoor
