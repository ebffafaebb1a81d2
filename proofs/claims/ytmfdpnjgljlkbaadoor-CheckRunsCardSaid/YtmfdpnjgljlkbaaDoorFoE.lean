/-
  WALK2. Package check: turnCond with a function that does nothing: the condition again, in new memory. Conditions: the condition lies in memory; its rows are not too long.
-/
import Derived.Test.YtmfdpnjgljlkbaaDoorFoD
import Derived.Test.YtmfdpnjgljlkbaaDoorVcZ
import Derived.Test.YtmfdpnjgljlkbaaDoorTrQ
set_option linter.unusedSimpArgs false
set_option linter.unusedVariables false
namespace Go.Proofs.YtmfdpnjgljlkbaaDoor
open Go.RowKit
set_option maxRecDepth 100000

/-- A condition's rows are not too long, h deep. -/
def Slim : Nat → Cnd → Prop
  | 0, _ => True
  | h + 1, .mk _ _ _ _ kids => kids.length ≤ 4398046510976 ∧ ∀ kid ∈ kids, Slim h kid
theorem nothing_any (x : Value) (w0 : World) : CallsF Tryd.prog (.func (.func 43) #[] #[]) [x] w0 fun e w' => e = .returned (.tuple #[]) ∧ Below w0.heap.size w0 w' := by
  have H := Own.start w0 none
  refine ⟨_, [], [], rfl, Tryd.call43, ?_⟩
  show Calls Tryd.prog 43 #[x] w0 _
  refine enterF Tryd.func43 rfl Tryd.ntmps43 rfl (fun a F => ?_)
  refine wp_skip ?_
  first | refine bEnd Tryd.results43 F ?_ | (simp only [Exit.then, Exit.inBlock, if_true]; (repeat (first | rw [if_pos rfl] | rw [if_neg (by decide)])); refine bEnd Tryd.results43 F ?_)
  exact ⟨rfl, H.below⟩
set_option maxHeartbeats 4000000 in
theorem turn_any (h : Nat) : ∀ (cs : List Value) (c : Cnd) (w0 : World), CondAt w0 h cs c → Slim h c →
    Calls Tryd.prog 42 #[.agg cs.toArray, .func (.func 43) #[] #[]] w0 fun e w' => ∃ cs' S, e = .returned (.agg cs'.toArray) ∧ Own w0 none w' [.tree S h cs' c] := by
  induction h with
  | zero => intro cs c w0 hC; exact hC.elim
  | succ h ih =>
    intro cs c w0 hC hs
    obtain ⟨k, t, n, v, kids⟩ := c
    obtain ⟨A, C, rfl, hkl, hK⟩ := hC
    obtain ⟨hs1, hs2⟩ := hs
    have H := Own.start w0 none
    refine enterF Tryd.func42 rfl Tryd.ntmps42 rfl (fun a F => ?_)
    refine cSeq (fun K1 hK1 => ?_)
    refine cReg ?_
    refine sBx H F rfl rfl rfl ?_
    clear F a H; intro b2 a w F H
    refine sAl H Tryd.zeroValue25 F rfl rfl ?_
    clear F a H; intro b4 a w F H
    refine sNil ?_
    refine hK1 _ _ ?_; clear hK1
    refine cSeq (fun K2 hK2 => ?_)
    refine cReg ?_
    refine sAs F rfl rfl rfl ?_;clear F a;intro a F
    replace H := H.nilRws 25 5
    refine sNil ?_
    refine hK2 _ _ ?_; clear hK2
    refine cSeq (fun K3 hK3 => ?_)
    refine cSeq (fun K4 hK4 => ?_)
    refine cReg ?_
    refine sFa (f := 4) (k := 4) Tryd.underlying25 rfl Tryd.sizeOf23 rfl rfl F rfl rfl rfl ?_;clear F a;intro a F
    refine sLd Tryd.isAgg23 F rfl rfl rfl (H.cell 2 rfl rfl) ?_;clear F a;intro a F
    refine sLen Tryd.underlying23 F rfl rfl rfl ?_;clear F a;intro a F
    refine sMv F rfl rfl rfl ?_;clear F a;intro a F
    refine sNil ?_
    refine hK4 _ _ ?_; clear hK4
    refine wp_block ?_
    refine cLoopR [1, 2, 4, 9, 10] (fun m ups w => ∃ (j : Nat) (A5 : Option Addr) (c5 : Nat) (S : Nat → Prop) (rows : List (List Value)), m = kids.length - j ∧ ups = [(5, .slice A5 rows.length c5), (11, .int .i64 ((j : Nat) : Int))] ∧ rows.length = j ∧ j ≤ kids.length ∧ (∀ r ∈ rows, r.length = 5) ∧ Own w0 none w [.forest S h rows kids, .rws 25 5 (.slice A5 rows.length c5) rows, .blk b4 [Go.Proofs.YtmfdpnjgljlkbaaDoor.b8 0, Go.Proofs.YtmfdpnjgljlkbaaDoor.b8 0, Go.Proofs.YtmfdpnjgljlkbaaDoor.b8 0, Go.Proofs.YtmfdpnjgljlkbaaDoor.b8 0, .slice none 0 0] 25, .blk b2 [Go.Proofs.YtmfdpnjgljlkbaaDoor.b8 k, Go.Proofs.YtmfdpnjgljlkbaaDoor.b8 t, Go.Proofs.YtmfdpnjgljlkbaaDoor.b8 n, Go.Proofs.YtmfdpnjgljlkbaaDoor.b8 v, .slice A kids.length C] 25]) F (kids.length) [(5, .slice none 0 0), (11, .int .i64 ((0 : Nat) : Int))] (by repeat (first | exact SubR.nil | (apply SubR.cons; · rfl))) ?_ ?_ ?_
    · exact ⟨0, none, 0, fun _ => False, [], rfl, rfl, rfl, Nat.zero_le _, (by simp), (H.sel [0, 1, 2] rfl rfl).void (.forest (fun _ => False) h [] kids) (fun j r kid h1 => by simp at h1) (fun _ hb => hb)⟩
    · repeat (first | exact trivial | refine Le.cons rfl ?_)
    clear F
    clear H
    intro m ups a w hI F
    obtain ⟨j, A5, c5, S, rows, rfl, rfl, hrj, hj, hr5, H⟩ := hI
    refine cSeq (fun K5 hK5 => ?_)
    refine cReg ?_
    refine sBin F rfl rfl rfl rfl bLss ?_;clear F a;intro a F
    refine sNil ?_
    refine hK5 _ _ ?_; clear hK5
    refine cSeq (fun K6 hK6 => ?_)
    refine cIf F rfl (fun h12 => ?_) (fun h12 => ?_)
    ·
     replace h12 := of_decide_eq_true h12
     have hjl : j < kids.length := by omega
     obtain ⟨kid, hx⟩ : ∃ x, kids[j]? = some x := ⟨_, List.getElem?_eq_getElem hjl⟩
     obtain ⟨b', off', cs', rfl, hR', hC'⟩ := hK j kid hx
     obtain ⟨k0, t0, n0, v0, A0, m0, C0, rfl⟩ := condShape hC'
     refine wp_skip ?_
     refine hK6 _ _ ?_; clear hK6
     refine cSeq (fun K7 hK7 => ?_)
     refine wp_block ?_
     refine cSeq (fun K8 hK8 => ?_)
     refine cReg ?_
     refine sIx Tryd.underlying23 Tryd.sizeOf25 F rfl rfl rfl rfl ?_ ?_
     focus (first | omega | decide | (simp; omega))
     clear F a; intro a F
     refine sLr Tryd.underlying25 rfl ?si F rfl rfl rfl (H.argR hR') ?_
     case si => exact info_size Tryd.sizeOf25
     clear F a; intro a F
     refine sAl H Tryd.zeroValue25 F rfl rfl ?_
     clear F a H; intro b7 a w F H
     refine sSr H 0 ?si F rfl rfl rfl ?s1 rfl rfl ?_
     case si => exact info_size Tryd.sizeOf25
     case s1 => first | rfl | (repeat (first | exact one_nil | (apply one_cons; · first | rfl | assumption | exact one_bif rfl rfl)))
     clear H; intro w H
     refine sNil ?_
     refine hK8 _ _ ?_; clear hK8
     refine cReg ?_
     refine sMv F rfl rfl rfl ?_;clear F a;intro a F
     refine sLr Tryd.underlying25 rfl ?si F rfl rfl rfl (H.whole 0 rfl) ?_
     case si => exact info_size Tryd.sizeOf25
     clear F a; intro a F
     refine sMv F rfl rfl rfl ?_;clear F a;intro a F
     refine sCall Tryd.call42 F rfl rfl rfl (ih _ kid _ (CondAt.grown H.grown rfl _ _ _ hC') (hs2 kid (List.mem_of_getElem? hx))) ?_
     rintro e w ⟨cs9, S9, rfl, H2⟩
     have hsh := condShape (H2.pred 0 _ rfl : TreeIn S9 _ h cs9 kid).at
     obtain ⟨k9, t9, n9, v9, A9, m9, C9, rfl⟩ := hsh
     replace H := H.join H2; clear H2
     refine ⟨_, rfl, ?_⟩
     clear F a; intro a F
     refine sBsA H Tryd.underlying23 Tryd.sizeOf25 Tryd.zeroValue25 rfl F rfl rfl rfl rfl rfl ?_
     clear F a H; intro b19 a w F H
     refine sApp1 (bytes := 32) H 4 Tryd.underlying23 Tryd.typeInfo25 rfl rfl rfl rfl rfl rfl F rfl rfl rfl rfl rfl (H.whole 0 rfl) rfl ?s1 ?s2 ?_
     case s1 => first | rfl | (repeat (first | exact one_nil | (apply one_cons; · first | rfl | assumption | exact one_bif rfl rfl)))
     case s2 => omega
     clear F a H; intro A20 c20 a w F H
     refine sAs F rfl rfl rfl ?_;clear F a;intro a F
     refine sNil ?_
     refine hK7 _ _ ?_; clear hK7
     refine cReg ?_
     refine sBin F rfl rfl rfl rfl (bAddN (j := 1) ?_) ?_
     focus omega
     clear F a; intro a F
     refine sMv F rfl rfl rfl ?_;clear F a;intro a F
     refine sNil ?_
     (refine ⟨_, ?_, _, ⟨j + 1, A20, c20, _, _, rfl, rfl, ?_, ?_, ?_, (H.sel [1, 3, 4, 5, 6] rfl rfl).plant (by rw [hrj]; exact hx)⟩, F.to (by repeat (first | exact trivial | refine Le.cons rfl ?_))⟩
      · omega
      · simp; omega
      · omega
      · intro r hr
        rcases List.mem_append.1 hr with h1 | h1
        · exact hr5 r h1
        · simp at h1; subst h1; rfl)
    replace h12 := of_decide_eq_false h12
    have hjl : rows.length = kids.length := by omega
    refine wp_exit ?_
    refine hK3 _ _ ?_; clear hK3
    refine cSeq (fun K9 hK9 => ?_)
    refine cReg ?_
    refine sMv F rfl rfl rfl ?_;clear F a;intro a F
    refine sFa (f := 4) (k := 4) Tryd.underlying25 rfl Tryd.sizeOf23 rfl rfl F rfl rfl rfl ?_;clear F a;intro a F
    refine sSt H 3 Tryd.sizeOf23 F rfl rfl rfl rfl rfl rfl ?_
    clear H; intro w H
    refine sNil ?_
    refine hK9 _ _ ?_; clear hK9
    refine cSeq (fun K10 hK10 => ?_)
    refine cReg ?_
    refine sMv F rfl rfl rfl ?_;clear F a;intro a F
    refine sCallV F rfl rfl rfl rfl (nothing_any _ _) ?_
    rintro e w ⟨rfl, hb⟩
    replace H := H.grow hb; clear hb
    refine ⟨_, rfl, ?_⟩
    clear F a; intro a F
    refine sNil ?_
    refine hK10 _ _ ?_; clear hK10
    refine cSeq (fun K11 hK11 => ?_)
    refine cReg ?_
    refine sLr Tryd.underlying25 rfl ?si F rfl rfl rfl (H.whole 3 rfl) ?_
    case si => exact info_size Tryd.sizeOf25
    clear F a; intro a F
    refine sSr H 2 ?si F rfl rfl rfl ?s1 rfl rfl ?_
    case si => exact info_size Tryd.sizeOf25
    case s1 => first | rfl | (repeat (first | exact one_nil | (apply one_cons; · first | rfl | assumption | exact one_bif rfl rfl)))
    clear H; intro w H
    refine sNil ?_
    refine hK11 _ _ ?_; clear hK11
    refine wp_ret ?_
    refine bRetC Tryd.results42 F rfl Tryd.underlying25 rfl H 2 rfl Tryd.sizeOf25 rfl ?_
    exact ⟨_, _, rfl, ((H.sel [0, 1] rfl rfl).grown1 k t n v hjl hr5 hkl)⟩
end Go.Proofs.YtmfdpnjgljlkbaaDoor
