/-
  WALK2. Package check: turnCond with a function that does nothing: the condition again, in new memory. Conditions: the condition lies in memory; its rows are not too long.
-/
import Derived.Test.YtfcidfljidkcaaaDoorFoD
import Derived.Test.YtfcidfljidkcaaaDoorVcZ
set_option linter.unusedSimpArgs false
set_option linter.unusedVariables false
namespace Go.Proofs.YtfcidfljidkcaaaDoor
open Go.RowKit
set_option maxRecDepth 100000

/-- The cells are a condition's, h deep at most, its rows in the blocks S. -/
def TreeIn (S : Nat → Prop) (w : World) : Nat → List Value → Cnd → Prop
  | 0, _, _ => False
  | h + 1, cs, .mk k t n v kids => ∃ A C, cs = [b8 k, b8 t, b8 n, b8 v, .slice A kids.length C] ∧ kids.length ≤ 9223372036854775807 ∧
      ∀ j kid, kids[j]? = some kid → ∃ b off cs', A = some ⟨b, off, none⟩ ∧ S b ∧ w.rangeAt b (off + j * 5) cs' ∧ TreeIn S w h cs' kid
theorem TreeIn.at {S : Nat → Prop} {w : World} : ∀ {h : Nat} {cs : List Value} {c : Cnd}, TreeIn S w h cs c → CondAt w h cs c
  | 0, _, _, hc => hc
  | h + 1, cs, .mk k t n v kids, ⟨A, C, h1, h2, h3⟩ => ⟨A, C, h1, h2, fun j kid hj => by
    obtain ⟨b, off, cs', h4, _, h6, h7⟩ := h3 j kid hj
    exact ⟨b, off, cs', h4, h6, h7.at⟩⟩
theorem range_same {w w' : World} {b o : Nat} {cs : List Value} (h : w'.heap[b]? = w.heap[b]?) (hr : w.rangeAt b o cs) : w'.rangeAt b o cs := fun k v hk => by
  have := hr k v hk
  unfold World.cell? at this ⊢
  simp only [h]
  exact this
theorem TreeIn.loc {S T : Nat → Prop} {w w' : World} (hs : ∀ b, S b → w'.heap[b]? = w.heap[b]?) (hT : ∀ b, S b → T b) : ∀ {h : Nat} {cs : List Value} {c : Cnd}, TreeIn S w h cs c → TreeIn T w' h cs c
  | 0, _, _, hc => hc
  | h + 1, cs, .mk k t n v kids, ⟨A, C, h1, h2, h3⟩ => ⟨A, C, h1, h2, fun j kid hj => by
    obtain ⟨b, off, cs', h4, h5, h6, h7⟩ := h3 j kid hj
    exact ⟨b, off, cs', h4, hT b h5, range_same (hs b h5) h6, h7.loc hs hT⟩⟩
def Res.tree (S : Nat → Prop) (h : Nat) (cs : List Value) (c : Cnd) : Res := ⟨S, fun w => TreeIn S w h cs c, fun _ _ hb hp => hp.loc hb (fun _ h => h)⟩
def Res.forest (S : Nat → Prop) (h : Nat) (rows : List (List Value)) (kids : List Cnd) : Res :=
  ⟨S, fun w => ∀ (j : Nat) (r : List Value) (kid : Cnd), rows[j]? = some r → kids[j]? = some kid → TreeIn S w h r kid, fun _ _ hb hp j r kid h1 h2 => (hp j r kid h1 h2).loc hb (fun _ h => h)⟩
theorem condShape {w : World} : ∀ {h : Nat} {cs : List Value} {c : Cnd}, CondAt w h cs c → ∃ k t n v A m C, cs = [b8 k, b8 t, b8 n, b8 v, .slice A m C]
  | 0, _, _, h => h.elim
  | _ + 1, cs, .mk _ _ _ _ _, h => by obtain ⟨A, C, rfl, _⟩ := h; exact ⟨_, _, _, _, _, _, _, rfl⟩
/-- A tree more in the forest. -/
theorem Own.plant {w0 w : World} {row : Option Nat} {S T : Nat → Prop} {h : Nat} {cs : List Value} {c : Cnd} {rows : List (List Value)} {kids : List Cnd} {rs : List Res} (H : Own w0 row w (.tree T h cs c :: .forest S h rows kids :: rs)) (hk : kids[rows.length]? = some c) :
    Own w0 row w (.forest (fun b => T b ∨ S b) h (rows ++ [cs]) kids :: rs) := by
  have hT : TreeIn T w h cs c := H.pred 0 _ rfl
  have hS : ∀ (j : Nat) (r : List Value) (kid : Cnd), rows[j]? = some r → kids[j]? = some kid → TreeIn S w h r kid := H.pred 1 _ rfl
  refine H.fuse (.forest (fun b => T b ∨ S b) h (rows ++ [cs]) kids) (show ∀ (j : Nat) (r : List Value) (kid : Cnd), (rows ++ [cs])[j]? = some r → kids[j]? = some kid → TreeIn (fun b => T b ∨ S b) w h r kid from fun j r kid h1 h2 => ?_) (fun b hb => hb)
  rcases Nat.lt_or_ge j rows.length with hj | hj
  · rw [List.getElem?_append_left hj] at h1
    exact (hS j r kid h1 h2).loc (fun _ _ => rfl) (fun _ h => .inr h)
  · rw [List.getElem?_append_right hj] at h1
    obtain e : j - rows.length = 0 := by
      rcases Nat.eq_zero_or_pos (j - rows.length) with e | e
      · exact e
      · rw [List.getElem?_eq_none (by simp; omega)] at h1; cases h1
    rw [e] at h1
    obtain rfl : j = rows.length := by omega
    rw [hk] at h2
    cases h1; cases h2
    exact hT.loc (fun _ _ => rfl) (fun _ h => .inl h)
/-- A row of trees is a tree. -/
theorem Own.grown1 {w0 w : World} {row : Option Nat} {S : Nat → Prop} {h c : Nat} {e : TypeId} {A : Option Addr} {rows : List (List Value)} {kids : List Cnd} {rs : List Res} (k t n v : UInt8) (H : Own w0 row w (.forest S h rows kids :: .rws e 5 (.slice A rows.length c) rows :: rs)) (hl : rows.length = kids.length)
    (hr : ∀ r ∈ rows, r.length = 5) (hm : kids.length ≤ 9223372036854775807) :
    Own w0 row w (.tree (fun b => S b ∨ (Value.slice A rows.length c).ownBlock = some b) (h + 1) [b8 k, b8 t, b8 n, b8 v, .slice A rows.length c] (.mk k t n v kids) :: rs) := by
  have hS : ∀ (j : Nat) (r : List Value) (kid : Cnd), rows[j]? = some r → kids[j]? = some kid → TreeIn S w h r kid := H.pred 0 _ rfl
  refine H.fuse (.tree (fun b => S b ∨ (Value.slice A rows.length c).ownBlock = some b) (h + 1) [b8 k, b8 t, b8 n, b8 v, .slice A rows.length c] (.mk k t n v kids)) (show TreeIn (fun b => S b ∨ (Value.slice A rows.length c).ownBlock = some b) w (h + 1) [b8 k, b8 t, b8 n, b8 v, .slice A rows.length c] (.mk k t n v kids) from ⟨A, c, by rw [hl], hm, fun j kid hj => ?_⟩) (fun b hb => hb)
  have hjl : j < rows.length := by rw [hl]; exact (List.getElem?_eq_some_iff.1 hj).1
  obtain ⟨r, hrj⟩ : ∃ r, rows[j]? = some r := ⟨_, List.getElem?_eq_getElem hjl⟩
  obtain ⟨b, off, rfl, h2⟩ := H.rowsAt 1 rfl hr (by omega) j r hrj
  exact ⟨b, off, r, rfl, .inr rfl, h2, (hS j r kid hrj hj).loc (fun _ _ => rfl) (fun _ h => .inl h)⟩
/-- A condition's rows are not too long, h deep. -/
def Slim : Nat → Cnd → Prop
  | 0, _ => True
  | h + 1, .mk _ _ _ _ kids => kids.length ≤ 4398046510976 ∧ ∀ kid ∈ kids, Slim h kid
theorem nothing_any (x : Value) (w0 : World) : CallsF Tryd.prog (.func (.func 46) #[] #[]) [x] w0 fun e w' => e = .returned (.tuple #[]) ∧ Below w0.heap.size w0 w' := by
  have H := Own.start w0 none
  refine ⟨_, [], [], rfl, Tryd.call46, ?_⟩
  show Calls Tryd.prog 46 #[x] w0 _
  refine enterF Tryd.func46 rfl Tryd.ntmps46 rfl (fun a F => ?_)
  refine wp_skip ?_
  refine bEnd Tryd.results46 F ?_
  exact ⟨rfl, H.below⟩
set_option maxHeartbeats 4000000 in
theorem turn_any (h : Nat) : ∀ (cs : List Value) (c : Cnd) (w0 : World), CondAt w0 h cs c → Slim h c →
    Calls Tryd.prog 19 #[.agg cs.toArray, .func (.func 46) #[] #[]] w0 fun e w' => ∃ cs' S, e = .returned (.agg cs'.toArray) ∧ Own w0 none w' [.tree S h cs' c] := by
  induction h with
  | zero => intro cs c w0 hC; exact hC.elim
  | succ h ih =>
    intro cs c w0 hC hs
    obtain ⟨k, t, n, v, kids⟩ := c
    obtain ⟨A, C, rfl, hkl, hK⟩ := hC
    obtain ⟨hs1, hs2⟩ := hs
    have H := Own.start w0 none
    refine enterF Tryd.func19 rfl Tryd.ntmps19 rfl (fun a F => ?_)
    refine cSeq (fun K1 hK1 => ?_)
    refine cReg ?_
    refine sBx H F rfl rfl rfl ?_
    clear F a H; intro b2 a w F H
    refine sAl H Tryd.zeroValue27 F rfl rfl ?_
    clear F a H; intro b4 a w F H
    refine sNil ?_
    refine hK1 _ _ ?_; clear hK1
    refine cSeq (fun K2 hK2 => ?_)
    refine cReg ?_
    refine sAs F rfl rfl rfl ?_;clear F a;intro a F
    replace H := H.nilRws 27 5
    refine sNil ?_
    refine hK2 _ _ ?_; clear hK2
    refine cSeq (fun K3 hK3 => ?_)
    refine cSeq (fun K4 hK4 => ?_)
    refine cReg ?_
    refine sFa (f := 4) (k := 4) Tryd.underlying27 rfl Tryd.sizeOf25 rfl rfl F rfl rfl rfl ?_;clear F a;intro a F
    refine sLd Tryd.isAgg25 F rfl rfl rfl (H.cell 2 rfl rfl) ?_;clear F a;intro a F
    refine sLen Tryd.underlying25 F rfl rfl rfl ?_;clear F a;intro a F
    refine sMv F rfl rfl rfl ?_;clear F a;intro a F
    refine sNil ?_
    refine hK4 _ _ ?_; clear hK4
    refine wp_block ?_
    refine cLoopR [1, 2, 4, 9, 10] (fun m ups w => ∃ (j : Nat) (A5 : Option Addr) (c5 : Nat) (S : Nat → Prop) (rows : List (List Value)), m = kids.length - j ∧ ups = [(5, .slice A5 rows.length c5), (11, .int .i64 ((j : Nat) : Int))] ∧ rows.length = j ∧ j ≤ kids.length ∧ (∀ r ∈ rows, r.length = 5) ∧ Own w0 none w [.forest S h rows kids, .rws 27 5 (.slice A5 rows.length c5) rows, .blk b4 [Go.Proofs.YtfcidfljidkcaaaDoor.b8 0, Go.Proofs.YtfcidfljidkcaaaDoor.b8 0, Go.Proofs.YtfcidfljidkcaaaDoor.b8 0, Go.Proofs.YtfcidfljidkcaaaDoor.b8 0, .slice none 0 0] 27, .blk b2 [Go.Proofs.YtfcidfljidkcaaaDoor.b8 k, Go.Proofs.YtfcidfljidkcaaaDoor.b8 t, Go.Proofs.YtfcidfljidkcaaaDoor.b8 n, Go.Proofs.YtfcidfljidkcaaaDoor.b8 v, .slice A kids.length C] 27]) F (kids.length) [(5, .slice none 0 0), (11, .int .i64 ((0 : Nat) : Int))] (by repeat (first | exact SubR.nil | (apply SubR.cons; · rfl))) ?_ ?_ ?_
    · exact ⟨0, none, 0, fun _ => False, [], rfl, rfl, rfl, Nat.zero_le _, (by simp), (H.sel [0, 1, 2] rfl rfl).void (.forest (fun _ => False) h [] kids) (fun j r kid h1 => by simp at h1) (fun _ hb => hb)⟩
    · repeat (first | exact trivial | refine Le.cons rfl ?_)
    clear F
    clear H
    intro m ups a w hI F
    obtain ⟨j, A5, c5, S, rows, rfl, rfl, hrj, hj, hr5, H⟩ := hI
    refine cSeq (fun K5 hK5 => ?_)
    refine cReg ?_
    refine sBin F rfl rfl rfl rfl bLss ?_;clear F a;intro a F
    refine sNil ?_
    refine hK5 _ _ ?_; clear hK5
    refine cSeq (fun K6 hK6 => ?_)
    refine cIf F rfl (fun h12 => ?_) (fun h12 => ?_)
    ·
     replace h12 := of_decide_eq_true h12
     have hjl : j < kids.length := by omega
     obtain ⟨kid, hx⟩ : ∃ x, kids[j]? = some x := ⟨_, List.getElem?_eq_getElem hjl⟩
     obtain ⟨b', off', cs', rfl, hR', hC'⟩ := hK j kid hx
     obtain ⟨k0, t0, n0, v0, A0, m0, C0, rfl⟩ := condShape hC'
     refine wp_skip ?_
     refine hK6 _ _ ?_; clear hK6
     refine cSeq (fun K7 hK7 => ?_)
     refine wp_block ?_
     refine cSeq (fun K8 hK8 => ?_)
     refine cReg ?_
     refine sIx Tryd.underlying25 Tryd.sizeOf27 F rfl rfl rfl rfl ?_ ?_
     focus (first | omega | decide | (simp; omega))
     clear F a; intro a F
     refine sLr Tryd.underlying27 rfl ?si F rfl rfl rfl (H.argR hR') ?_
     case si => exact info_size Tryd.sizeOf27
     clear F a; intro a F
     refine sAl H Tryd.zeroValue27 F rfl rfl ?_
     clear F a H; intro b7 a w F H
     refine sSr H 0 ?si F rfl rfl rfl ?s1 rfl rfl ?_
     case si => exact info_size Tryd.sizeOf27
     case s1 => first | rfl | (repeat (first | exact one_nil | (apply one_cons; · first | rfl | assumption | exact one_bif rfl rfl)))
     clear H; intro w H
     refine sNil ?_
     refine hK8 _ _ ?_; clear hK8
     refine cReg ?_
     refine sMv F rfl rfl rfl ?_;clear F a;intro a F
     refine sLr Tryd.underlying27 rfl ?si F rfl rfl rfl (H.whole 0 rfl) ?_
     case si => exact info_size Tryd.sizeOf27
     clear F a; intro a F
     refine sMv F rfl rfl rfl ?_;clear F a;intro a F
     refine sCall Tryd.call19 F rfl rfl rfl (ih _ kid _ (CondAt.grown H.grown rfl _ _ _ hC') (hs2 kid (List.mem_of_getElem? hx))) ?_
     rintro e w ⟨cs9, S9, rfl, H2⟩
     have hsh := condShape (H2.pred 0 _ rfl : TreeIn S9 _ h cs9 kid).at
     obtain ⟨k9, t9, n9, v9, A9, m9, C9, rfl⟩ := hsh
     replace H := H.join H2; clear H2
     refine ⟨_, rfl, ?_⟩
     clear F a; intro a F
     refine sBsA H Tryd.underlying25 Tryd.sizeOf27 Tryd.zeroValue27 rfl F rfl rfl rfl rfl rfl ?_
     clear F a H; intro b19 a w F H
     refine sApp1 (bytes := 32) H 4 Tryd.underlying25 Tryd.typeInfo27 rfl rfl rfl rfl rfl rfl F rfl rfl rfl rfl rfl (H.whole 0 rfl) rfl ?s1 ?s2 ?_
     case s1 => first | rfl | (repeat (first | exact one_nil | (apply one_cons; · first | rfl | assumption | exact one_bif rfl rfl)))
     case s2 => omega
     clear F a H; intro A20 c20 a w F H
     refine sAs F rfl rfl rfl ?_;clear F a;intro a F
     refine sNil ?_
     refine hK7 _ _ ?_; clear hK7
     refine cReg ?_
     refine sBin F rfl rfl rfl rfl (bAddN (j := 1) ?_) ?_
     focus omega
     clear F a; intro a F
     refine sMv F rfl rfl rfl ?_;clear F a;intro a F
     refine sNil ?_
     (refine ⟨_, ?_, _, ⟨j + 1, A20, c20, _, _, rfl, rfl, ?_, ?_, ?_, (H.sel [1, 3, 4, 5, 6] rfl rfl).plant (by rw [hrj]; exact hx)⟩, F.to (by repeat (first | exact trivial | refine Le.cons rfl ?_))⟩
      · omega
      · simp; omega
      · omega
      · intro r hr
        rcases List.mem_append.1 hr with h1 | h1
        · exact hr5 r h1
        · simp at h1; subst h1; rfl)
    replace h12 := of_decide_eq_false h12
    have hjl : rows.length = kids.length := by omega
    refine wp_exit ?_
    refine hK3 _ _ ?_; clear hK3
    refine cSeq (fun K9 hK9 => ?_)
    refine cReg ?_
    refine sMv F rfl rfl rfl ?_;clear F a;intro a F
    refine sFa (f := 4) (k := 4) Tryd.underlying27 rfl Tryd.sizeOf25 rfl rfl F rfl rfl rfl ?_;clear F a;intro a F
    refine sSt H 3 Tryd.sizeOf25 F rfl rfl rfl rfl rfl rfl ?_
    clear H; intro w H
    refine sNil ?_
    refine hK9 _ _ ?_; clear hK9
    refine cSeq (fun K10 hK10 => ?_)
    refine cReg ?_
    refine sMv F rfl rfl rfl ?_;clear F a;intro a F
    refine sCallV F rfl rfl rfl rfl (nothing_any _ _) ?_
    rintro e w ⟨rfl, hb⟩
    replace H := H.grow hb; clear hb
    refine ⟨_, rfl, ?_⟩
    clear F a; intro a F
    refine sNil ?_
    refine hK10 _ _ ?_; clear hK10
    refine cSeq (fun K11 hK11 => ?_)
    refine cReg ?_
    refine sLr Tryd.underlying27 rfl ?si F rfl rfl rfl (H.whole 3 rfl) ?_
    case si => exact info_size Tryd.sizeOf27
    clear F a; intro a F
    refine sSr H 2 ?si F rfl rfl rfl ?s1 rfl rfl ?_
    case si => exact info_size Tryd.sizeOf27
    case s1 => first | rfl | (repeat (first | exact one_nil | (apply one_cons; · first | rfl | assumption | exact one_bif rfl rfl)))
    clear H; intro w H
    refine sNil ?_
    refine hK11 _ _ ?_; clear hK11
    refine wp_ret ?_
    refine bRetC Tryd.results19 F rfl Tryd.underlying27 rfl H 2 rfl Tryd.sizeOf27 rfl ?_
    exact ⟨_, _, rfl, ((H.sel [0, 1] rfl rfl).grown1 k t n v hjl hr5 hkl)⟩
end Go.Proofs.YtfcidfljidkcaaaDoor
