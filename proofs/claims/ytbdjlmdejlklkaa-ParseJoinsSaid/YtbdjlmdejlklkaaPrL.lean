/-
  WALK2. Package parse: several. Conditions: the parser, its tokens and names lie in memory.
-/
import Derived.Test.YtbdjlmdejlklkaaPrH
import Derived.Test.YtbdjlmdejlklkaaPrI
import Derived.Test.YtbdjlmdejlklkaaPrJ
set_option linter.unusedSimpArgs false
set_option linter.unusedVariables false
namespace Go.Proofs.Ytbdjlmdejlklkaa
open Go.RowKit
set_option maxRecDepth 100000
/-- One struct in a slice of the function's own. -/
theorem own_oneRws {w0 w : World} {row : Option Nat} {rs : List Res} {b sz : Nat} {cs : List Value} {e : TypeId} (H : Own w0 row w (.blk b cs e :: rs)) (hl : cs.length = sz) : Own w0 row w (.rws e sz (.slice (some ⟨b, 0, none⟩) 1 1) [cs] :: rs) :=
  H.seen _ (show w.ownsRow 0 e sz (.slice (some ⟨b, 0, none⟩) 1 1) 1 ([cs] : List (List Value)).flatten from ⟨by simp [hl], .inr ⟨b, 1, cs.toArray, rfl, Nat.zero_le _, H.blk 0 rfl, Nat.le_refl _, by unfold maxLen; omega, by simp [hl], by simp [hl]; exact List.take_of_length_le (Nat.le_of_eq hl)⟩⟩) (fun c hc => by
    have h2 : (Value.slice (some ⟨b, 0, none⟩) 1 1).ownBlock = some c := hc
    cases h2; rfl)
theorem own_plant2 {w0 w : World} {row : Option Nat} {S T : Nat → Prop} {h : Nat} {cs : List Value} {c : Cnd} {rows : List (List Value)} {kids : List Cnd} {rs : List Res} (H : Own w0 row w (.tree T h cs c :: .forest S h rows kids :: rs)) (hl : rows.length = kids.length) :
    Own w0 row w (.forest (fun b => T b ∨ S b) h (rows ++ [cs]) (kids ++ [c]) :: rs) := by
  have hT : TreeIn T w h cs c := H.pred 0 _ rfl
  have hS : ∀ (j : Nat) (r : List Value) (kid : Cnd), rows[j]? = some r → kids[j]? = some kid → TreeIn S w h r kid := H.pred 1 _ rfl
  refine H.fuse (.forest (fun b => T b ∨ S b) h (rows ++ [cs]) (kids ++ [c])) (show ∀ (j : Nat) (r : List Value) (kid : Cnd), (rows ++ [cs])[j]? = some r → (kids ++ [c])[j]? = some kid → TreeIn (fun b => T b ∨ S b) w h r kid from fun j r kid h1 h2 => ?_) (fun b hb => hb)
  rcases Nat.lt_or_ge j rows.length with hj | hj
  · rw [List.getElem?_append_left hj] at h1
    rw [List.getElem?_append_left (by omega)] at h2
    exact (hS j r kid h1 h2).loc (fun _ _ => rfl) (fun _ h => .inr h)
  · rw [List.getElem?_append_right hj] at h1
    rw [List.getElem?_append_right (by omega)] at h2
    obtain e : j - rows.length = 0 := by
      rcases Nat.eq_zero_or_pos (j - rows.length) with e | e
      · exact e
      · rw [List.getElem?_eq_none (by simp; omega)] at h1; cases h1
    rw [e] at h1
    rw [show j - kids.length = 0 by omega] at h2
    cases h1; cases h2
    exact hT.loc (fun _ _ => rfl) (fun _ h => .inl h)
/-- What a function on conditions does, from states with fewer than n tokens to go. -/
def PartAt (c : PX) (f : Value) (part : PS → Rs Cnd) (h n : Nat) : Prop :=
  ∀ {W w0 : World} {rs : List Res} {A : Option Addr} {C bp : Nat} {S : Nat → Prop} (s : PS) {B : Option Addr} {D : Nat} {X : List Value}, s.pos ≤ c.ts.length → s.names.length ≤ c.lim → c.ts.length < s.pos + n →
    Own W none w0 (.blk bp (parC c A C s B D X) 59 :: .held S A 3 (rowsT c.ts) :: .nms W c.fixed B D s.names :: rs) →
    CallsF Try.prog f [.pointer (some ⟨bp, 0, none⟩)] w0 (fun e w' => Ans W rs (part s) (fun v t e w' => ∃ cs T, e = .returned (.agg cs.toArray) ∧ ∃ B D, Own W none w' (.tree T h cs v :: .blk bp (parC c A C t B D X) 59 :: .held S A 3 (rowsT c.ts) :: .nms W c.fixed B D t.names :: rs)) e w')
theorem sev_first {c : PX} {kind : UInt8} {str : List UInt8} {part : PS → Rs Cnd} {s t : PS} {v : Cnd} (h : part s = .ok v t) : sevP c kind str part s = if c.is t.pos str = true then (sevL c part str c.ts.length [v] t).bind fun ks u => .ok (.mk kind 0 0 0 ks) u else .ok v t := by unfold sevP; rw [h]; rfl
theorem sevL_more {c : PX} {str : List UInt8} {part : PS → Rs Cnd} {f : Nat} {ks : List Cnd} {s : PS} (h : c.is s.pos str = true) : sevL c part str (f + 1) ks s = (part s.next).bind fun k t => sevL c part str f (ks ++ [k]) t := by show (if c.is s.pos str = true then _ else _) = _; rw [if_pos h]
theorem sevL_done {c : PX} {str : List UInt8} {part : PS → Rs Cnd} {f : Nat} {ks : List Cnd} {s : PS} (h : c.is s.pos str = false) : sevL c part str (f + 1) ks s = .ok ks s := by show (if c.is s.pos str = true then _ else _) = _; rw [h]; rfl
/-- A part goes on, and keeps names few. -/
def PartGo (c : PX) (part : PS → Rs Cnd) : Prop := ∀ s, s.names.length ≤ c.lim → (part s).All fun _ t => s.pos < t.pos ∧ t.pos ≤ c.ts.length ∧ t.names.length ≤ c.lim
set_option maxHeartbeats 16000000 in
theorem pseveral_any {c : PX} (hc : c.Ok) {f : Value} {part : PS → Rs Cnd} {h n : Nat} (hpart : PartAt c f part h n) (hgo : PartGo c part) (kind : UInt8) (str : List UInt8) {W w0 : World} {rs : List Res} {A : Option Addr} {C bp : Nat} {S : Nat → Prop} {s : PS} {B : Option Addr} {D : Nat} {X : List Value} (hp : s.pos ≤ c.ts.length) (hnl : s.names.length ≤ c.lim) (hn : c.ts.length < s.pos + n)
    (H : Own W none w0 (.blk bp (parC c A C s B D X) 59 :: .held S A 3 (rowsT c.ts) :: .nms W c.fixed B D s.names :: rs)) :
    Calls Try.prog 45 #[.pointer (some ⟨bp, 0, none⟩), b8 kind, .string ⟨str.toArray⟩, f] w0 fun e w' => Ans W rs (sevP c kind str part s) (fun v t e w' => ∃ cs T, e = .returned (.agg cs.toArray) ∧ ∃ B D, Own W none w' (.tree T (h + 1) cs v :: .blk bp (parC c A C t B D X) 59 :: .held S A 3 (rowsT c.ts) :: .nms W c.fixed B D t.names :: rs)) e w' := by
  have hfew := hc.few
  refine enterF Try.func45 rfl Try.ntmps45 rfl (fun a F => ?_)
  refine cSeq (fun K1 hK1 => ?_)
  refine cReg ?_
  refine sAl H Try.zeroValue24 F rfl rfl ?_
  clear F a H; intro b8 a w F H
  refine sNil ?_
  refine hK1 _ _ ?_; clear hK1
  refine cSeq (fun K2 hK2 => ?_)
  refine cReg ?_
  refine sMv F rfl rfl rfl ?_;clear F a;intro a F
  refine sMv F rfl rfl rfl ?_;clear F a;intro a F
  refine sCallVP F rfl rfl rfl rfl (hpart s hp hnl hn (H.selT 4 [1, 2, 3, 0] rfl rfl)) ?_
  rintro e w hq9
  rcases hq9.cases with ⟨p9, e9, hn13, rfl, H⟩ | ⟨v13, t13, hr13, cs13, T13, rfl, B13, D13, H⟩
  ·
   refine .inl ⟨_, rfl, ?_⟩
   exact And.intro F.nod (Ans.no (by unfold sevP; rw [hn13]; rfl) H.tail)
  obtain ⟨g1, g2, g3⟩ := hgo s hnl v13 t13 hr13
  obtain ⟨k0, t0, n0, v0, A0, m0, C0, rfl⟩ := condShape (H.pred 0 _ rfl : TreeIn T13 _ h cs13 v13).at
  refine .inr ⟨_, rfl, ?_⟩
  clear F a; intro a F
  refine sAl H Try.zeroValue24 F rfl rfl ?_
  clear F a H; intro b9 a w F H
  refine sSr H 0 ?si F rfl rfl rfl ?s1 rfl rfl ?_
  case si => exact info_size Try.sizeOf24
  case s1 => first | rfl | (repeat (first | exact one_nil | (apply one_cons; · first | rfl | assumption | exact one_bif rfl rfl)))
  clear H; intro w H
  refine sNil ?_
  refine hK2 _ _ ?_; clear hK2
  refine cSeq (fun K3 hK3 => ?_)
  refine cSeq (fun K4 hK4 => ?_)
  refine cReg ?_
  refine sMv F rfl rfl rfl ?_;clear F a;intro a F
  refine sNc F rfl rfl rfl ?_;clear F a;intro a F
  refine sFa (f := 0) (k := 0) Try.underlying59 rfl Try.sizeOf57 rfl rfl F rfl rfl rfl ?_;clear F a;intro a F
  refine sMv F rfl rfl rfl ?_;clear F a;intro a F
  refine sCall Try.call62 F rfl rfl rfl (pis_any str hc (by omega) (H.selT 6 [2, 3, 4, 0, 1, 5] rfl rfl)) ?_
  rintro e w ⟨rfl, H⟩
  refine ⟨_, rfl, ?_⟩
  clear F a; intro a F
  refine sNot F rfl rfl rfl ?_;clear F a;intro a F
  refine sNil ?_
  refine hK4 _ _ ?_; clear hK4
  refine cIf F rfl (fun h19 => ?_) (fun h19 => ?_)
  ·
   replace h19 := notT h19
   have hk : c.is t13.pos str = false := by simpa using h19
   refine cSeq (fun K5 hK5 => ?_)
   refine cReg ?_
   refine sLr Try.underlying24 rfl ?si F rfl rfl rfl (H.whole 3 rfl) ?_
   case si => exact info_size Try.sizeOf24
   clear F a; intro a F
   refine sSr H 5 ?si F rfl rfl rfl ?s1 rfl rfl ?_
   case si => exact info_size Try.sizeOf24
   case s1 => first | rfl | (repeat (first | exact one_nil | (apply one_cons; · first | rfl | assumption | exact one_bif rfl rfl)))
   clear H; intro w H
   refine sNil ?_
   refine hK5 _ _ ?_; clear hK5
   refine wp_ret ?_
   simp only [Exit.then]
   refine bRetC Try.results45 F rfl Try.underlying24 rfl H 5 rfl Try.sizeOf24 rfl ?_
   first
   | exact Ans.ok (by rw [sev_first hr13, hk]; rfl) ⟨_, _, rfl, _, _, (H.selT 6 [4, 0, 1, 2] rfl rfl).deeper 1⟩
   | exact Ans.ok (by rw [sev_first hr13, if_pos hk, ← heq]; rfl) ⟨_, _, rfl, _, _, (H.selT 6 [0, 0, 0, 1, 2] rfl rfl).grown1 kind 0 0 0 hrl hr5 (by omega)⟩
  replace h19 := notF h19
  have hk : c.is t13.pos str = true := by simpa using h19
  refine wp_skip ?_
  refine hK3 _ _ ?_; clear hK3
  refine cSeq (fun K6 hK6 => ?_)
  refine cReg ?_
  refine sLr Try.underlying24 rfl ?si F rfl rfl rfl (H.whole 3 rfl) ?_
  case si => exact info_size Try.sizeOf24
  clear F a; intro a F
  refine sBsA H Try.underlying22 Try.sizeOf24 Try.zeroValue24 rfl F rfl rfl rfl rfl rfl ?_
  clear F a H; intro b22 a w F H
  refine sAs F rfl rfl rfl ?_;clear F a;intro a F
  refine sNil ?_
  refine hK6 _ _ ?_; clear hK6
  refine cSeq (fun K7 hK7 => ?_)
  refine wp_block ?_
  have H0 := H.selT 7 [0, 5, 1, 2, 3, 6] rfl rfl
  have H1 := ((own_oneRws H0 rfl).void (.forest (fun _ => False) h [] [v13]) (fun j r kid h1 => by simp at h1) (fun _ hb => hb))
  have H2 := (H1.selT 7 [2, 0, 1, 3, 4, 5, 6] rfl rfl).plant (by rfl)
  refine cLoopR [0, 1, 2, 3, 8] (fun m ups w => ∃ (g : Nat) (ks : List Cnd) (u : PS) (A10 : Option Addr) (c10 : Nat) (rows : List (List Value)) (S10 : Nat → Prop) (Bu : Option Addr) (Du : Nat), m = g ∧ ups = [(10, .slice A10 rows.length c10)] ∧ rows.length = ks.length ∧ (∀ r ∈ rows, r.length = 5) ∧ sevL c part str g ks u = sevL c part str c.ts.length [v13] t13 ∧ c.ts.length < u.pos + g ∧ s.pos < u.pos ∧ u.pos ≤ c.ts.length ∧ u.names.length ≤ c.lim ∧ ks.length ≤ u.pos ∧ Own W none w (.forest S10 h rows ks :: .rws 24 5 (.slice A10 rows.length c10) rows :: .blk bp (parC c A C u Bu Du X) 59 :: .held S A 3 (rowsT c.ts) :: .nms W c.fixed Bu Du u.names :: .blk b8 [Go.Proofs.Ytbdjlmdejlklkaa.b8 0, Go.Proofs.Ytbdjlmdejlklkaa.b8 0, Go.Proofs.Ytbdjlmdejlklkaa.b8 0, Go.Proofs.Ytbdjlmdejlklkaa.b8 0, .slice none 0 0] 24 :: rs)) F (c.ts.length) [(10, .slice (some ⟨b22, 0, none⟩) 1 1)] (by repeat (first | exact SubR.nil | (apply SubR.cons; · rfl))) ?_ ?_ ?_
  · exact ⟨c.ts.length, [v13], t13, _, _, [_], _, _, _, rfl, rfl, rfl, (by intro r hr; rw [List.mem_singleton.1 hr]; rfl), rfl, by omega, by omega, by omega, g3, by show 1 ≤ t13.pos; omega, H2⟩
  · repeat (first | exact trivial | refine Le.cons rfl ?_)
  clear F
  clear H H0 H1 H2
  intro m ups a w hI F
  obtain ⟨g, ks, u, A10, c10, rows, S10, Bu, Du, rfl, rfl, hrl, hr5, heq, hg, hsu, hul, hu6, hks, H⟩ := hI
  refine cSeq (fun K8 hK8 => ?_)
  refine cSeq (fun K9 hK9 => ?_)
  refine cReg ?_
  refine sMv F rfl rfl rfl ?_;clear F a;intro a F
  refine sNc F rfl rfl rfl ?_;clear F a;intro a F
  refine sFa (f := 0) (k := 0) Try.underlying59 rfl Try.sizeOf57 rfl rfl F rfl rfl rfl ?_;clear F a;intro a F
  refine sMv F rfl rfl rfl ?_;clear F a;intro a F
  refine sCall Try.call62 F rfl rfl rfl (pis_any str hc (by omega) (H.selT 6 [2, 3, 4, 0, 1, 5] rfl rfl)) ?_
  rintro e w ⟨rfl, H⟩
  refine ⟨_, rfl, ?_⟩
  clear F a; intro a F
  refine sNil ?_
  refine hK9 _ _ ?_; clear hK9
  refine cIf F rfl (fun h27 => ?_) (fun h27 => ?_)
  ·
   have hul2 : u.pos < c.ts.length := is_lt h27
   obtain ⟨g, rfl⟩ : ∃ q, m = q + 1 := ⟨m - 1, by omega⟩
   rw [sevL_more h27] at heq
   refine wp_skip ?_
   refine hK8 _ _ ?_; clear hK8
   refine wp_block ?_
   refine cSeq (fun K10 hK10 => ?_)
   refine cReg ?_
   refine sMv F rfl rfl rfl ?_;clear F a;intro a F
   refine sNc F rfl rfl rfl ?_;clear F a;intro a F
   refine sFa (f := 0) (k := 0) Try.underlying59 rfl Try.sizeOf57 rfl rfl F rfl rfl rfl ?_;clear F a;intro a F
   refine sCall Try.call48 F rfl rfl rfl (pstep_any hc (by omega) H) ?_
   rintro e w ⟨rfl, H⟩
   refine ⟨_, rfl, ?_⟩
   clear F a; intro a F
   refine sNil ?_
   refine hK10 _ _ ?_; clear hK10
   refine cReg ?_
   refine sMv F rfl rfl rfl ?_;clear F a;intro a F
   refine sMv F rfl rfl rfl ?_;clear F a;intro a F
   refine sMv F rfl rfl rfl ?_;clear F a;intro a F
   refine sCallVP F rfl rfl rfl rfl (hpart u.next hul2 hu6 (by show c.ts.length < u.pos + 1 + n; omega) H) ?_
   rintro e w hq9
   rcases hq9.cases with ⟨p9, e9, hn35, rfl, H⟩ | ⟨v35, t35, hr35, cs35, T35, rfl, B35, D35, H⟩
   ·
    refine .inl ⟨_, rfl, ?_⟩
    exact And.intro F.nod (Ans.no (by rw [sev_first hr13, if_pos hk, ← heq, hn35]; rfl) H.tail.tail.tail)
   obtain ⟨e1, e2, e3⟩ := hgo u.next hu6 v35 t35 hr35
   rw [hr35] at heq
   have e1 : u.pos + 1 < t35.pos := e1
   obtain ⟨k0, t0, n0, v0, A0, m0, C0, rfl⟩ := condShape (H.pred 0 _ rfl : TreeIn T35 _ h cs35 v35).at
   refine .inr ⟨_, rfl, ?_⟩
   clear F a; intro a F
   refine sBsA H Try.underlying22 Try.sizeOf24 Try.zeroValue24 rfl F rfl rfl rfl rfl rfl ?_
   clear F a H; intro b36 a w F H
   refine sApp1 (bytes := 32) H 6 Try.underlying22 Try.typeInfo24 rfl rfl rfl rfl rfl rfl F rfl rfl rfl rfl rfl (H.whole 0 rfl) rfl ?s1 ?s2 ?_
   case s1 => first | rfl | (repeat (first | exact one_nil | (apply one_cons; · first | rfl | assumption | exact one_bif rfl rfl)))
   case s2 => omega
   clear F a H; intro A37 c37 a w F H
   refine sAs F rfl rfl rfl ?_;clear F a;intro a F
   refine sNil ?_
   refine ⟨_, ?_, _, ⟨g, ks ++ [v35], t35, A37, c37, rows ++ [_], _, B35, D35, rfl, rfl, ?_, ?_, heq, ?_, ?_, e2, e3, ?_, own_plant2 (H.selT 8 [1, 5, 6, 2, 3, 4, 7] rfl rfl) hrl⟩, F.to (by repeat (first | exact trivial | refine Le.cons rfl ?_))⟩
   · omega
   · rw [List.length_append, List.length_append, hrl]; rfl
   · intro r hr
     rcases List.mem_append.1 hr with h1 | h1
     · exact hr5 r h1
     · rw [List.mem_singleton.1 h1]; rfl
   · omega
   · omega
   · rw [List.length_append, List.length_singleton]; omega
  obtain ⟨g, rfl⟩ : ∃ q, m = q + 1 := ⟨m - 1, by omega⟩
  rw [sevL_done h27] at heq
  refine wp_exit ?_
  refine hK7 _ _ ?_; clear hK7
  refine cSeq (fun K11 hK11 => ?_)
  refine cReg ?_
  refine sMv F rfl rfl rfl ?_;clear F a;intro a F
  refine sMv F rfl rfl rfl ?_;clear F a;intro a F
  refine sBd (places := [(0, 1), (1, 1), (2, 1), (3, 1), (4, 1)]) Try.zeroValue24 Try.underlying24 (by kernel_rfl) F rfl rfl rfl rfl ?_;clear F a;intro a F
  refine sSr H 5 ?si F rfl rfl rfl ?s1 rfl rfl ?_
  case si => exact info_size Try.sizeOf24
  case s1 => first | rfl | (repeat (first | exact one_nil | (apply one_cons; · first | rfl | assumption | exact one_bif rfl rfl)))
  clear H; intro w H
  refine sNil ?_
  refine hK11 _ _ ?_; clear hK11
  refine wp_ret ?_
  refine bRetC Try.results45 F rfl Try.underlying24 rfl H 5 rfl Try.sizeOf24 rfl ?_
  first
  | exact Ans.ok (by rw [sev_first hr13, hk]; rfl) ⟨_, _, rfl, _, _, (H.selT 6 [0, 0, 1, 2] rfl rfl).deeper 1⟩
  | exact Ans.ok (by rw [sev_first hr13, if_pos hk, ← heq]; rfl) ⟨_, _, rfl, _, _, (H.selT 6 [3, 4, 0, 1, 2] rfl rfl).grown1 kind 0 0 0 hrl hr5 (by omega)⟩
end Go.Proofs.Ytbdjlmdejlklkaa
