/-
  WALK2. Package parse: conjunction, disjunction, factor. Conditions: the parser, its tokens and names lie in memory.
-/
import Derived.Test.YtbdjlmdejlklkaaPrL
set_option linter.unusedSimpArgs false
set_option linter.unusedVariables false
namespace Go.Proofs.Ytbdjlmdejlklkaa
open Go.RowKit
set_option maxRecDepth 100000
def factF : Value := .func (.func 63) #[] #[]
def conjF : Value := .func (.func 46) #[] #[]
theorem callsF_out {P : Program} {f : FuncId} {args : List Value} {w : World} {R : Ending → World → Prop} (h : CallsF P (.func (.func f) #[] #[]) args w R) : Calls P f args.toArray w R := by
  obtain ⟨f', fi, ca, he, _, h⟩ := h
  simp only [Value.func.injEq, Fn.func.injEq] at he
  obtain ⟨rfl, h1, h2⟩ := he
  obtain rfl : fi = [] := by cases fi with | nil => rfl | cons _ _ => simp at h1
  obtain rfl : ca = [] := by cases ca with | nil => rfl | cons _ _ => simp at h2
  simpa using h
/-- A condition without kids. -/
theorem own_leaf {w0 w : World} {row : Option Nat} {rs : List Res} (m : Nat) (k t n v : UInt8) (H : Own w0 row w rs) : Own w0 row w (.tree (fun _ => False) (m + 1) [b8 k, b8 t, b8 n, b8 v, .slice none 0 0] (.mk k t n v []) :: rs) :=
  H.void _ (show TreeIn (fun _ => False) w (m + 1) [b8 k, b8 t, b8 n, b8 v, .slice none 0 0] (.mk k t n v []) from ⟨none, 0, rfl, Nat.zero_le _, fun j kid h => by simp at h⟩) (fun _ hb => hb)
section
variable {c : PX}
theorem sevL_six {part : PS → Rs Cnd} {str : List UInt8} (hp : ∀ s, s.names.length ≤ c.lim → (part s).All fun _ t => t.names.length ≤ c.lim) : ∀ (f : Nat) (ks : List Cnd) (s : PS), s.names.length ≤ c.lim → (sevL c part str f ks s).All fun _ t => t.names.length ≤ c.lim
  | 0, ks, s, _ => .no
  | f + 1, ks, s, hn => by
    unfold sevL
    exact .ite (fun _ => (hp s.next hn).bind fun k t _ hk => sevL_six hp f _ t hk) (fun _ => .ok hn)
theorem sev_six {part : PS → Rs Cnd} {kind : UInt8} {str : List UInt8} (hp : ∀ s, s.names.length ≤ c.lim → (part s).All fun _ t => t.names.length ≤ c.lim) (s : PS) (hn : s.names.length ≤ c.lim) : (sevP c kind str part s).All fun _ t => t.names.length ≤ c.lim := by
  unfold sevP
  exact (hp s hn).bind fun k t _ hk => .ite (fun _ => (sevL_six hp _ _ _ hk).bind fun ks u _ hu => .ok hu) (fun _ => .ok hk)
theorem fact_six : ∀ (n : Nat) (s : PS), s.names.length ≤ c.lim → (factP c n s).All fun _ t => t.names.length ≤ c.lim
  | 0, s, _ => .no
  | n + 1, s, hn => by
    unfold factP
    refine .ite (fun h => (fact_six n s.next hn).bind fun k t _ hk => .ok hk) (fun _ => ?_)
    refine .ite (fun h => (sev_six (sev_six (fact_six n)) s.next hn).bind fun k t _ hk => signP_all.bind fun _ u _ hu => .ok (by rw [hu.2]; exact hk)) (fun _ => ?_)
    refine .ite (fun h => .ok hn) (fun _ => ?_)
    refine .ite (fun h => numQ_all.bind fun t s1 _ h1 => signP_all.bind fun _ s2 _ h2 => regQ_all.bind fun n s3 _ h3 => signP_all.bind fun _ s4 _ h4 => numQ_all.bind fun v s5 _ h5 => .ok (by rw [h5.2, h4.2, h3.2.1, h2.2, h1.2]; exact hn)) (fun _ => ?_)
    exact (loc_six hn).bind fun k s1 _ h1 => signP_all.bind fun _ s2 _ h2 => numQ_all.bind fun v s3 _ h3 => .ok (by rw [h3.2, h2.2]; exact h1.1)
theorem fact_go (n : Nat) : PartGo c (factP c n) := fun s hn v t h => ⟨(factP_all n s v t h).lt, (factP_all n s v t h).le, fact_six n s hn v t h⟩
theorem conj_go (n : Nat) : PartGo c (conjP c n) := fun s hn v t h => ⟨(conjP_all n s v t h).lt, (conjP_all n s v t h).le, sev_six (fact_six n) s hn v t h⟩
theorem disj_go (n : Nat) : PartGo c (disjP c n) := fun s hn v t h => ⟨(disjP_all n s v t h).lt, (disjP_all n s v t h).le, sev_six (sev_six (fact_six n)) s hn v t h⟩
end
theorem pconj_any {c : PX} (hc : c.Ok) {n : Nat} (hf : PartAt c factF (factP c n) (2 * n) n) {W w0 : World} {rs : List Res} {A : Option Addr} {C bp : Nat} {S : Nat → Prop} {s : PS} {B : Option Addr} {D : Nat} {X : List Value} (hp : s.pos ≤ c.ts.length) (hnl : s.names.length ≤ c.lim) (hn : c.ts.length < s.pos + n)
    (H : Own W none w0 (.blk bp (parC c A C s B D X) 59 :: .held S A 3 (rowsT c.ts) :: .nms W c.fixed B D s.names :: rs)) :
    Calls Try.prog 46 #[.pointer (some ⟨bp, 0, none⟩)] w0 fun e w' => Ans W rs (conjP c n s) (fun v t e w' => ∃ cs T, e = .returned (.agg cs.toArray) ∧ ∃ B D, Own W none w' (.tree T (2 * n + 1) cs v :: .blk bp (parC c A C t B D X) 59 :: .held S A 3 (rowsT c.ts) :: .nms W c.fixed B D t.names :: rs)) e w' := by
  refine enterF Try.func46 rfl Try.ntmps46 rfl (fun a F => ?_)
  refine cSeq (fun K1 hK1 => ?_)
  refine cReg ?_
  refine sAl H Try.zeroValue24 F rfl rfl ?_
  clear F a H; intro b2 a w F H
  refine sNil ?_
  refine hK1 _ _ ?_; clear hK1
  refine cSeq (fun K2 hK2 => ?_)
  refine cReg ?_
  refine sMv F rfl rfl rfl ?_;clear F a;intro a F
  refine sCallP Try.call45 F rfl rfl rfl (pseveral_any hc hf (fact_go n) 3 [38] hp hnl hn (H.selT 4 [1, 2, 3, 0] rfl rfl)) ?_
  rintro e w hq9
  rcases hq9.cases with ⟨p9, e9, hn4, rfl, H⟩ | ⟨v4, t4, hr4, cs4, T4, rfl, B4, D4, H⟩
  ·
   refine .inl ⟨_, rfl, ?_⟩
   exact And.intro F.nod (Ans.no (hn4) H.tail)
  obtain ⟨k0, t0, n0, v0, A0, m0, C0, rfl⟩ := condShape (H.pred 0 _ rfl : TreeIn T4 _ _ cs4 v4).at
  refine .inr ⟨_, rfl, ?_⟩
  clear F a; intro a F
  refine sSr H 4 ?si F rfl rfl rfl ?s1 rfl rfl ?_
  case si => exact info_size Try.sizeOf24
  case s1 => first | rfl | (repeat (first | exact one_nil | (apply one_cons; · first | rfl | assumption | exact one_bif rfl rfl)))
  clear H; intro w H
  refine sNil ?_
  refine hK2 _ _ ?_; clear hK2
  refine wp_ret ?_
  refine bRetC Try.results46 F rfl Try.underlying24 rfl H 4 rfl Try.sizeOf24 rfl ?_
  exact Ans.ok hr4 ⟨_, _, rfl, _, _, H.selT 5 [0, 1, 2, 3] rfl rfl⟩
theorem conj_at {c : PX} (hc : c.Ok) {n : Nat} (hf : PartAt c factF (factP c n) (2 * n) n) : PartAt c conjF (conjP c n) (2 * n + 1) n := fun {W w0 rs A C bp S} s {B D X} hp hnl hn H =>
  ⟨_, [], [], rfl, Try.call46, pconj_any hc hf hp hnl hn H⟩
theorem pdisj_any {c : PX} (hc : c.Ok) {n : Nat} (hf : PartAt c conjF (conjP c n) (2 * n + 1) n) {W w0 : World} {rs : List Res} {A : Option Addr} {C bp : Nat} {S : Nat → Prop} {s : PS} {B : Option Addr} {D : Nat} {X : List Value} (hp : s.pos ≤ c.ts.length) (hnl : s.names.length ≤ c.lim) (hn : c.ts.length < s.pos + n)
    (H : Own W none w0 (.blk bp (parC c A C s B D X) 59 :: .held S A 3 (rowsT c.ts) :: .nms W c.fixed B D s.names :: rs)) :
    Calls Try.prog 28 #[.pointer (some ⟨bp, 0, none⟩)] w0 fun e w' => Ans W rs (disjP c n s) (fun v t e w' => ∃ cs T, e = .returned (.agg cs.toArray) ∧ ∃ B D, Own W none w' (.tree T (2 * n + 2) cs v :: .blk bp (parC c A C t B D X) 59 :: .held S A 3 (rowsT c.ts) :: .nms W c.fixed B D t.names :: rs)) e w' := by
  refine enterF Try.func28 rfl Try.ntmps28 rfl (fun a F => ?_)
  refine cSeq (fun K1 hK1 => ?_)
  refine cReg ?_
  refine sAl H Try.zeroValue24 F rfl rfl ?_
  clear F a H; intro b2 a w F H
  refine sNil ?_
  refine hK1 _ _ ?_; clear hK1
  refine cSeq (fun K2 hK2 => ?_)
  refine cReg ?_
  refine sMv F rfl rfl rfl ?_;clear F a;intro a F
  refine sCallP Try.call45 F rfl rfl rfl (pseveral_any hc hf (conj_go n) 4 [124] hp hnl hn (H.selT 4 [1, 2, 3, 0] rfl rfl)) ?_
  rintro e w hq9
  rcases hq9.cases with ⟨p9, e9, hn4, rfl, H⟩ | ⟨v4, t4, hr4, cs4, T4, rfl, B4, D4, H⟩
  ·
   refine .inl ⟨_, rfl, ?_⟩
   exact And.intro F.nod (Ans.no (hn4) H.tail)
  obtain ⟨k0, t0, n0, v0, A0, m0, C0, rfl⟩ := condShape (H.pred 0 _ rfl : TreeIn T4 _ _ cs4 v4).at
  refine .inr ⟨_, rfl, ?_⟩
  clear F a; intro a F
  refine sSr H 4 ?si F rfl rfl rfl ?s1 rfl rfl ?_
  case si => exact info_size Try.sizeOf24
  case s1 => first | rfl | (repeat (first | exact one_nil | (apply one_cons; · first | rfl | assumption | exact one_bif rfl rfl)))
  clear H; intro w H
  refine sNil ?_
  refine hK2 _ _ ?_; clear hK2
  refine wp_ret ?_
  refine bRetC Try.results28 F rfl Try.underlying24 rfl H 4 rfl Try.sizeOf24 rfl ?_
  exact Ans.ok hr4 ⟨_, _, rfl, _, _, H.selT 5 [0, 1, 2, 3] rfl rfl⟩
end Go.Proofs.Ytbdjlmdejlklkaa
