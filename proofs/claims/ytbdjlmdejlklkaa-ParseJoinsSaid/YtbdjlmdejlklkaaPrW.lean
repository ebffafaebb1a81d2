/-
  WALK2. Package parse: the line thread. Conditions: the parser, its tokens, names and threads' headers lie in memory.
-/
import Derived.Test.YtbdjlmdejlklkaaPrV
set_option linter.unusedSimpArgs false
set_option linter.unusedVariables false
namespace Go.Proofs.Ytbdjlmdejlklkaa
open Go.RowKit
set_option maxRecDepth 100000
set_option maxHeartbeats 4000000 in
theorem pthread_any {W w0 : World} {rs : List Res} {c : PX} (hc : c.Ok) {A : Option Addr} {C bp : Nat} {S : Nat → Prop} {s : PS} {B : Option Addr} {D : Nat} (q : QL) {TA : Option Addr} {TC : Nat} {L I aq a1 a2 a3 a4 a5 qy : Value} {hrows : List (List Value)} (hrl : hrows.length = q.threads.length) (h4 : q.threads.length ≤ 4) (hp : s.pos ≤ 999000)
    (H : Own W none w0 (.blk bp (parC c A C s B D [.string q.name, L, I, .slice TA hrows.length TC, aq, a1, a2, a3, a4, a5, .int .i64 (q.wh : Int), qy]) 59 :: .held S A 3 (rowsT c.ts) :: .nms W c.fixed B D s.names :: .rws 38 1 (.slice TA hrows.length TC) hrows :: rs)) :
    Calls Try.prog 57 #[.pointer (some ⟨bp, 0, none⟩)] w0 fun e w' => Ans W rs (threadL c q s) (fun v t e w' => e = .returned (.tuple #[]) ∧ v = { q with threads := q.threads ++ [[]], wh := 3 } ∧ t = s.next ∧ ∃ TA TC, Own W none w' (.blk bp (parC c A C s.next B D [.string q.name, L, I, .slice TA (hrows ++ [[Value.slice none 0 0]]).length TC, aq, a1, a2, a3, a4, a5, .int .i64 (3 : Int), qy]) 59 :: .held S A 3 (rowsT c.ts) :: .nms W c.fixed B D s.names :: .rws 38 1 (.slice TA (hrows ++ [[Value.slice none 0 0]]).length TC) (hrows ++ [[Value.slice none 0 0]]) :: rs)) e w' := by
  refine enterF Try.func57 rfl Try.ntmps57 rfl (fun a F => ?_)
  refine cSeq (fun K1 hK1 => ?_)
  refine cReg ?_
  refine sMv F rfl rfl rfl ?_;clear F a;intro a F
  refine sMv F rfl rfl rfl ?_;clear F a;intro a F
  refine sNc F rfl rfl rfl ?_;clear F a;intro a F
  refine sFa (f := 4) (k := 15) Try.underlying59 rfl Try.sizeOf3 rfl rfl F rfl rfl rfl ?_;clear F a;intro a F
  refine sLd Try.isAgg3 F rfl rfl rfl (H.cell 0 rfl rfl) ?_;clear F a;intro a F
  refine sBin F rfl rfl rfl rfl bEql ?_;clear F a;intro a F
  refine sMv F rfl rfl rfl ?_;clear F a;intro a F
  refine F.split 8 rfl ?_ ?_ <;> (clear F; intro h8 F)
  ·
   replace h8 := beqT h8
   have hw : q.wh = 1 ∨ q.wh = 2 ∨ q.wh = 3 := .inl (by omega)
   refine sSk F rfl rfl ?_;clear F a;intro a F
   refine sSk F rfl rfl ?_;clear F a;intro a F
   refine sSk F rfl rfl ?_;clear F a;intro a F
   refine sSk F rfl rfl ?_;clear F a;intro a F
   refine sSk F rfl rfl ?_;clear F a;intro a F
   refine sPk F rfl rfl rfl rfl ?_;clear F a;intro a F
   refine sMv F rfl rfl rfl ?_;clear F a;intro a F
   refine sSk F rfl rfl ?_;clear F a;intro a F
   refine sSk F rfl rfl ?_;clear F a;intro a F
   refine sSk F rfl rfl ?_;clear F a;intro a F
   refine sSk F rfl rfl ?_;clear F a;intro a F
   refine sSk F rfl rfl ?_;clear F a;intro a F
   refine sPk F rfl rfl rfl rfl ?_;clear F a;intro a F
   refine sCallP Try.call60 F rfl rfl rfl (pneed_any _ hc (s := s) (by (try simp only [PS.next]); omega) H) ?_
   rintro e w hq9
   rcases hq9.cases with ⟨p9, e9, hn22, rfl, H⟩ | ⟨v22, t22, hr22, rfl, H⟩
   ·
    refine .inl ⟨_, rfl, ?_⟩
    exact And.intro F.nod (Ans.no (by obtain ⟨h1, rfl, rfl⟩ := need_no hn22; first | exact absurd h1 (by decide) | (have w3 : ¬ q.wh = 3 := (eq_nat (b := 3)).2.1 h1; unfold threadL; rw [if_neg (by omega)]; rfl)) H.tail.tail)
   obtain ⟨hk0, rfl⟩ := need_ok hr22; have hw : q.wh = 1 ∨ q.wh = 2 ∨ q.wh = 3 := by first | exact hw | exact .inr (.inr ((eq_nat (b := 3)).1.1 hk0))
   refine .inr ⟨_, rfl, ?_⟩
   clear F a; intro a F
   refine sNil ?_
   refine hK1 _ _ ?_; clear hK1
   refine cSeq (fun K2 hK2 => ?_)
   refine cSeq (fun K3 hK3 => ?_)
   refine cReg ?_
   refine sMv F rfl rfl rfl ?_;clear F a;intro a F
   refine sNc F rfl rfl rfl ?_;clear F a;intro a F
   refine sFa (f := 3) (k := 5) Try.underlying59 rfl Try.sizeOf33 rfl rfl F rfl rfl rfl ?_;clear F a;intro a F
   refine sFa (f := 3) (k := 8) Try.underlying33 rfl Try.sizeOf31 rfl rfl F rfl rfl rfl ?_;clear F a;intro a F
   refine sLd Try.isAgg31 F rfl rfl rfl (H.cell 0 rfl rfl) ?_;clear F a;intro a F
   refine sLen Try.underlying31 F rfl rfl rfl ?_;clear F a;intro a F
   refine sBin F rfl rfl rfl rfl bEql ?_;clear F a;intro a F
   refine sNil ?_
   refine hK3 _ _ ?_; clear hK3
   refine cIf F rfl (fun h29 => ?_) (fun h29 => ?_)
   ·
    replace h29 := beqT h29
    have hl4 : q.threads.length = 4 := by omega
    refine cReg ?_
    refine sMv F rfl rfl rfl ?_;clear F a;intro a F
    refine sNc F rfl rfl rfl ?_;clear F a;intro a F
    refine sFa (f := 0) (k := 0) Try.underlying59 rfl Try.sizeOf57 rfl rfl F rfl rfl rfl ?_;clear F a;intro a F
    refine sCall Try.call27 F rfl rfl rfl (pplace_any hc (by (try simp only [PS.next]); omega) H) ?_
    rintro e w ⟨rfl, H⟩
    refine ⟨_, rfl, ?_⟩
    clear F a; intro a F
    refine sCallP Try.call31 F rfl rfl rfl (fail_any _ 5 H) ?_
    rintro e w ⟨rfl, H⟩
    refine .inl ⟨_, rfl, ?_⟩
    exact And.intro F.nod (Ans.no (by unfold threadL; rw [if_pos hw, if_pos hl4]; rfl) H.tail.tail.tail.tail)
   replace h29 := beqF h29
   have hl4 : ¬ q.threads.length = 4 := by omega
   refine wp_skip ?_
   refine hK2 _ _ ?_; clear hK2
   refine cSeq (fun K4 hK4 => ?_)
   refine cReg ?_
   refine sMv F rfl rfl rfl ?_;clear F a;intro a F
   refine sNc F rfl rfl rfl ?_;clear F a;intro a F
   refine sFa (f := 0) (k := 0) Try.underlying59 rfl Try.sizeOf57 rfl rfl F rfl rfl rfl ?_;clear F a;intro a F
   refine sCall Try.call48 F rfl rfl rfl (pstep_any (s := s) hc (by (try simp only [PS.next]); omega) H) ?_
   rintro e w ⟨rfl, H⟩
   refine ⟨_, rfl, ?_⟩
   clear F a; intro a F
   refine sNil ?_
   refine hK4 _ _ ?_; clear hK4
   refine cSeq (fun K5 hK5 => ?_)
   refine cReg ?_
   refine sMv F rfl rfl rfl ?_;clear F a;intro a F
   refine sMv F rfl rfl rfl ?_;clear F a;intro a F
   refine sNc F rfl rfl rfl ?_;clear F a;intro a F
   refine sFa (f := 3) (k := 5) Try.underlying59 rfl Try.sizeOf33 rfl rfl F rfl rfl rfl ?_;clear F a;intro a F
   refine sFa (f := 3) (k := 8) Try.underlying33 rfl Try.sizeOf31 rfl rfl F rfl rfl rfl ?_;clear F a;intro a F
   refine sLd Try.isAgg31 F rfl rfl rfl (H.cell 0 rfl rfl) ?_;clear F a;intro a F
   refine sBs1 H Try.underlying31 Try.sizeOf38 Try.zeroValue38 rfl F rfl rfl rfl rfl ?_
   clear F a H; intro b45 a w F H
   refine sApp1 (bytes := 24) H 4 Try.underlying31 Try.typeInfo38 rfl rfl rfl rfl rfl rfl F rfl rfl rfl rfl rfl (H.whole 0 rfl) rfl ?s1 ?s2 ?_
   case s1 => first | rfl | (repeat (first | exact one_nil | (apply one_cons; · first | rfl | assumption | exact one_bif rfl rfl)))
   case s2 => omega
   clear F a H; intro A46 c46 a w F H
   refine sNc F rfl rfl rfl ?_;clear F a;intro a F
   refine sFa (f := 3) (k := 5) Try.underlying59 rfl Try.sizeOf33 rfl rfl F rfl rfl rfl ?_;clear F a;intro a F
   refine sFa (f := 3) (k := 8) Try.underlying33 rfl Try.sizeOf31 rfl rfl F rfl rfl rfl ?_;clear F a;intro a F
   refine sSt H 1 Try.sizeOf31 F rfl rfl rfl rfl rfl rfl ?_
   clear H; intro w H
   refine sNil ?_
   refine hK5 _ _ ?_; clear hK5
   refine cReg ?_
   refine sMv F rfl rfl rfl ?_;clear F a;intro a F
   refine sNc F rfl rfl rfl ?_;clear F a;intro a F
   refine sFa (f := 4) (k := 15) Try.underlying59 rfl Try.sizeOf3 rfl rfl F rfl rfl rfl ?_;clear F a;intro a F
   refine sSt H 1 Try.sizeOf3 F rfl rfl rfl rfl rfl rfl ?_
   clear H; intro w H
   refine sNil ?_
   first | refine bEnd Try.results57 F ?_ | (simp only [Exit.then, Exit.inBlock, if_true]; (repeat (first | rw [if_pos rfl] | rw [if_neg (by decide)])); refine bEnd Try.results57 F ?_)
   exact Ans.ok (v := { q with threads := q.threads ++ [[]], wh := 3 }) (by unfold threadL; rw [if_pos hw, if_neg hl4]) ⟨rfl, rfl, rfl, _, _, H.tail⟩
  replace h8 := beqF h8
  have w1 : ¬ q.wh = 1 := by omega
  refine sMv F rfl rfl rfl ?_;clear F a;intro a F
  refine sNc F rfl rfl rfl ?_;clear F a;intro a F
  refine sFa (f := 4) (k := 15) Try.underlying59 rfl Try.sizeOf3 rfl rfl F rfl rfl rfl ?_;clear F a;intro a F
  refine sLd Try.isAgg3 F rfl rfl rfl (H.cell 0 rfl rfl) ?_;clear F a;intro a F
  refine sBin F rfl rfl rfl rfl bEql ?_;clear F a;intro a F
  refine sPk F rfl rfl rfl rfl ?_;clear F a;intro a F
  refine sMv F rfl rfl rfl ?_;clear F a;intro a F
  refine F.split 15 rfl ?_ ?_ <;> (clear F; intro h15 F)
  ·
   replace h15 := beqT h15
   have hw : q.wh = 1 ∨ q.wh = 2 ∨ q.wh = 3 := .inr (.inl (by omega))
   refine sSk F rfl rfl ?_;clear F a;intro a F
   refine sSk F rfl rfl ?_;clear F a;intro a F
   refine sSk F rfl rfl ?_;clear F a;intro a F
   refine sSk F rfl rfl ?_;clear F a;intro a F
   refine sSk F rfl rfl ?_;clear F a;intro a F
   refine sPk F rfl rfl rfl rfl ?_;clear F a;intro a F
   refine sCallP Try.call60 F rfl rfl rfl (pneed_any _ hc (s := s) (by (try simp only [PS.next]); omega) H) ?_
   rintro e w hq9
   rcases hq9.cases with ⟨p9, e9, hn22, rfl, H⟩ | ⟨v22, t22, hr22, rfl, H⟩
   ·
    refine .inl ⟨_, rfl, ?_⟩
    exact And.intro F.nod (Ans.no (by obtain ⟨h1, rfl, rfl⟩ := need_no hn22; first | exact absurd h1 (by decide) | (have w3 : ¬ q.wh = 3 := (eq_nat (b := 3)).2.1 h1; unfold threadL; rw [if_neg (by omega)]; rfl)) H.tail.tail)
   obtain ⟨hk0, rfl⟩ := need_ok hr22; have hw : q.wh = 1 ∨ q.wh = 2 ∨ q.wh = 3 := by first | exact hw | exact .inr (.inr ((eq_nat (b := 3)).1.1 hk0))
   refine .inr ⟨_, rfl, ?_⟩
   clear F a; intro a F
   refine sNil ?_
   refine hK1 _ _ ?_; clear hK1
   refine cSeq (fun K6 hK6 => ?_)
   refine cSeq (fun K7 hK7 => ?_)
   refine cReg ?_
   refine sMv F rfl rfl rfl ?_;clear F a;intro a F
   refine sNc F rfl rfl rfl ?_;clear F a;intro a F
   refine sFa (f := 3) (k := 5) Try.underlying59 rfl Try.sizeOf33 rfl rfl F rfl rfl rfl ?_;clear F a;intro a F
   refine sFa (f := 3) (k := 8) Try.underlying33 rfl Try.sizeOf31 rfl rfl F rfl rfl rfl ?_;clear F a;intro a F
   refine sLd Try.isAgg31 F rfl rfl rfl (H.cell 0 rfl rfl) ?_;clear F a;intro a F
   refine sLen Try.underlying31 F rfl rfl rfl ?_;clear F a;intro a F
   refine sBin F rfl rfl rfl rfl bEql ?_;clear F a;intro a F
   refine sNil ?_
   refine hK7 _ _ ?_; clear hK7
   refine cIf F rfl (fun h29 => ?_) (fun h29 => ?_)
   ·
    replace h29 := beqT h29
    have hl4 : q.threads.length = 4 := by omega
    refine cReg ?_
    refine sMv F rfl rfl rfl ?_;clear F a;intro a F
    refine sNc F rfl rfl rfl ?_;clear F a;intro a F
    refine sFa (f := 0) (k := 0) Try.underlying59 rfl Try.sizeOf57 rfl rfl F rfl rfl rfl ?_;clear F a;intro a F
    refine sCall Try.call27 F rfl rfl rfl (pplace_any hc (by (try simp only [PS.next]); omega) H) ?_
    rintro e w ⟨rfl, H⟩
    refine ⟨_, rfl, ?_⟩
    clear F a; intro a F
    refine sCallP Try.call31 F rfl rfl rfl (fail_any _ 5 H) ?_
    rintro e w ⟨rfl, H⟩
    refine .inl ⟨_, rfl, ?_⟩
    exact And.intro F.nod (Ans.no (by unfold threadL; rw [if_pos hw, if_pos hl4]; rfl) H.tail.tail.tail.tail)
   replace h29 := beqF h29
   have hl4 : ¬ q.threads.length = 4 := by omega
   refine wp_skip ?_
   refine hK6 _ _ ?_; clear hK6
   refine cSeq (fun K8 hK8 => ?_)
   refine cReg ?_
   refine sMv F rfl rfl rfl ?_;clear F a;intro a F
   refine sNc F rfl rfl rfl ?_;clear F a;intro a F
   refine sFa (f := 0) (k := 0) Try.underlying59 rfl Try.sizeOf57 rfl rfl F rfl rfl rfl ?_;clear F a;intro a F
   refine sCall Try.call48 F rfl rfl rfl (pstep_any (s := s) hc (by (try simp only [PS.next]); omega) H) ?_
   rintro e w ⟨rfl, H⟩
   refine ⟨_, rfl, ?_⟩
   clear F a; intro a F
   refine sNil ?_
   refine hK8 _ _ ?_; clear hK8
   refine cSeq (fun K9 hK9 => ?_)
   refine cReg ?_
   refine sMv F rfl rfl rfl ?_;clear F a;intro a F
   refine sMv F rfl rfl rfl ?_;clear F a;intro a F
   refine sNc F rfl rfl rfl ?_;clear F a;intro a F
   refine sFa (f := 3) (k := 5) Try.underlying59 rfl Try.sizeOf33 rfl rfl F rfl rfl rfl ?_;clear F a;intro a F
   refine sFa (f := 3) (k := 8) Try.underlying33 rfl Try.sizeOf31 rfl rfl F rfl rfl rfl ?_;clear F a;intro a F
   refine sLd Try.isAgg31 F rfl rfl rfl (H.cell 0 rfl rfl) ?_;clear F a;intro a F
   refine sBs1 H Try.underlying31 Try.sizeOf38 Try.zeroValue38 rfl F rfl rfl rfl rfl ?_
   clear F a H; intro b45 a w F H
   refine sApp1 (bytes := 24) H 4 Try.underlying31 Try.typeInfo38 rfl rfl rfl rfl rfl rfl F rfl rfl rfl rfl rfl (H.whole 0 rfl) rfl ?s1 ?s2 ?_
   case s1 => first | rfl | (repeat (first | exact one_nil | (apply one_cons; · first | rfl | assumption | exact one_bif rfl rfl)))
   case s2 => omega
   clear F a H; intro A46 c46 a w F H
   refine sNc F rfl rfl rfl ?_;clear F a;intro a F
   refine sFa (f := 3) (k := 5) Try.underlying59 rfl Try.sizeOf33 rfl rfl F rfl rfl rfl ?_;clear F a;intro a F
   refine sFa (f := 3) (k := 8) Try.underlying33 rfl Try.sizeOf31 rfl rfl F rfl rfl rfl ?_;clear F a;intro a F
   refine sSt H 1 Try.sizeOf31 F rfl rfl rfl rfl rfl rfl ?_
   clear H; intro w H
   refine sNil ?_
   refine hK9 _ _ ?_; clear hK9
   refine cReg ?_
   refine sMv F rfl rfl rfl ?_;clear F a;intro a F
   refine sNc F rfl rfl rfl ?_;clear F a;intro a F
   refine sFa (f := 4) (k := 15) Try.underlying59 rfl Try.sizeOf3 rfl rfl F rfl rfl rfl ?_;clear F a;intro a F
   refine sSt H 1 Try.sizeOf3 F rfl rfl rfl rfl rfl rfl ?_
   clear H; intro w H
   refine sNil ?_
   first | refine bEnd Try.results57 F ?_ | (simp only [Exit.then, Exit.inBlock, if_true]; (repeat (first | rw [if_pos rfl] | rw [if_neg (by decide)])); refine bEnd Try.results57 F ?_)
   exact Ans.ok (v := { q with threads := q.threads ++ [[]], wh := 3 }) (by unfold threadL; rw [if_pos hw, if_neg hl4]) ⟨rfl, rfl, rfl, _, _, H.tail⟩
  replace h15 := beqF h15
  have w2 : ¬ q.wh = 2 := by omega
  refine sMv F rfl rfl rfl ?_;clear F a;intro a F
  refine sNc F rfl rfl rfl ?_;clear F a;intro a F
  refine sFa (f := 4) (k := 15) Try.underlying59 rfl Try.sizeOf3 rfl rfl F rfl rfl rfl ?_;clear F a;intro a F
  refine sLd Try.isAgg3 F rfl rfl rfl (H.cell 0 rfl rfl) ?_;clear F a;intro a F
  refine sBin F rfl rfl rfl rfl bEql ?_;clear F a;intro a F
  refine sPk F rfl rfl rfl rfl ?_;clear F a;intro a F
  refine sCallP Try.call60 F rfl rfl rfl (pneed_any _ hc (s := s) (by (try simp only [PS.next]); omega) H) ?_
  rintro e w hq9
  rcases hq9.cases with ⟨p9, e9, hn22, rfl, H⟩ | ⟨v22, t22, hr22, rfl, H⟩
  ·
   refine .inl ⟨_, rfl, ?_⟩
   exact And.intro F.nod (Ans.no (by obtain ⟨h1, rfl, rfl⟩ := need_no hn22; first | exact absurd h1 (by decide) | (have w3 : ¬ q.wh = 3 := (eq_nat (b := 3)).2.1 h1; unfold threadL; rw [if_neg (by omega)]; rfl)) H.tail.tail)
  obtain ⟨hk0, rfl⟩ := need_ok hr22; have hw : q.wh = 1 ∨ q.wh = 2 ∨ q.wh = 3 := by first | exact hw | exact .inr (.inr ((eq_nat (b := 3)).1.1 hk0))
  refine .inr ⟨_, rfl, ?_⟩
  clear F a; intro a F
  refine sNil ?_
  refine hK1 _ _ ?_; clear hK1
  refine cSeq (fun K10 hK10 => ?_)
  refine cSeq (fun K11 hK11 => ?_)
  refine cReg ?_
  refine sMv F rfl rfl rfl ?_;clear F a;intro a F
  refine sNc F rfl rfl rfl ?_;clear F a;intro a F
  refine sFa (f := 3) (k := 5) Try.underlying59 rfl Try.sizeOf33 rfl rfl F rfl rfl rfl ?_;clear F a;intro a F
  refine sFa (f := 3) (k := 8) Try.underlying33 rfl Try.sizeOf31 rfl rfl F rfl rfl rfl ?_;clear F a;intro a F
  refine sLd Try.isAgg31 F rfl rfl rfl (H.cell 0 rfl rfl) ?_;clear F a;intro a F
  refine sLen Try.underlying31 F rfl rfl rfl ?_;clear F a;intro a F
  refine sBin F rfl rfl rfl rfl bEql ?_;clear F a;intro a F
  refine sNil ?_
  refine hK11 _ _ ?_; clear hK11
  refine cIf F rfl (fun h29 => ?_) (fun h29 => ?_)
  ·
   replace h29 := beqT h29
   have hl4 : q.threads.length = 4 := by omega
   refine cReg ?_
   refine sMv F rfl rfl rfl ?_;clear F a;intro a F
   refine sNc F rfl rfl rfl ?_;clear F a;intro a F
   refine sFa (f := 0) (k := 0) Try.underlying59 rfl Try.sizeOf57 rfl rfl F rfl rfl rfl ?_;clear F a;intro a F
   refine sCall Try.call27 F rfl rfl rfl (pplace_any hc (by (try simp only [PS.next]); omega) H) ?_
   rintro e w ⟨rfl, H⟩
   refine ⟨_, rfl, ?_⟩
   clear F a; intro a F
   refine sCallP Try.call31 F rfl rfl rfl (fail_any _ 5 H) ?_
   rintro e w ⟨rfl, H⟩
   refine .inl ⟨_, rfl, ?_⟩
   exact And.intro F.nod (Ans.no (by unfold threadL; rw [if_pos hw, if_pos hl4]; rfl) H.tail.tail.tail.tail)
  replace h29 := beqF h29
  have hl4 : ¬ q.threads.length = 4 := by omega
  refine wp_skip ?_
  refine hK10 _ _ ?_; clear hK10
  refine cSeq (fun K12 hK12 => ?_)
  refine cReg ?_
  refine sMv F rfl rfl rfl ?_;clear F a;intro a F
  refine sNc F rfl rfl rfl ?_;clear F a;intro a F
  refine sFa (f := 0) (k := 0) Try.underlying59 rfl Try.sizeOf57 rfl rfl F rfl rfl rfl ?_;clear F a;intro a F
  refine sCall Try.call48 F rfl rfl rfl (pstep_any (s := s) hc (by (try simp only [PS.next]); omega) H) ?_
  rintro e w ⟨rfl, H⟩
  refine ⟨_, rfl, ?_⟩
  clear F a; intro a F
  refine sNil ?_
  refine hK12 _ _ ?_; clear hK12
  refine cSeq (fun K13 hK13 => ?_)
  refine cReg ?_
  refine sMv F rfl rfl rfl ?_;clear F a;intro a F
  refine sMv F rfl rfl rfl ?_;clear F a;intro a F
  refine sNc F rfl rfl rfl ?_;clear F a;intro a F
  refine sFa (f := 3) (k := 5) Try.underlying59 rfl Try.sizeOf33 rfl rfl F rfl rfl rfl ?_;clear F a;intro a F
  refine sFa (f := 3) (k := 8) Try.underlying33 rfl Try.sizeOf31 rfl rfl F rfl rfl rfl ?_;clear F a;intro a F
  refine sLd Try.isAgg31 F rfl rfl rfl (H.cell 0 rfl rfl) ?_;clear F a;intro a F
  refine sBs1 H Try.underlying31 Try.sizeOf38 Try.zeroValue38 rfl F rfl rfl rfl rfl ?_
  clear F a H; intro b45 a w F H
  refine sApp1 (bytes := 24) H 4 Try.underlying31 Try.typeInfo38 rfl rfl rfl rfl rfl rfl F rfl rfl rfl rfl rfl (H.whole 0 rfl) rfl ?s1 ?s2 ?_
  case s1 => first | rfl | (repeat (first | exact one_nil | (apply one_cons; · first | rfl | assumption | exact one_bif rfl rfl)))
  case s2 => omega
  clear F a H; intro A46 c46 a w F H
  refine sNc F rfl rfl rfl ?_;clear F a;intro a F
  refine sFa (f := 3) (k := 5) Try.underlying59 rfl Try.sizeOf33 rfl rfl F rfl rfl rfl ?_;clear F a;intro a F
  refine sFa (f := 3) (k := 8) Try.underlying33 rfl Try.sizeOf31 rfl rfl F rfl rfl rfl ?_;clear F a;intro a F
  refine sSt H 1 Try.sizeOf31 F rfl rfl rfl rfl rfl rfl ?_
  clear H; intro w H
  refine sNil ?_
  refine hK13 _ _ ?_; clear hK13
  refine cReg ?_
  refine sMv F rfl rfl rfl ?_;clear F a;intro a F
  refine sNc F rfl rfl rfl ?_;clear F a;intro a F
  refine sFa (f := 4) (k := 15) Try.underlying59 rfl Try.sizeOf3 rfl rfl F rfl rfl rfl ?_;clear F a;intro a F
  refine sSt H 1 Try.sizeOf3 F rfl rfl rfl rfl rfl rfl ?_
  clear H; intro w H
  refine sNil ?_
  first | refine bEnd Try.results57 F ?_ | (simp only [Exit.then, Exit.inBlock, if_true]; (repeat (first | rw [if_pos rfl] | rw [if_neg (by decide)])); refine bEnd Try.results57 F ?_)
  exact Ans.ok (v := { q with threads := q.threads ++ [[]], wh := 3 }) (by unfold threadL; rw [if_pos hw, if_neg hl4]) ⟨rfl, rfl, rfl, _, _, H.tail⟩
end Go.Proofs.Ytbdjlmdejlklkaa
