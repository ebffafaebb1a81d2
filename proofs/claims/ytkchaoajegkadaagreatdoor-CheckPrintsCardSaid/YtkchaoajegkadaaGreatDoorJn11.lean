/-
  WALK2. Package parse: the line thread. Conditions: the parser, its tokens, names and threads' headers lie in memory.
-/
import Derived.Test.YtkchaoajegkadaaGreatDoorJn10
import Derived.Test.YtkchaoajegkadaaGreatDoorVcL
import Derived.Test.YtkchaoajegkadaaGreatDoorJn5
set_option linter.unusedSimpArgs false
set_option linter.unusedVariables false
namespace Go.Proofs.YtkchaoajegkadaaGreatDoor
-- PrW
open Go.Proofs.Tryz
open Go.RowKit
set_option maxRecDepth 100000
set_option maxHeartbeats 4000000 in
theorem pthread_any {W w0:World} {rs:List Res} {c:PX} (hc:c.Ok) {A:Option Addr} {C bp:Nat} {S:Nat→Prop} {s:PS} {B:Option Addr} {D:Nat} (q:QL) {TA:Option Addr} {TC:Nat} {L I aq a1 a2 a3 a4 a5 qy:Value} {hrows:List (List Value)} (hrl:hrows.length=q.threads.length) (h4:q.threads.length≤4) (hp:s.pos≤999000)
   (H:Own W none w0 (.blk bp (parC c A C s B D [.string q.name,L,I,.slice TA hrows.length TC,aq,a1,a2,a3,a4,a5,.int .i64 (q.wh:Int),qy]) 66 :: .held S A 3 (rowsT c.ts) :: .nms W c.fixed B D s.names :: .rws 52 1 (.slice TA hrows.length TC) hrows :: rs)) :
   Calls Tryz.prog 98 #[.pointer (some ⟨bp,0,none⟩)] w0 fun e w'=>Ans W rs (threadL c q s) (fun v t e w'=>e = .returned (.tuple #[])∧v = { q with threads:=q.threads++[[]],wh:=3 }∧t=s.next∧∃ TA TC,Own W none w' (.blk bp (parC c A C s.next B D [.string q.name,L,I,.slice TA (hrows++[[Value.slice none 0 0]]).length TC,aq,a1,a2,a3,a4,a5,.int .i64 (3:Int),qy]) 66 :: .held S A 3 (rowsT c.ts) :: .nms W c.fixed B D s.names :: .rws 52 1 (.slice TA (hrows++[[Value.slice none 0 0]]).length TC) (hrows++[[Value.slice none 0 0]]) :: rs)) e w':=by
 refine enterF func98 rfl ntmps98 rfl (fun a F=>?_);refine cSR fun K1 hK1=>sMv F rfl rfl rfl (qMv rfl rfl rfl (qNc rfl rfl rfl (qFa (f:=4) (k:=15) underlying66 rfl sizeOf3 rfl rfl rfl rfl rfl (qLd isAgg3 rfl rfl rfl (H.cell 0 rfl rfl) (qBin rfl rfl rfl rfl bEql (qMv rfl rfl rfl ?_))))));clear F a;intro a F
 refine F.split 8 rfl ?_ ?_ <;> (clear F;intro h8 F)
 ·
  replace h8:=beqT h8
  have hw:q.wh=1∨q.wh=2∨q.wh=3:=.inl (by omega)
  refine sSk F rfl rfl (qSk rfl rfl (qSk rfl rfl (qSk rfl rfl (qSk rfl rfl (qPk rfl rfl rfl rfl (qMv rfl rfl rfl (qSk rfl rfl (qSk rfl rfl (qSk rfl rfl (qSk rfl rfl (qSk rfl rfl (qPk rfl rfl rfl rfl ?_))))))))))));clear F a;intro a F;refine sCallP call64 F rfl rfl rfl (pneed_any _ hc (s:=s) (by (try simp only [PS.next]);omega) H) ?_;rintro e w hq9
  rcases hq9.cases with ⟨p9,e9,hn22,rfl,H⟩ | ⟨v22,t22,hr22,rfl,H⟩
  ·
   refine .inl ⟨_,rfl,?_⟩
   exact And.intro F.nod (Ans.no (by obtain ⟨h1,rfl,rfl⟩:=need_no hn22;first | exact absurd h1 (by decide) | (have w3:¬ q.wh=3:=(eq_nat (b:=3)).2.1 h1;unfold threadL;rw [if_neg (by omega)];rfl)) H.tail.tail)
  obtain ⟨hk0,rfl⟩:=need_ok hr22;have hw:q.wh=1∨q.wh=2∨q.wh=3:=by first | exact hw | exact .inr (.inr ((eq_nat (b:=3)).1.1 hk0))
  refine .inr ⟨_,rfl,?_⟩
  clear F a;intro a F;refine nK hK1 ?_;clear hK1;refine cSeq (fun K2 hK2=>?_);refine cSR fun K3 hK3=>sMv F rfl rfl rfl (qNc rfl rfl rfl (qFa (f:=3) (k:=5) underlying66 rfl sizeOf29 rfl rfl rfl rfl rfl (qFa (f:=3) (k:=8) underlying29 rfl sizeOf24 rfl rfl rfl rfl rfl (qLd isAgg24 rfl rfl rfl (H.cell 0 rfl rfl) (qLen underlying24 rfl rfl rfl (qBin rfl rfl rfl rfl bEql (qNK hK3 ?_)))))));clear hK3;clear F a;intro a F
  refine cIf F rfl (fun h29=>?_) (fun h29=>?_)
  ·
   replace h29:=beqT h29
   have hl4:q.threads.length=4:=by omega
   refine cReg (sMv F rfl rfl rfl (qNc rfl rfl rfl (qFa (f:=0) (k:=0) underlying66 rfl sizeOf64 rfl rfl rfl rfl rfl ?_)));clear F a;intro a F;refine sCall call52 F rfl rfl rfl (pplace_any hc (by (try simp only [PS.next]);omega) H) ?_;rintro e w ⟨rfl,H⟩;refine ⟨_,rfl,?_⟩;clear F a;intro a F;refine sCallP call59 F rfl rfl rfl (fail_any _ 5 H) ?_;rintro e w ⟨rfl,H⟩
   refine .inl ⟨_,rfl,?_⟩
   exact And.intro F.nod (Ans.no (by unfold threadL;rw [if_pos hw,if_pos hl4];rfl) H.tail.tail.tail.tail)
  replace h29:=beqF h29
  have hl4:¬ q.threads.length=4:=by omega
  refine wp_skip (hK2 _ _ (cSR fun K4 hK4=>sMv F rfl rfl rfl (qNc rfl rfl rfl (qFa (f:=0) (k:=0) underlying66 rfl sizeOf64 rfl rfl rfl rfl rfl ?_))));clear hK2;clear F a;intro a F;refine sCall call102 F rfl rfl rfl (pstep_any (s:=s) hc (by (try simp only [PS.next]);omega) H) ?_;rintro e w ⟨rfl,H⟩;refine ⟨_,rfl,?_⟩;clear F a;intro a F;refine nK hK4 (cSR fun K5 hK5=>sMv F rfl rfl rfl (qMv rfl rfl rfl (qNc rfl rfl rfl (qFa (f:=3) (k:=5) underlying66 rfl sizeOf29 rfl rfl rfl rfl rfl (qFa (f:=3) (k:=8) underlying29 rfl sizeOf24 rfl rfl rfl rfl rfl (qLd isAgg24 rfl rfl rfl (H.cell 0 rfl rfl) ?_))))));clear hK4;clear F a;intro a F;refine sBs1 H underlying24 sizeOf52 zeroValue52 rfl F rfl rfl rfl rfl ?_;clear F a H;intro b45 a w F H
  refine sApp1 (bytes:=24) H 4 underlying24 typeInfo52 rfl rfl rfl rfl rfl rfl F rfl rfl rfl rfl rfl (H.whole 0 rfl) rfl ?s1 ?s2 ?_
  case s1=>first | rfl | (repeat (first | exact one_nil | (apply one_cons;· first | rfl | assumption | exact one_bif rfl rfl)))
  case s2=>omega
  clear F a H;intro A46 c46 a w F H;refine sNc F rfl rfl rfl (qFa (f:=3) (k:=5) underlying66 rfl sizeOf29 rfl rfl rfl rfl rfl (qFa (f:=3) (k:=8) underlying29 rfl sizeOf24 rfl rfl rfl rfl rfl ?_));clear F a;intro a F;refine sSt H 1 sizeOf24 F rfl rfl rfl rfl rfl rfl ?_;clear H;intro w H;refine nK hK5 (cReg (sMv F rfl rfl rfl (qNc rfl rfl rfl (qFa (f:=4) (k:=15) underlying66 rfl sizeOf3 rfl rfl rfl rfl rfl ?_))));clear hK5;clear F a;intro a F;refine sSt H 1 sizeOf3 F rfl rfl rfl rfl rfl rfl ?_;clear H;intro w H;refine sNil ?_
  first | refine bEnd results98 F ?_ | (simp only [Exit.then,Exit.inBlock,if_true];(repeat (first | rw [if_pos rfl] | rw [if_neg (by decide)]));refine bEnd results98 F ?_)
  exact Ans.ok (v:={ q with threads:=q.threads++[[]],wh:=3 }) (by unfold threadL;rw [if_pos hw,if_neg hl4]) ⟨rfl,rfl,rfl,_,_,H.tail⟩
 replace h8:=beqF h8
 have w1:¬ q.wh=1:=by omega
 refine sMv F rfl rfl rfl (qNc rfl rfl rfl (qFa (f:=4) (k:=15) underlying66 rfl sizeOf3 rfl rfl rfl rfl rfl (qLd isAgg3 rfl rfl rfl (H.cell 0 rfl rfl) (qBin rfl rfl rfl rfl bEql (qPk rfl rfl rfl rfl (qMv rfl rfl rfl ?_))))));clear F a;intro a F
 refine F.split 15 rfl ?_ ?_ <;> (clear F;intro h15 F)
 ·
  replace h15:=beqT h15
  have hw:q.wh=1∨q.wh=2∨q.wh=3:=.inr (.inl (by omega))
  refine sSk F rfl rfl (qSk rfl rfl (qSk rfl rfl (qSk rfl rfl (qSk rfl rfl (qPk rfl rfl rfl rfl ?_)))));clear F a;intro a F;refine sCallP call64 F rfl rfl rfl (pneed_any _ hc (s:=s) (by (try simp only [PS.next]);omega) H) ?_;rintro e w hq9
  rcases hq9.cases with ⟨p9,e9,hn22,rfl,H⟩ | ⟨v22,t22,hr22,rfl,H⟩
  ·
   refine .inl ⟨_,rfl,?_⟩
   exact And.intro F.nod (Ans.no (by obtain ⟨h1,rfl,rfl⟩:=need_no hn22;first | exact absurd h1 (by decide) | (have w3:¬ q.wh=3:=(eq_nat (b:=3)).2.1 h1;unfold threadL;rw [if_neg (by omega)];rfl)) H.tail.tail)
  obtain ⟨hk0,rfl⟩:=need_ok hr22;have hw:q.wh=1∨q.wh=2∨q.wh=3:=by first | exact hw | exact .inr (.inr ((eq_nat (b:=3)).1.1 hk0))
  refine .inr ⟨_,rfl,?_⟩
  clear F a;intro a F;refine nK hK1 ?_;clear hK1;refine cSeq (fun K6 hK6=>?_);refine cSR fun K7 hK7=>sMv F rfl rfl rfl (qNc rfl rfl rfl (qFa (f:=3) (k:=5) underlying66 rfl sizeOf29 rfl rfl rfl rfl rfl (qFa (f:=3) (k:=8) underlying29 rfl sizeOf24 rfl rfl rfl rfl rfl (qLd isAgg24 rfl rfl rfl (H.cell 0 rfl rfl) (qLen underlying24 rfl rfl rfl (qBin rfl rfl rfl rfl bEql (qNK hK7 ?_)))))));clear hK7;clear F a;intro a F
  refine cIf F rfl (fun h29=>?_) (fun h29=>?_)
  ·
   replace h29:=beqT h29
   have hl4:q.threads.length=4:=by omega
   refine cReg (sMv F rfl rfl rfl (qNc rfl rfl rfl (qFa (f:=0) (k:=0) underlying66 rfl sizeOf64 rfl rfl rfl rfl rfl ?_)));clear F a;intro a F;refine sCall call52 F rfl rfl rfl (pplace_any hc (by (try simp only [PS.next]);omega) H) ?_;rintro e w ⟨rfl,H⟩;refine ⟨_,rfl,?_⟩;clear F a;intro a F;refine sCallP call59 F rfl rfl rfl (fail_any _ 5 H) ?_;rintro e w ⟨rfl,H⟩
   refine .inl ⟨_,rfl,?_⟩
   exact And.intro F.nod (Ans.no (by unfold threadL;rw [if_pos hw,if_pos hl4];rfl) H.tail.tail.tail.tail)
  replace h29:=beqF h29
  have hl4:¬ q.threads.length=4:=by omega
  refine wp_skip (hK6 _ _ (cSR fun K8 hK8=>sMv F rfl rfl rfl (qNc rfl rfl rfl (qFa (f:=0) (k:=0) underlying66 rfl sizeOf64 rfl rfl rfl rfl rfl ?_))));clear hK6;clear F a;intro a F;refine sCall call102 F rfl rfl rfl (pstep_any (s:=s) hc (by (try simp only [PS.next]);omega) H) ?_;rintro e w ⟨rfl,H⟩;refine ⟨_,rfl,?_⟩;clear F a;intro a F;refine nK hK8 (cSR fun K9 hK9=>sMv F rfl rfl rfl (qMv rfl rfl rfl (qNc rfl rfl rfl (qFa (f:=3) (k:=5) underlying66 rfl sizeOf29 rfl rfl rfl rfl rfl (qFa (f:=3) (k:=8) underlying29 rfl sizeOf24 rfl rfl rfl rfl rfl (qLd isAgg24 rfl rfl rfl (H.cell 0 rfl rfl) ?_))))));clear hK8;clear F a;intro a F;refine sBs1 H underlying24 sizeOf52 zeroValue52 rfl F rfl rfl rfl rfl ?_;clear F a H;intro b45 a w F H
  refine sApp1 (bytes:=24) H 4 underlying24 typeInfo52 rfl rfl rfl rfl rfl rfl F rfl rfl rfl rfl rfl (H.whole 0 rfl) rfl ?s1 ?s2 ?_
  case s1=>first | rfl | (repeat (first | exact one_nil | (apply one_cons;· first | rfl | assumption | exact one_bif rfl rfl)))
  case s2=>omega
  clear F a H;intro A46 c46 a w F H;refine sNc F rfl rfl rfl (qFa (f:=3) (k:=5) underlying66 rfl sizeOf29 rfl rfl rfl rfl rfl (qFa (f:=3) (k:=8) underlying29 rfl sizeOf24 rfl rfl rfl rfl rfl ?_));clear F a;intro a F;refine sSt H 1 sizeOf24 F rfl rfl rfl rfl rfl rfl ?_;clear H;intro w H;refine nK hK9 (cReg (sMv F rfl rfl rfl (qNc rfl rfl rfl (qFa (f:=4) (k:=15) underlying66 rfl sizeOf3 rfl rfl rfl rfl rfl ?_))));clear hK9;clear F a;intro a F;refine sSt H 1 sizeOf3 F rfl rfl rfl rfl rfl rfl ?_;clear H;intro w H;refine sNil ?_
  first | refine bEnd results98 F ?_ | (simp only [Exit.then,Exit.inBlock,if_true];(repeat (first | rw [if_pos rfl] | rw [if_neg (by decide)]));refine bEnd results98 F ?_)
  exact Ans.ok (v:={ q with threads:=q.threads++[[]],wh:=3 }) (by unfold threadL;rw [if_pos hw,if_neg hl4]) ⟨rfl,rfl,rfl,_,_,H.tail⟩
 replace h15:=beqF h15
 have w2:¬ q.wh=2:=by omega
 refine sMv F rfl rfl rfl (qNc rfl rfl rfl (qFa (f:=4) (k:=15) underlying66 rfl sizeOf3 rfl rfl rfl rfl rfl (qLd isAgg3 rfl rfl rfl (H.cell 0 rfl rfl) (qBin rfl rfl rfl rfl bEql (qPk rfl rfl rfl rfl ?_)))));clear F a;intro a F;refine sCallP call64 F rfl rfl rfl (pneed_any _ hc (s:=s) (by (try simp only [PS.next]);omega) H) ?_;rintro e w hq9
 rcases hq9.cases with ⟨p9,e9,hn22,rfl,H⟩ | ⟨v22,t22,hr22,rfl,H⟩
 ·
  refine .inl ⟨_,rfl,?_⟩
  exact And.intro F.nod (Ans.no (by obtain ⟨h1,rfl,rfl⟩:=need_no hn22;first | exact absurd h1 (by decide) | (have w3:¬ q.wh=3:=(eq_nat (b:=3)).2.1 h1;unfold threadL;rw [if_neg (by omega)];rfl)) H.tail.tail)
 obtain ⟨hk0,rfl⟩:=need_ok hr22;have hw:q.wh=1∨q.wh=2∨q.wh=3:=by first | exact hw | exact .inr (.inr ((eq_nat (b:=3)).1.1 hk0))
 refine .inr ⟨_,rfl,?_⟩
 clear F a;intro a F;refine nK hK1 ?_;clear hK1;refine cSeq (fun K10 hK10=>?_);refine cSR fun K11 hK11=>sMv F rfl rfl rfl (qNc rfl rfl rfl (qFa (f:=3) (k:=5) underlying66 rfl sizeOf29 rfl rfl rfl rfl rfl (qFa (f:=3) (k:=8) underlying29 rfl sizeOf24 rfl rfl rfl rfl rfl (qLd isAgg24 rfl rfl rfl (H.cell 0 rfl rfl) (qLen underlying24 rfl rfl rfl (qBin rfl rfl rfl rfl bEql (qNK hK11 ?_)))))));clear hK11;clear F a;intro a F
 refine cIf F rfl (fun h29=>?_) (fun h29=>?_)
 ·
  replace h29:=beqT h29
  have hl4:q.threads.length=4:=by omega
  refine cReg (sMv F rfl rfl rfl (qNc rfl rfl rfl (qFa (f:=0) (k:=0) underlying66 rfl sizeOf64 rfl rfl rfl rfl rfl ?_)));clear F a;intro a F;refine sCall call52 F rfl rfl rfl (pplace_any hc (by (try simp only [PS.next]);omega) H) ?_;rintro e w ⟨rfl,H⟩;refine ⟨_,rfl,?_⟩;clear F a;intro a F;refine sCallP call59 F rfl rfl rfl (fail_any _ 5 H) ?_;rintro e w ⟨rfl,H⟩
  refine .inl ⟨_,rfl,?_⟩
  exact And.intro F.nod (Ans.no (by unfold threadL;rw [if_pos hw,if_pos hl4];rfl) H.tail.tail.tail.tail)
 replace h29:=beqF h29
 have hl4:¬ q.threads.length=4:=by omega
 refine wp_skip (hK10 _ _ (cSR fun K12 hK12=>sMv F rfl rfl rfl (qNc rfl rfl rfl (qFa (f:=0) (k:=0) underlying66 rfl sizeOf64 rfl rfl rfl rfl rfl ?_))));clear hK10;clear F a;intro a F;refine sCall call102 F rfl rfl rfl (pstep_any (s:=s) hc (by (try simp only [PS.next]);omega) H) ?_;rintro e w ⟨rfl,H⟩;refine ⟨_,rfl,?_⟩;clear F a;intro a F;refine nK hK12 (cSR fun K13 hK13=>sMv F rfl rfl rfl (qMv rfl rfl rfl (qNc rfl rfl rfl (qFa (f:=3) (k:=5) underlying66 rfl sizeOf29 rfl rfl rfl rfl rfl (qFa (f:=3) (k:=8) underlying29 rfl sizeOf24 rfl rfl rfl rfl rfl (qLd isAgg24 rfl rfl rfl (H.cell 0 rfl rfl) ?_))))));clear hK12;clear F a;intro a F;refine sBs1 H underlying24 sizeOf52 zeroValue52 rfl F rfl rfl rfl rfl ?_;clear F a H;intro b45 a w F H
 refine sApp1 (bytes:=24) H 4 underlying24 typeInfo52 rfl rfl rfl rfl rfl rfl F rfl rfl rfl rfl rfl (H.whole 0 rfl) rfl ?s1 ?s2 ?_
 case s1=>first | rfl | (repeat (first | exact one_nil | (apply one_cons;· first | rfl | assumption | exact one_bif rfl rfl)))
 case s2=>omega
 clear F a H;intro A46 c46 a w F H;refine sNc F rfl rfl rfl (qFa (f:=3) (k:=5) underlying66 rfl sizeOf29 rfl rfl rfl rfl rfl (qFa (f:=3) (k:=8) underlying29 rfl sizeOf24 rfl rfl rfl rfl rfl ?_));clear F a;intro a F;refine sSt H 1 sizeOf24 F rfl rfl rfl rfl rfl rfl ?_;clear H;intro w H;refine nK hK13 (cReg (sMv F rfl rfl rfl (qNc rfl rfl rfl (qFa (f:=4) (k:=15) underlying66 rfl sizeOf3 rfl rfl rfl rfl rfl ?_))));clear hK13;clear F a;intro a F;refine sSt H 1 sizeOf3 F rfl rfl rfl rfl rfl rfl ?_;clear H;intro w H;refine sNil ?_
 first | refine bEnd results98 F ?_ | (simp only [Exit.then,Exit.inBlock,if_true];(repeat (first | rw [if_pos rfl] | rw [if_neg (by decide)]));refine bEnd results98 F ?_)
 exact Ans.ok (v:={ q with threads:=q.threads++[[]],wh:=3 }) (by unfold threadL;rw [if_pos hw,if_neg hl4]) ⟨rfl,rfl,rfl,_,_,H.tail⟩
-- PrX
open Go.Proofs.Tryz
open Go.RowKit
set_option maxRecDepth 100000
def linesM:List (ByteArray × Value):=[(⟨#[116,101,115,116]⟩,.func (.func 96) #[] #[]),(⟨#[105,110,105,116]⟩,.func (.func 97) #[] #[]),(⟨#[116,104,114,101,97,100]⟩,.func (.func 98) #[] #[]),(⟨#[115,111,109,101]⟩,.func (.func 99) #[] #[]),(⟨#[110,111,110,101]⟩,.func (.func 99) #[] #[]),(⟨#[97,108,108]⟩,.func (.func 99) #[] #[])]
theorem plines_any {W w0:World} {rs:List Res} (H:Own W none w0 rs):Calls Tryz.prog 53 #[] w0 fun e w'=>∃ b,e = .returned (.map (some b))∧Own W none w' (.mpT b linesM :: rs):=by
 refine enterF func53 rfl ntmps53 rfl (fun a F=>?_);refine cSR fun K1 hK1=>sAs F rfl rfl rfl (qNK hK1 (qSR fun K2 hK2=>?_));clear hK1;clear F a;intro a F;refine sMkT H F rfl rfl ?_;clear F a H;intro b1 a w F H;refine sInsT H 0 underlying103 underlying9 F rfl rfl rfl rfl rfl (by kernel_rfl) ?_;clear H;intro w H;refine sInsT H 0 underlying103 underlying9 F rfl rfl rfl rfl rfl (by kernel_rfl) ?_;clear H;intro w H;refine sInsT H 0 underlying103 underlying9 F rfl rfl rfl rfl rfl (by kernel_rfl) ?_;clear H;intro w H;refine sInsT H 0 underlying103 underlying9 F rfl rfl rfl rfl rfl (by kernel_rfl) ?_;clear H;intro w H;refine sInsT H 0 underlying103 underlying9 F rfl rfl rfl rfl rfl (by kernel_rfl) ?_;clear H;intro w H;refine sInsT H 0 underlying103 underlying9 F rfl rfl rfl rfl rfl (by kernel_rfl) ?_;clear H;intro w H;refine sMv F rfl rfl rfl (qAs rfl rfl rfl (qNK hK2 ?_));clear hK2;clear F a;intro a F;refine wp_ret ?_;refine bRet results53 F rfl ?_
 exact ⟨_,rfl,H⟩
-- VcN
open Go.RowKit
section
variable {P:Program} {l:List Oper} {Q:Exit→Act→World→Prop} {N:Nat} {a:Act} {env:List (Nat × Value)} {rest:List Oper} {d:Tmp} {ty:TypeId} {pos:String} {af:Array Edge} {g:Option (Nat × Bool)}
 {w0 w:World} {row:Option Nat} {rs:List Res} {Kt:Act→World→Prop}
def winP (e:TypeId) (sz:Nat) (v:Value) (rows:List (List Value)) (w:World):Prop:=
 (∀ r ∈ rows,r.length=sz)∧((v = .slice none 0 0∧rows=[])∨∃ g off cap cur,v = .slice (some ⟨g,off,none⟩) rows.length cap∧w.heap[g]? = some (.cells cur e (0,0))∧rows.length≤cap∧cap≤maxLen∧off+cap * sz≤cur.size∧∀ (j:Nat) (u:Value),rows.flatten[j]? = some u→cur[off+j]? = some u)
theorem flat_len {sz:Nat}:∀ (q:List (List Value)),(∀ r ∈ q,r.length=sz)→q.flatten.length=q.length * sz
 | [],_=>by simp
 | r0 :: rest,hq=>by rw [List.flatten_cons,List.length_append,flat_len rest (fun r hm=>hq r (by simp [hm])),hq r0 (by simp),List.length_cons,Nat.add_mul];omega
theorem flat_at {sz:Nat}:∀ (rows:List (List Value)),(∀ r ∈ rows,r.length=sz)→∀ (j:Nat) (cs:List Value),rows[j]? = some cs→∀ (k:Nat) (v:Value),cs[k]? = some v→rows.flatten[j * sz+k]? = some v
 | [],_,j,cs,hj,_,_,_=>by simp at hj
 | r0 :: rest,hr,j,cs,hj,k,v,hk=>by
   have h0:r0.length=sz:=hr r0 (by simp)
   cases j with
   | zero=>
     simp at hj;subst hj
     have:k < r0.length:=(List.getElem?_eq_some_iff.1 hk).1
     rw [List.flatten_cons,List.getElem?_append_left (by omega)];simpa using hk
   | succ j=>
     rw [List.flatten_cons,List.getElem?_append_right (by rw [h0,Nat.add_mul];omega),h0]
     have e1:(j+1) * sz+k - sz=j * sz+k:=by rw [Nat.add_mul];omega
     rw [e1]
     exact flat_at rest (fun r hm=>hr r (by simp [hm])) j cs (by simpa using hj) k v hk
theorem flat_drop {sz:Nat} (rows:List (List Value)) (hr:∀ r ∈ rows,r.length=sz) (i:Nat) (hi:i≤rows.length):(rows.drop i).flatten=rows.flatten.drop (i * sz):=by
 have h1:rows.flatten=(rows.take i).flatten++(rows.drop i).flatten:=by rw [← List.flatten_append,List.take_append_drop]
 have h2:(rows.take i).flatten.length=i * sz:=by rw [flat_len _ (fun r hm=>hr r (List.mem_of_mem_take hm)),List.length_take];congr 1;omega
 rw [h1,← h2,List.drop_left]
theorem winP.nil (e:TypeId) (sz:Nat) (w:World):winP e sz (.slice none 0 0) [] w:=⟨by simp,.inl ⟨rfl,rfl⟩⟩
theorem winP.len {e:TypeId} {sz n c:Nat} {A:Option Addr} {rows:List (List Value)} (h:winP e sz (.slice A n c) rows w):n=rows.length∧n≤c∧c≤maxLen:=by
 rcases h.2 with ⟨h1,h2⟩ | ⟨g,off,cap,cur,h1,_,h3,h4,_⟩
 · cases h1;subst h2;exact ⟨rfl,Nat.le_refl _,Nat.zero_le _⟩
 · cases h1;exact ⟨rfl,h3,h4⟩
theorem winP.at {e:TypeId} {sz n c:Nat} {A:Option Addr} {rows:List (List Value)} (h:winP e sz (.slice A n c) rows w):RowsAt w A sz rows:=fun j cs hj=>by
 rcases h.2 with ⟨h1,h2⟩ | ⟨g,off,cap,cur,h1,h2,_,_,_,h6⟩
 · subst h2;simp at hj
 · cases h1
   refine ⟨g,off,rfl,fun k v hk=>?_⟩
   have h7:=h6 _ v (flat_at rows h.1 j cs hj k v hk)
   simp [World.cell?,h2,Nat.add_assoc,h7]
theorem winP.cells {e:TypeId} {sz n c:Nat} {A:Addr} {rows:List (List Value)} (h:winP e sz (.slice (some A) n c) rows w):∀ j u,rows.flatten[j]? = some u→w.cell? (A.add j)=some u:=fun j u hj=>by
 rcases h.2 with ⟨h1,_⟩ | ⟨g,off,cap,cur,h1,h2,_,_,_,h6⟩
 · cases h1
 · cases h1
   have h7:=h6 _ u hj
   rw [Addr.add_mid]
   simp [World.cell?,h2,h7]
theorem winP.from {e:TypeId} {sz n c i:Nat} {A:Option Addr} {rows:List (List Value)} (h:winP e sz (.slice A n c) rows w) (hi:i≤n):winP e sz (.slice (if c=i then A else A.map (·.add (i * sz))) (n - i) (c - i)) (rows.drop i) w:=by
 obtain ⟨hn,hc,hm⟩:=h.len
 refine ⟨fun r hr=>h.1 r (List.mem_of_mem_drop hr),?_⟩
 rcases h.2 with ⟨h1,h2⟩ | ⟨g,off,cap,cur,h1,h2,h3,h4,h5,h6⟩
 · cases h1;subst h2
   obtain rfl:i=0:=by omega
   exact .inl ⟨by simp,by simp⟩
 · cases h1
   by_cases hci:c=i
   · have:rows.drop i=[]:=List.drop_eq_nil_of_le (by omega)
     refine .inr ⟨g,off,0,cur,?_,h2,by rw [this];simp,Nat.zero_le _,by omega,fun j u hj=>by rw [this] at hj;simp at hj⟩
     rw [if_pos hci,this]
     simp only [List.length_nil]
     congr 1 <;> omega
   · refine .inr ⟨g,off+i * sz,c - i,cur,?_,h2,by rw [List.length_drop];omega,by omega,?_,fun j u hj=>?_⟩
     · rw [if_neg hci,List.length_drop]
       simp [Addr.add_mid]
     · have:i * sz+(c - i) * sz=c * sz:=by rw [← Nat.add_mul];congr 1;omega
       omega
     · rw [flat_drop rows h.1 i (by omega),List.getElem?_drop] at hj
       rw [Nat.add_assoc];exact h6 _ u hj
end
-- VcO
open Go.RowKit
section
variable {P:Program} {l:List Oper} {Q:Exit→Act→World→Prop} {N:Nat} {a:Act} {env:List (Nat × Value)} {rest:List Oper} {d:Tmp} {ty:TypeId} {pos:String} {af:Array Edge} {g:Option (Nat × Bool)}
 {w0 w:World} {row:Option Nat} {rs:List Res} {Kt:Act→World→Prop}
theorem Own.setRws (H:Own w0 row w rs) (i:Nat) {e:TypeId} {sz n c g k:Nat} {rows:List (List Value)} {r:List Value} {j:Nat} {u:Value} (hi:rs[i]? = some (.rws e sz (.slice (some ⟨g,0,.none⟩) n c) rows)) (hl:∀ r ∈ rows,r.length=sz) (hj:rows[j]? = some r) (hk:k < sz) :
   w.there g (j * sz+k) 1∧Own w0 row (w.setCell ⟨g,j * sz+k,.none⟩ u) (rs.set i (.rws e sz (.slice (some ⟨g,0,.none⟩) n c) (rows.set j (r.set k u)))):=by
 have h:=H.arr i hi
 have hjl:=(List.getElem?_eq_some_iff.1 hj).1
 have hflat:=flat_len rows hl
 have hrl:=hl r (List.mem_of_getElem? hj)
 have hjk:j * sz+k < rows.length * sz:=by
   have:=Nat.mul_le_mul_right sz (show j+1≤rows.length from hjl)
   rw [Nat.add_mul] at this
   omega
 have hset:∀ (rows:List (List Value)) (j:Nat),(∀ r ∈ rows,r.length=sz)→rows[j]? = some r→(rows.set j (r.set k u)).flatten=rows.flatten.set (j * sz+k) u:=by
   intro rows
   induction rows with
   | nil=>intro j _ h;simp at h
   | cons r0 rest ih=>
     intro j hl h
     have h0:r0.length=sz:=hl r0 (by simp)
     cases j with
     | zero=>
       simp at h;subst h
       simp only [List.set_cons_zero,List.flatten_cons,Nat.zero_mul,Nat.zero_add]
       rw [List.set_append_left _ _ (by omega)]
     | succ j=>
       simp only [List.set_cons_succ,List.flatten_cons]
       rw [ih j (fun r hm=>hl r (by simp [hm])) (by simpa using h),List.set_append_right _ _ (by rw [h0,Nat.add_mul];omega),h0]
       congr 2
       rw [Nat.add_mul];omega
 rcases h.2 with ⟨h1,_⟩ | ⟨g',cap,cur,h1,_,h2,h3,h4,h5,h6⟩
 · cases h1
 · have hg:g'=g:=by cases h1;rfl
   subst hg
   obtain ⟨rfl,rfl⟩:n=rows.length∧c=cap:=by cases h1;exact ⟨rfl,rfl⟩
   have hcs:rows.length * sz≤cur.size:=by rw [h5];exact Nat.mul_le_mul_right _ h3
   have hB:Blk w g' cur.toList e:=by unfold Blk;simpa using h2
   refine ⟨fun q hq=>?_,H.turn i hi _ (grown_setCell H.grown (H.foot i _ hi g' rfl).1 _ _) (by simp [World.setCell]) (fun b _ hb=>Below.heap_setCell w _ u b (fun e=>hb (by rw [e];rfl))) ?_ (fun b hb=>⟨.inl hb,by
     have:g'=b:=by simpa [Res.rws,Res.arr,Value.ownBlock] using hb
     subst this
     simpa [World.setCell] using (H.foot i _ hi g' rfl).2⟩)⟩
   · obtain rfl:q=0:=by omega
     have hc:=hB.cell (j * sz+k) (v:=cur.toList[j * sz+k]'(by simpa using (by omega:j * sz+k < cur.size))) (List.getElem?_eq_getElem _)
     exact ⟨by rw [Nat.add_zero,hc];rfl,by rw [Nat.add_zero];exact hB.frozen _⟩
   · have h7:=hB.set (j * sz+k) u
     show World.ownsRow _ 0 e sz _ (rows.set j (r.set k u)).length (rows.set j (r.set k u)).flatten
     rw [hset rows j hl hj,List.length_set]
     refine ⟨by rw [List.length_set,hflat],.inr ⟨g',c,(cur.toList.set (j * sz+k) u).toArray,rfl,Nat.zero_le _,h7,h3,h4,by simpa using h5,?_⟩⟩
     simp only
     rw [List.take_set,h6]
theorem store_there {t:TypeId} {x y:Operand} {b o:Nat} {v:Value} (hz:∀ w,(sizeOf t).run P w = .ok 1 w) (F:Has N a env)
   (hx:ev env x=some (.pointer (some ⟨b,o,none⟩))) (hy:ev env y=some v) (h1:v.oneCell'=true) (ht:w.there b o 1):(execOp a.eval ⟨none,.store t x y,ty,pos,af,g⟩).run P w = .ok .skip (w.setCell ⟨b,o,none⟩ v):=by
 simp only [execOp,F.eval hx,F.eval hy]
 obtain ⟨hc,hf⟩:=ht 0 (by omega)
 rw [Nat.add_zero] at hc hf
 have h2:v.cells = #[v]:=by cases v <;> simp_all [Value.oneCell',Value.cells]
 have h3:=run_storeCells_cells (P:=P) b o [v] 0 w (fun q hq=>by simp at hq;subst hq;simpa using hc) (fun q hq=>by simp at hq;subst hq;simpa using hf) (fun q hq=>by simp at hq;subst hq;exact h1)
 simp only [Nat.add_zero] at h3
 have h4:(storeCells ⟨b,o,none⟩ [v]).run P w = .ok () (w.setCell ⟨b,o,none⟩ v):=h3
 simp only [Instr.storeAt,Instr.sureAddr,storeVar,h2,Sem.run_bind,Sem.run_pure,Result.andThen_ok,hz,List.size_toArray,List.length_cons,List.length_nil,ne_eq,not_true_eq_false,↓reduceIte,Nat.zero_add,h4]
theorem oStW {t:TypeId} {x y:Operand} {e:TypeId} {sz n c gb k o:Nat} {rows:List (List Value)} {r:List Value} {j:Nat} {v:Value} (H:Own w0 row w rs) (i:Nat) (hz:∀ w,(sizeOf t).run P w = .ok 1 w) (F:Has N a env)
   (hx:ev env x=some (.pointer (some ⟨gb,o,none⟩))) (hy:ev env y=some v) (h1:v.oneCell'=true) (hi:rs[i]? = some (.rws e sz (.slice (some ⟨gb,0,none⟩) n c) rows)) (hl:∀ r ∈ rows,r.length=sz) (hj:rows[j]? = some r) (hk:k < sz) (ho:o=j * sz+k)
   (K:∀ w,Own w0 row w (rs.set i (.rws e sz (.slice (some ⟨gb,0,none⟩) n c) (rows.set j (r.set k v))))→Kt a w):(Oper.mk none (.store t x y) ty pos af g).wp P a w Kt Q:=by
 subst ho
 obtain ⟨h2,h3⟩:=H.setRws i (u:=v) hi hl hj hk
 exact oU rfl (w':=w.setCell ⟨gb,j * sz+k,none⟩ v) (store_there hz F hx hy h1 h2) (K _ h3)
end
-- PrY
open Go.RowKit
set_option maxRecDepth 100000
def insC (l:List Ins):List (List Value):=l.map Ins.cells
theorem insC_len {l:List Ins}:∀ r ∈ insC l,r.length=10:=by
 intro r hr
 obtain ⟨t,_,rfl⟩:=List.mem_map.1 hr
 rfl
theorem insC_snoc (l:List Ins) (v:Ins):insC l++[v.cells]=insC (l++[v]):=by simp [insC]
theorem insC_length (l:List Ins):(insC l).length=l.length:=by simp [insC]
def ThrIn (S:Nat→Prop) (w:World) (hr:List (List Value)) (ths:List (List Ins)):Prop:=
 ∀ (j:Nat) (l:List Ins),ths[j]? = some l→∃ A C,hr[j]? = some [.slice A l.length C]∧∀ (i:Nat) (cs:List Value),(insC l)[i]? = some cs→∃ b o,A=some ⟨b,o,none⟩∧S b∧w.rangeAt b (o+i * 10) cs
theorem ThrIn.loc {S T:Nat→Prop} {w w':World} {hr:List (List Value)} {ths:List (List Ins)} (hs:∀ b,S b→w'.heap[b]? = w.heap[b]?) (hT:∀ b,S b→T b) (h:ThrIn S w hr ths):ThrIn T w' hr ths:=fun j l hj=>by
 obtain ⟨A,C,h1,h2⟩:=h j l hj
 refine ⟨A,C,h1,fun i cs hi=>?_⟩
 obtain ⟨b,o,h3,h4,h5⟩:=h2 i cs hi
 exact ⟨b,o,h3,hT b h4,range_same (hs b h4) h5⟩
def Res.thrs (S:Nat→Prop) (hr:List (List Value)) (ths:List (List Ins)):Res:=⟨S,fun w=>ThrIn S w hr ths,fun _ _ hb hp=>hp.loc hb (fun _ h=>h)⟩
theorem Own.push {w0 w:World} {row:Option Nat} {e:TypeId} {S:Nat→Prop} {hr:List (List Value)} {ths:List (List Ins)} {A:Option Addr} {l:List Ins} {C:Nat} {rs:List Res} (H:Own w0 row w (.rws e 10 (.slice A l.length C) (insC l) :: .thrs S hr ths :: rs)) (hl:hr.length=ths.length) :
   Own w0 row w (.thrs (fun b=>(Value.slice A l.length C).ownBlock=some b∨S b) (hr++[[.slice A l.length C]]) (ths++[l]) :: rs):=by
 have hA:=H.rowsAt 0 rfl insC_len (by decide)
 have hT:ThrIn S w hr ths:=H.pred 1 _ rfl
 refine H.fuse (.thrs (fun b=>(Value.slice A l.length C).ownBlock=some b∨S b) (hr++[[.slice A l.length C]]) (ths++[l])) (show ThrIn _ w _ _ from fun j t hj=>?_) (fun b hb=>hb)
 rcases Nat.lt_or_ge j ths.length with hjl | hjl
 · rw [List.getElem?_append_left hjl] at hj
   obtain ⟨A',C',h1,h2⟩:=(hT.loc (T:=fun b=>(Value.slice A l.length C).ownBlock=some b∨S b) (fun _ _=>rfl) (fun _ h=>.inr h)) j t hj
   exact ⟨A',C',by rw [List.getElem?_append_left (by omega)];exact h1,h2⟩
 · rw [List.getElem?_append_right hjl] at hj
   obtain e:j - ths.length=0:=by
     rcases Nat.eq_zero_or_pos (j - ths.length) with e | e
     · exact e
     · rw [List.getElem?_eq_none (by simp;omega)] at hj;cases hj
   rw [e] at hj
   cases hj
   refine ⟨A,C,by rw [List.getElem?_append_right (by omega),show j - hr.length=0 by omega];rfl,fun i cs hi=>?_⟩
   obtain ⟨b,o,rfl,h3⟩:=hA i cs hi
   exact ⟨b,o,rfl,.inl rfl,h3⟩
theorem Own.rwsSome {w0 w:World} {row:Option Nat} {rs:List Res} (H:Own w0 row w rs) (i:Nat) {e:TypeId} {sz n C:Nat} {A:Option Addr} {rows:List (List Value)} (hi:rs[i]? = some (.rws e sz (.slice A n C) rows)) (hn:rows ≠ []):∃ g,A=some ⟨g,0,Option.none⟩:=by
 rcases (H.arr i hi).2 with ⟨_,h2⟩ | ⟨g,cap,cur,h1,_⟩
 · exact absurd (List.eq_nil_of_length_eq_zero h2) hn
 · cases h1;exact ⟨g,rfl⟩
theorem Own.rwsCell {w0 w:World} {row:Option Nat} {rs:List Res} (H:Own w0 row w rs) (i:Nat) {e:TypeId} {sz n c g j k:Nat} {rows:List (List Value)} {r:List Value} {v:Value} (hi:rs[i]? = some (.rws e sz (.slice (some ⟨g,0,.none⟩) n c) rows)) (hl:∀ r ∈ rows,r.length=sz) (hsz:0 < sz) (hj:rows[j]? = some r) (hk:r[k]? = some v):w.cell? ⟨g,j * sz+k,.none⟩=some v:=by
 obtain ⟨b,off,h1,h2⟩:=H.rowsAt i hi hl hsz j r hj
 cases h1
 simpa using h2 k v hk
theorem lastAdd_at (front:List (List Ins)) (last:List Ins) (x:Ins):lastAdd (front++[last]) x=front++[last++[x]]:=by
 unfold lastAdd
 rw [List.length_append,List.length_singleton,Nat.add_sub_cancel,List.take_left',List.getD_eq_getElem?_getD,List.getElem?_append_right (Nat.le_refl _),Nat.sub_self]
 · rfl
 · rfl
theorem last_at {front:List (List Ins)} {last:List Ins}:(front++[last]).getD ((front++[last]).length - 1) []=last:=by
 rw [List.length_append,List.length_singleton,Nat.add_sub_cancel,List.getD_eq_getElem?_getD,List.getElem?_append_right (Nat.le_refl _),Nat.sub_self]
 rfl
set_option maxHeartbeats 4000000 in
theorem padd_any {W w0:World} {rs:List Res} {c:PX} (hc:c.Ok) {A:Option Addr} {C bp:Nat} {S:Nat→Prop} {s:PS} {B:Option Addr} {D:Nat} (q:QL) {front:List (List Ins)} {last:List Ins} {frows hrows:List (List Value)} {TA LA:Option Addr} {TC LC:Nat} {L I aq a1 a2 a3 a4 a5 qy:Value} (hp:s.pos≤997000) (hnl:s.names.length≤c.lim)
   (hq:q.wh=3→q.threads=front++[last]∧hrows=frows++[[.slice LA last.length LC]]) (h4:hrows.length≤4) (hln:∀ r ∈ hrows,r.length=1) (h12:last.length≤12)
   (H:Own W none w0 (.blk bp (parC c A C s B D [.string q.name,L,I,.slice TA hrows.length TC,aq,a1,a2,a3,a4,a5,.int .i64 (q.wh:Int),qy]) 66 :: .held S A 3 (rowsT c.ts) :: .nms W c.fixed B D s.names :: .rws 52 1 (.slice TA hrows.length TC) hrows :: .rws 44 10 (.slice LA last.length LC) (insC last) :: rs)) :
   Calls Tryz.prog 55 #[.pointer (some ⟨bp,0,none⟩)] w0 fun e w'=>Ans W rs (addL c q s) (fun v t e w'=>e = .returned (.tuple #[])∧∃ x,v = { q with threads:=front++[last++[x]] }∧∃ B D LA LC,Own W none w' (.blk bp (parC c A C t B D [.string q.name,L,I,.slice TA hrows.length TC,aq,a1,a2,a3,a4,a5,.int .i64 (q.wh:Int),qy]) 66 :: .held S A 3 (rowsT c.ts) :: .nms W c.fixed B D t.names :: .rws 52 1 (.slice TA hrows.length TC) (frows++[[Value.slice LA (last++[x]).length LC]]) :: .rws 44 10 (.slice LA (last++[x]).length LC) (insC (last++[x])) :: rs)) e w':=by
 refine enterF Tryz.func55 rfl Tryz.ntmps55 rfl (fun a F=>?_);refine cSR fun K1 hK1=>sMv F rfl rfl rfl (qMv rfl rfl rfl (qNc rfl rfl rfl (qFa (f:=4) (k:=15) Tryz.underlying66 rfl Tryz.sizeOf3 rfl rfl rfl rfl rfl (qLd Tryz.isAgg3 rfl rfl rfl (H.cell 0 rfl rfl) (qBin rfl rfl rfl rfl bEql ?_)))));clear F a;intro a F;refine sCallP Tryz.call64 F rfl rfl rfl (pneed_any _ hc (s:=s) (by (try simp only [PS.next]);omega) H) ?_;rintro e w hq9
 rcases hq9.cases with ⟨p9,e9,hn11,rfl,H⟩ | ⟨v11,t11,hr11,rfl,H⟩
 ·
  refine .inl ⟨_,rfl,?_⟩
  exact And.intro F.nod (Ans.no (by obtain ⟨h1,rfl,rfl⟩:=need_no hn11;unfold addL;rw [if_neg ((eq_nat (b:=3)).2.1 h1)];rfl) H.tail.tail.tail)
 obtain ⟨hk0,rfl⟩:=need_ok hr11
 have hw:q.wh=3:=(eq_nat (b:=3)).1.1 hk0
 obtain ⟨hq1,hq2⟩:=hq hw
 obtain ⟨TB,rfl⟩:=H.rwsSome 3 rfl (by rw [hq2];simp)
 have hhl:hrows.length=frows.length+1:=by rw [hq2];simp
 have hat:hrows[hrows.length - 1]? = some [.slice LA last.length LC]:=by rw [hhl,Nat.add_sub_cancel,hq2,List.getElem?_append_right (Nat.le_refl _),Nat.sub_self];rfl
 have hset:∀ v:Value,hrows.set (hrows.length - 1) ([Value.slice LA last.length LC].set 0 v)=frows++[[v]]:=fun v=>by rw [hhl,Nat.add_sub_cancel,hq2,List.set_append_right _ _ (Nat.le_refl _),Nat.sub_self];rfl
 refine .inr ⟨_,rfl,?_⟩
 clear F a;intro a F;refine nK hK1 (cSR fun K2 hK2=>sMv F rfl rfl rfl ?_);clear hK1;clear F a;intro a F;refine sCall Tryz.call63 F rfl rfl rfl (pstart_any (s:=s) hc (by (try simp only [PS.next]);omega) H) ?_;rintro e w ⟨rfl,H⟩;refine ⟨_,rfl,?_⟩;clear F a;intro a F;refine sMv F rfl rfl rfl (qExt rfl rfl rfl rfl (qExt rfl rfl rfl rfl (qAs rfl rfl rfl (qAs rfl rfl rfl (qNK hK2 (qSR fun K3 hK3=>qMv rfl rfl rfl (qMv rfl rfl rfl ?_)))))));clear hK2;clear F a;intro a F;refine sCallP Tryz.call64 F rfl rfl rfl (pneed_any _ hc (s:=s) (by (try simp only [PS.next]);omega) H) ?_;rintro e w hq9
 rcases hq9.cases with ⟨p9,e9,hn19,rfl,H⟩ | ⟨v19,t19,hr19,rfl,H⟩
 ·
  refine .inl ⟨_,rfl,?_⟩
  exact And.intro F.nod (Ans.no (by obtain ⟨h1,rfl,rfl⟩:=need_no hn19;unfold addL;rw [if_pos hw,if_neg (by rw [h1];exact Bool.false_ne_true)];rfl) H.tail.tail.tail)
 obtain ⟨hmay,rfl⟩:=need_ok hr19
 refine .inr ⟨_,rfl,?_⟩
 clear F a;intro a F;refine nK hK3 ?_;clear hK3;refine cSeq (fun K4 hK4=>?_);refine cRegRO (by kernel_rfl) H ?_;replace H:=H.drew;refine eTF 0 rfl (by kernel_rfl) F rfl rfl rfl (fun w=>rMv F rfl) H qq0 (qT 1 rfl (by kernel_rfl) rfl rfl rfl rfl (fun a F w H=>rNc F rfl) H qq0 (qTF 2 rfl (by kernel_rfl) rfl rfl rfl (fun a F w=>rFa (f:=3) (k:=5) Tryz.underlying66 rfl Tryz.sizeOf29 rfl rfl F rfl) H qq0 (qTF 3 rfl (by kernel_rfl) rfl rfl rfl (fun a F w=>rFa (f:=3) (k:=8) Tryz.underlying29 rfl Tryz.sizeOf24 rfl rfl F rfl) H qq0 (qT 4 rfl (by kernel_rfl) rfl rfl rfl rfl (fun a F w H=>rLd Tryz.isAgg24 F rfl (H.cell 0 rfl rfl)) H qq0 (qTF 5 rfl (by kernel_rfl) rfl rfl rfl (fun a F w=>rMv F rfl) H qq0 (qT 6 rfl (by kernel_rfl) rfl rfl rfl rfl (fun a F w H=>rNc F rfl) H qq0 (qTF 7 rfl (by kernel_rfl) rfl rfl rfl (fun a F w=>rFa (f:=3) (k:=5) Tryz.underlying66 rfl Tryz.sizeOf29 rfl rfl F rfl) H qq0 (qTF 8 rfl (by kernel_rfl) rfl rfl rfl (fun a F w=>rFa (f:=3) (k:=8) Tryz.underlying29 rfl Tryz.sizeOf24 rfl rfl F rfl) H qq0 (qT 9 rfl (by kernel_rfl) rfl rfl rfl rfl (fun a F w H=>rLd Tryz.isAgg24 F rfl (H.cell 0 rfl rfl)) H qq0 (qT 10 rfl (by kernel_rfl) rfl rfl rfl rfl (fun a F w H=>rLen Tryz.underlying24 F rfl) H qq0 ?_))))))))));clear F a;intro a F
 refine eTakeF (k:=11) (i:=11) rfl (by kernel_rfl) F rfl rfl rfl (fun w=>rBin F rfl rfl (bSubN (j:=1) ?_ ?_)) H (fun _ _ _ h=>h) ?_
 focus omega
 focus omega
 clear F a;intro a F
 refine eTakeF (k:=12) (i:=12) rfl (by kernel_rfl) F rfl rfl rfl (fun w=>rIx Tryz.underlying24 Tryz.sizeOf52 F rfl rfl ?_) H (fun _ _ _ h=>h) ?_
 focus (first | omega | decide | (simp;omega))
 clear F a;intro a F;refine eTF 13 rfl (by kernel_rfl) F rfl rfl rfl (fun w=>rAs F rfl) H qq0 ?_;clear F a;intro a F;refine eNil (k:=14) (by kernel_rfl) ?_;refine hK4 _ _ ?_;clear hK4;refine cSeq (fun K5 hK5=>?_);refine cSR fun K6 hK6=>sMv F rfl rfl rfl (qNc rfl rfl rfl (qLd Tryz.isAgg52 rfl rfl rfl (by simpa using H.rwsCell 3 (k:=0) rfl hln (by decide) hat rfl) (qLen Tryz.underlying52 rfl rfl rfl (qBin rfl rfl rfl rfl bEql (qNK hK6 ?_)))));clear hK6;clear F a;intro a F
 refine cIf F rfl (fun h37=>?_) (fun h37=>?_)
 ·
  replace h37:=beqT h37
  have hl12:last.length=12:=by omega
  refine cReg (sMv F rfl rfl rfl (qNc rfl rfl rfl (qFa (f:=0) (k:=0) Tryz.underlying66 rfl Tryz.sizeOf64 rfl rfl rfl rfl rfl ?_)));clear F a;intro a F;refine sCall Tryz.call52 F rfl rfl rfl (pplace_any (s:=s) hc (by (try simp only [PS.next]);omega) H) ?_;rintro e w ⟨rfl,H⟩;refine ⟨_,rfl,?_⟩;clear F a;intro a F;refine sCallP Tryz.call59 F rfl rfl rfl (fail_any _ 5 H) ?_;rintro e w ⟨rfl,H⟩
  refine .inl ⟨_,rfl,?_⟩
  exact And.intro F.nod (Ans.no (by unfold addL;rw [if_pos hw,if_pos hmay,if_pos (by rw [hq1,last_at];exact hl12)];rfl) H.tail.tail.tail.tail.tail)
 replace h37:=beqF h37
 have hl12:¬ last.length=12:=by omega
 refine wp_skip (hK5 _ _ ?_);clear hK5;refine cRegR (by kernel_rfl) (fun w=>w.cell? ⟨TB,0+(hrows.length - 1) * 1,none⟩=some (.slice LA last.length LC)) ?_;replace H:=H.drew;refine eTF 0 rfl (by kernel_rfl) F rfl rfl rfl (fun w=>rMv F rfl) ((by simpa using H.rwsCell 3 (k:=0) rfl hln (by decide) hat rfl)) qq0 (qTF 1 rfl (by kernel_rfl) rfl rfl rfl (fun a F w=>rMv F rfl) ((by simpa using H.rwsCell 3 (k:=0) rfl hln (by decide) hat rfl)) qq0 (qT 2 rfl (by kernel_rfl) rfl rfl rfl rfl (fun a F w H=>rNc F rfl) ((by simpa using H.rwsCell 3 (k:=0) rfl hln (by decide) hat rfl)) qq0 (qT 3 rfl (by kernel_rfl) rfl rfl rfl rfl (fun a F w H=>rLd Tryz.isAgg52 F rfl H) ((by simpa using H.rwsCell 3 (k:=0) rfl hln (by decide) hat rfl)) qq0 (qTF 4 rfl (by kernel_rfl) rfl rfl rfl (fun a F w=>rMv F rfl) ((by simpa using H.rwsCell 3 (k:=0) rfl hln (by decide) hat rfl)) qq0 (qTF 5 rfl (by kernel_rfl) rfl rfl rfl (fun a F w=>rMv F rfl) ((by simpa using H.rwsCell 3 (k:=0) rfl hln (by decide) hat rfl)) qq0 ?_)))));clear F a;intro a F;refine eOne (k:=6) (i:=6) rfl (by kernel_rfl) F rfl (oCallVP F rfl rfl rfl (pins_any (startP c s.pos) (s:=s) hc (by (try simp only [PS.next]);omega) hnl H) ?_);rintro e w hq9
 rcases hq9.cases with ⟨p9,e9,hn49,rfl,H⟩ | ⟨v49,t49,hr49,rfl,B49,D49,H⟩
 ·
  refine .inl ⟨_,rfl,?_⟩
  exact And.intro F.nod (Ans.no (by unfold addL;rw [if_pos hw,if_pos hmay,if_neg (by rw [hq1,last_at];exact hl12),hn49];rfl) H.tail.tail)
 refine .inr ⟨_,rfl,?_⟩
 clear F a;intro a F;refine eKeep ((by simpa using H.rwsCell 3 (k:=0) rfl hln (by decide) hat rfl)) ?_;refine eOne (k:=7) (i:=7) rfl (by kernel_rfl) F rfl (oBsA H Tryz.underlying52 Tryz.sizeOf44 Tryz.zeroValue44 rfl F rfl rfl rfl rfl ?_);clear F a H;intro b50 a w F H;refine eKeep ((by simpa using H.rwsCell 4 (k:=0) rfl hln (by decide) hat rfl)) ?_
 refine eOne (k:=8) (i:=8) rfl (by kernel_rfl) F rfl (oApp1 (bytes:=10) H 5 Tryz.underlying52 Tryz.typeInfo44 rfl rfl rfl rfl rfl rfl F rfl rfl rfl rfl (H.whole 0 rfl) rfl ?s1 ?s2 ?_)
 case s1=>first | rfl | (repeat (first | exact one_nil | (apply one_cons;· first | rfl | assumption | exact one_bif rfl rfl)))
 case s2=>(rw [insC_length];omega)
 clear F a H;intro A51 c51 a w F H;refine ePartO (by kernel_rfl) H ?_;refine eT 9 rfl (by kernel_rfl) F rfl rfl rfl rfl (fun w H=>rNc F rfl) H qq0 ?_;clear F a;intro a F;refine eOne (k:=10) (i:=10) rfl (by kernel_rfl) F rfl (oStW H 4 Tryz.sizeOf52 F rfl rfl rfl rfl (hln) (hat) ((by decide:0 < 1)) ((by omega)) ?_);clear H;intro w H;rw [hset,insC_snoc,insC_length] at H;refine ePartO (by kernel_rfl) H ?_;refine eNil (k:=11) (by kernel_rfl) ?_
 first | refine bEnd Tryz.results55 F ?_ | (simp only [Exit.then,Exit.inBlock,if_true];(repeat (first | rw [if_pos rfl] | rw [if_neg (by decide)]));refine bEnd Tryz.results55 F ?_)
 exact Ans.ok (v:={ q with threads:=front++[last++[v49]] }) (by unfold addL;rw [if_pos hw,if_pos hmay,if_neg (by rw [hq1,last_at];exact hl12),hr49];show Rs.ok { q with threads:=lastAdd q.threads v49 } t49=_;rw [hq1,lastAdd_at]) ⟨rfl,_,rfl,_,_,_,_,H.tail⟩
end Go.Proofs.YtkchaoajegkadaaGreatDoor
