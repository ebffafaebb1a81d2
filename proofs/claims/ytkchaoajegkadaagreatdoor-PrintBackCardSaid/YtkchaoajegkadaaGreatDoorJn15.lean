/-
  WALK2. Package parse: the line init. Conditions: the parser, its tokens, names and values lie in memory.
-/
import Derived.Test.YtkchaoajegkadaaGreatDoorJn14
import Derived.Test.YtkchaoajegkadaaGreatDoorVcL
import Derived.Test.YtkchaoajegkadaaGreatDoorJn1
set_option linter.unusedSimpArgs false
set_option linter.unusedVariables false
namespace Go.Proofs.YtkchaoajegkadaaGreatDoor
-- PrV
open Go.Proofs.Tryz
open Go.RowKit
set_option maxRecDepth 100000
def iniC (l : List UInt8) : List (List Value) := l.map fun x => [b8 x]
theorem iniC_snoc (l : List UInt8) (v : UInt8) : iniC l ++ [[b8 v]] = iniC (l ++ [v]) := by simp [iniC]
theorem iniC_length (l : List UInt8) : (iniC l).length = l.length := by simp [iniC]
section
variable {c : PX} {f : Nat} {q : QL} {s : PS}
theorem init_twice {k : Nat} (h : idxOf (c.word s.pos) s.names 0 = some k) : initL c (f + 1) q s = failP c s 51 := by show (match idxOf (c.word s.pos) s.names 0 with | some _ => _ | none => _) = _; rw [h]
theorem init_one (h : idxOf (c.word s.pos) s.names 0 = none) : initL c (f + 1) q s = (locP c s).bind fun _ s1 => (signP c [61] s1).bind fun _ s2 => (numQ c s2).bind fun v s3 =>
      if c.kind s3.pos = 4 then .ok { q with init := q.init ++ [v], wh := 2 } s3 else initL c f { q with init := q.init ++ [v] } s3 := by show (match idxOf (c.word s.pos) s.names 0 with | some _ => _ | none => _) = _; rw [h]
end
set_option maxHeartbeats 16000000 in
theorem pinit_any {W w0 : World} {rs : List Res} {c : PX} (hc : c.Ok) (hm : c.ts.length ≤ 900000) {A : Option Addr} {C bp : Nat} {S : Nat → Prop} {s : PS} {B : Option Addr} {D : Nat} (q : QL) {IA : Option Addr} {IC : Nat} {L K aq a1 a2 a3 a4 a5 qy : Value} (hp : s.pos < c.ts.length) (hnl : s.names.length ≤ c.lim) (hil : q.init.length ≤ s.names.length)
    (H : Own W none w0 (.blk bp (parC c A C s B D [.string q.name, L, .slice IA q.init.length IC, K, aq, a1, a2, a3, a4, a5, .int .i64 (q.wh : Int), qy]) 66 :: .held S A 3 (rowsT c.ts) :: .nms W c.fixed B D s.names :: .rws 5 1 (.slice IA q.init.length IC) (iniC q.init) :: rs)) :
    Calls Tryz.prog 97 #[.pointer (some ⟨bp, 0, none⟩)] w0 fun e w' => Ans W rs (if q.wh = 1 then initL c (c.ts.length + 1) q s.next else failP c s 50) (fun v t e w' => e = .returned (.tuple #[]) ∧ v = { q with init := v.init, wh := v.wh } ∧ ∃ B D IA IC, Own W none w' (.blk bp (parC c A C t B D [.string q.name, L, .slice IA v.init.length IC, K, aq, a1, a2, a3, a4, a5, .int .i64 (v.wh : Int), qy]) 66 :: .held S A 3 (rowsT c.ts) :: .nms W c.fixed B D t.names :: .rws 5 1 (.slice IA v.init.length IC) (iniC v.init) :: rs)) e w' := by
  have hfew := hc.few
  have hlim := c.lim_le
  refine enterF func97 rfl ntmps97 rfl (fun a F => ?_);refine cSR fun K1 hK1=>sMv F rfl rfl rfl (qMv rfl rfl rfl (qNc rfl rfl rfl (qFa (f := 4) (k := 15) underlying66 rfl sizeOf3 rfl rfl rfl rfl rfl (qLd isAgg3 rfl rfl rfl (H.cell 0 rfl rfl) (qBin rfl rfl rfl rfl bEql ?_)))));clear F a;intro a F;refine sCallP call64 F rfl rfl rfl (pneed_any _ hc (s := s) (by (try simp only [PS.next]); omega) H) ?_;rintro e w hq9
  rcases hq9.cases with ⟨p9, e9, hn9, rfl, H⟩ | ⟨v9, t9, hr9, rfl, H⟩
  ·
   refine .inl ⟨_, rfl, ?_⟩
   exact And.intro F.nod (Ans.no (by obtain ⟨h1, rfl, rfl⟩ := need_no hn9; rw [if_neg ((eq_nat (b := 1)).2.1 h1)]; rfl) H.tail.tail)
  obtain ⟨hk0, rfl⟩ := need_ok hr9; have hw : q.wh = 1 := (eq_nat (b := 1)).1.1 hk0
  refine .inr ⟨_, rfl, ?_⟩
  clear F a; intro a F;refine nK hK1 (cSR fun K2 hK2=>sMv F rfl rfl rfl (qNc rfl rfl rfl (qFa (f := 0) (k := 0) underlying66 rfl sizeOf64 rfl rfl rfl rfl rfl ?_)));clear hK1;clear F a;intro a F;refine sCall call102 F rfl rfl rfl (pstep_any hc (by (try simp only [PS.next]); omega) H) ?_;rintro e w ⟨rfl, H⟩;refine ⟨_, rfl, ?_⟩;clear F a; intro a F;refine nK hK2 ?_;clear hK2;refine cSeq (fun K3 hK3 => ?_);refine cSR fun K4 hK4=>sAs F rfl rfl rfl (qNK hK4 ?_);clear hK4;clear F a;intro a F;refine wp_block ?_
  refine cLoopR [0] (fun m ups w => ∃ (g : Nat) (mo : Bool) (ini : List UInt8) (u : PS) (JA : Option Addr) (JC : Nat) (Bu : Option Addr) (Du : Nat), m = (bif mo then g + 1 else 0) ∧ ups = [(2, .bool mo)] ∧ (mo = true → initL c g { q with init := ini } u = initL c (c.ts.length + 1) q s.next ∧ c.ts.length < u.pos + g) ∧ (mo = false → initL c (c.ts.length + 1) q s.next = .ok { q with init := ini, wh := 2 } u) ∧ u.pos ≤ c.ts.length ∧ u.names.length ≤ c.lim ∧ ini.length ≤ u.pos + 1000 ∧ Own W none w (.blk bp (parC c A C u Bu Du [.string q.name, L, .slice JA ini.length JC, K, aq, a1, a2, a3, a4, a5, .int .i64 (q.wh : Int), qy]) 66 :: .held S A 3 (rowsT c.ts) :: .nms W c.fixed Bu Du u.names :: .rws 5 1 (.slice JA ini.length JC) (iniC ini) :: rs)) F (c.ts.length + 1 + 1) [(2, .bool true)] (by repeat (first | exact SubR.nil | (apply SubR.cons; · rfl))) ?_ ?_ ?_
  · exact ⟨c.ts.length + 1, true, q.init, s.next, IA, IC, B, D, rfl, rfl, (fun _ => ⟨rfl, by show c.ts.length < s.pos + 1 + (c.ts.length + 1); omega⟩), (fun e => by cases e), hp, hnl, by show q.init.length ≤ s.pos + 1 + 1000; omega, H⟩
  · repeat (first | exact trivial | refine Le.cons rfl ?_)
  clear F
  clear H
  intro m ups a w hI F
  obtain ⟨g, mo, ini, u, JA, JC, Bu, Du, rfl, rfl, hT, hF, hul, hu6, hil2, H⟩ := hI
  refine cSeq (fun K5 hK5 => ?_);refine cSR fun K6 hK6=>sMv F rfl rfl rfl (qNK hK6 ?_);clear hK6;clear F a;intro a F
  refine cIf F rfl (fun h14 => ?_) (fun h14 => ?_)
  ·
   obtain rfl : mo = true := h14
   obtain ⟨heq, hg⟩ := hT rfl
   obtain ⟨g, rfl⟩ : ∃ k, g = k + 1 := ⟨g - 1, by omega⟩
   refine wp_skip (hK5 _ _ ?_);clear hK5;refine cSeq (fun K7 hK7 => ?_);refine wp_block ?_;refine cSeq (fun K8 hK8 => ?_);refine cSeq (fun K9 hK9 => ?_);refine cRegRO (by kernel_rfl) H ?_;replace H := H.drew;refine eTF 0 rfl (by kernel_rfl) F rfl rfl rfl (fun w=>rMv F rfl) H qq0 (qT 1 rfl (by kernel_rfl) rfl rfl rfl rfl (fun a F w H=>rNc F rfl) H qq0 (qTF 2 rfl (by kernel_rfl) rfl rfl rfl (fun a F w=>rFa (f := 1) (k := 3) underlying66 rfl sizeOf22 rfl rfl F rfl) H qq0 (qT 3 rfl (by kernel_rfl) rfl rfl rfl rfl (fun a F w H=>rLd isAgg22 F rfl (H.cell 0 rfl rfl)) H qq0 (qTF 4 rfl (by kernel_rfl) rfl rfl rfl (fun a F w=>rMv F rfl) H qq0 (qT 5 rfl (by kernel_rfl) rfl rfl rfl rfl (fun a F w H=>rNc F rfl) H qq0 (qTF 6 rfl (by kernel_rfl) rfl rfl rfl (fun a F w=>rFa (f := 0) (k := 0) underlying66 rfl sizeOf64 rfl rfl F rfl) H qq0 ?_))))));clear F a;intro a F;refine eOne (k := 7) (i := 7) rfl (by kernel_rfl) F rfl (oCall call54 F rfl rfl (pword_any (s := u) hc (by (try simp only [PS.next]); omega) H) ?_);rintro e w ⟨rfl, H⟩;refine ⟨_, rfl, ?_⟩;clear F a; intro a F;refine eKeep H ?_;refine eOne (k := 8) (i := 8) rfl (by kernel_rfl) F rfl (oCall call128 F rfl rfl (contains_any Bu Du u.names (c.word u.pos) _ (nmsAt H 2 rfl) (by omega)) ?_);rintro e w ⟨rfl, hb⟩;replace H := H.grow hb; clear hb;refine ⟨_, rfl, ?_⟩;clear F a; intro a F;refine ePartO (by kernel_rfl) H ?_;refine eNil (k := 9) (by kernel_rfl) ?_;refine hK9 _ _ ?_;clear hK9
   refine cIf F rfl (fun h28 => ?_) (fun h28 => ?_)
   ·
    obtain ⟨kk, hix⟩ : ∃ k, idxOf (c.word u.pos) u.names 0 = some k := Option.isSome_iff_exists.1 h28
    refine cReg (sMv F rfl rfl rfl (qNc rfl rfl rfl (qFa (f := 0) (k := 0) underlying66 rfl sizeOf64 rfl rfl rfl rfl rfl ?_)));clear F a;intro a F;refine sCall call52 F rfl rfl rfl (pplace_any (s := u) hc (by (try simp only [PS.next]); omega) H) ?_;rintro e w ⟨rfl, H⟩;refine ⟨_, rfl, ?_⟩;clear F a; intro a F;refine sCallP call59 F rfl rfl rfl (fail_any _ 51 H) ?_;rintro e w ⟨rfl, H⟩
    refine .inl ⟨_, rfl, ?_⟩
    exact And.intro F.nod (Ans.no (by rw [if_pos hw, ← heq, init_twice hix]; rfl) H.tail.tail.tail.tail)
   have hix : idxOf (c.word u.pos) u.names 0 = none := by simpa using h28
   refine wp_skip (hK8 _ _ (cSR fun K10 hK10=>sMv F rfl rfl rfl (qMv rfl rfl rfl (qNc rfl rfl rfl (qFa (f := 1) (k := 3) underlying66 rfl sizeOf22 rfl rfl rfl rfl rfl (qLd isAgg22 rfl rfl rfl (H.cell 0 rfl rfl) ?_))))));clear hK8;clear F a;intro a F;refine sCallP call133 F rfl rfl rfl (ploc_any (s := u) hc (by (try simp only [PS.next]); omega) hu6 H) ?_;rintro e w hq9
   rcases hq9.cases with ⟨p9, e9, hn39, rfl, H⟩ | ⟨v39, t39, hr39, rfl, B39, D39, H⟩
   ·
    refine .inl ⟨_, rfl, ?_⟩
    exact And.intro F.nod (Ans.no (by rw [if_pos hw, ← heq, init_one hix, hn39]; rfl) H.tail)
   obtain ⟨hn6, hp39⟩ := loc_six hu6 v39 t39 hr39; have hlt : u.pos < c.ts.length := by have := (locP_all v39 t39 hr39).1.le; omega
   refine .inr ⟨_, rfl, ?_⟩
   clear F a; intro a F;refine nK hK10 (cSR fun K11 hK11=>sMv F rfl rfl rfl (qNc rfl rfl rfl (qFa (f := 0) (k := 0) underlying66 rfl sizeOf64 rfl rfl rfl rfl rfl ?_)));clear hK10;clear F a;intro a F;refine sCallP call134 F rfl rfl rfl (psign_any [61] hc (by (try simp only [PS.next]); omega) H) ?_;rintro e w hq9
   rcases hq9.cases with ⟨p9, e9, hn43, rfl, H⟩ | ⟨v43, t43, hr43, rfl, H⟩
   ·
    refine .inl ⟨_, rfl, ?_⟩
    exact And.intro F.nod (Ans.no (by rw [if_pos hw, ← heq, init_one hix, hr39]; show (signP c [61] t39).bind _ = _; rw [hn43]; rfl) H.tail.tail)
   obtain ⟨hg43, rfl⟩ := signP_all v43 t43 hr43; have hle43 := hg43.le
   refine .inr ⟨_, rfl, ?_⟩
   clear F a; intro a F;refine nK hK11 ?_;clear hK11;refine cRegR (by kernel_rfl) (fun w => ∃ cs, Blk w bp cs 66 ∧ cs[7]? = some (.slice JA ini.length JC)) ?_;replace H := H.drew;refine eTF 0 rfl (by kernel_rfl) F rfl rfl rfl (fun w=>rMv F rfl) (⟨_, H.blk 0 rfl, rfl⟩) qq0 (qTF 1 rfl (by kernel_rfl) rfl rfl rfl (fun a F w=>rMv F rfl) (⟨_, H.blk 0 rfl, rfl⟩) qq0 (qT 2 rfl (by kernel_rfl) rfl rfl rfl rfl (fun a F w H=>rNc F rfl) (⟨_, H.blk 0 rfl, rfl⟩) qq0 (qTF 3 rfl (by kernel_rfl) rfl rfl rfl (fun a F w=>rFa (f := 3) (k := 5) underlying66 rfl sizeOf29 rfl rfl F rfl) (⟨_, H.blk 0 rfl, rfl⟩) qq0 (qTF 4 rfl (by kernel_rfl) rfl rfl rfl (fun a F w=>rFa (f := 2) (k := 7) underlying29 rfl sizeOf23 rfl rfl F rfl) (⟨_, H.blk 0 rfl, rfl⟩) qq0 (qT 5 rfl (by kernel_rfl) rfl rfl rfl rfl (fun a F w H=>rLd isAgg23 F rfl (Exists.elim H fun cs h => h.1.cell 7 h.2)) (⟨_, H.blk 0 rfl, rfl⟩) qq0 (qTF 6 rfl (by kernel_rfl) rfl rfl rfl (fun a F w=>rMv F rfl) (⟨_, H.blk 0 rfl, rfl⟩) qq0 (qT 7 rfl (by kernel_rfl) rfl rfl rfl rfl (fun a F w H=>rNc F rfl) (⟨_, H.blk 0 rfl, rfl⟩) qq0 (qTF 8 rfl (by kernel_rfl) rfl rfl rfl (fun a F w=>rFa (f := 0) (k := 0) underlying66 rfl sizeOf64 rfl rfl F rfl) (⟨_, H.blk 0 rfl, rfl⟩) qq0 ?_))))))));clear F a;intro a F;refine eOne (k := 9) (i := 9) rfl (by kernel_rfl) F rfl (oCallP call135 F rfl rfl (pnum_any (s := t39.next) hc (by (try simp only [PS.next]); omega) H) ?_);rintro e w hq9
   rcases hq9.cases with ⟨p9, e9, hn53, rfl, H⟩ | ⟨v53, t53, hr53, rfl, H⟩
   ·
    refine .inl ⟨_, rfl, ?_⟩
    exact And.intro F.nod (Ans.no (by rw [if_pos hw, ← heq, init_one hix, hr39]; show (signP c [61] t39).bind _ = _; rw [hr43]; show (numQ c t39.next).bind _ = _; rw [hn53]; rfl) H.tail.tail)
   obtain ⟨hg53, rfl⟩ := numQ_all v53 t53 hr53; have hle53 := hg53.le
   refine .inr ⟨_, rfl, ?_⟩
   clear F a; intro a F;refine eKeep (⟨_, H.blk 0 rfl, rfl⟩) ?_;refine eOne (k := 10) (i := 10) rfl (by kernel_rfl) F rfl (oBs1 H underlying23 sizeOf5 zeroValue5 rfl F rfl rfl rfl ?_);clear F a H; intro b54 a w F H;refine eKeep (⟨_, H.blk 1 rfl, rfl⟩) ?_
   refine eOne (k := 11) (i := 11) rfl (by kernel_rfl) F rfl (oApp1 (bytes := 1) H 4 underlying23 typeInfo5 rfl rfl rfl rfl rfl rfl F rfl rfl rfl rfl (H.whole 0 rfl) rfl ?s1 ?s2 ?_)
   case s1 => first | rfl | (repeat (first | exact one_nil | (apply one_cons; · first | rfl | assumption | exact one_bif rfl rfl)))
   case s2 => (simp only [iniC, List.length_map]; omega)
   clear F a H; intro A55 c55 a w F H;refine ePartO (by kernel_rfl) H ?_;refine eT 12 rfl (by kernel_rfl) F rfl rfl rfl rfl (fun w H=>rNc F rfl) H qq0 (qTF 13 rfl (by kernel_rfl) rfl rfl rfl (fun a F w=>rFa (f := 3) (k := 5) underlying66 rfl sizeOf29 rfl rfl F rfl) H qq0 (qTF 14 rfl (by kernel_rfl) rfl rfl rfl (fun a F w=>rFa (f := 2) (k := 7) underlying29 rfl sizeOf23 rfl rfl F rfl) H qq0 ?_));clear F a;intro a F;refine eOne (k := 15) (i := 15) rfl (by kernel_rfl) F rfl (oSt H 1 sizeOf23 F rfl rfl rfl rfl rfl ?_);clear H; intro w H;refine ePartO (by kernel_rfl) H ?_;refine eNil (k := 16) (by kernel_rfl) ?_;rw [iniC_snoc, iniC_length] at H
   replace H : Own W none w (.blk bp (parC c A C t39.next.next B39 D39 [.string q.name, L, .slice A55 (ini ++ [v53]).length c55, K, aq, a1, a2, a3, a4, a5, .int .i64 (q.wh : Int), qy]) 66 :: .held S A 3 (rowsT c.ts) :: .nms W c.fixed B39 D39 t39.names :: .rws 5 1 (.slice A55 (ini ++ [v53]).length c55) (iniC (ini ++ [v53])) :: rs) := H.tail
   refine hK7 _ _ (cReg (sMv F rfl rfl rfl (qNc rfl rfl rfl (qFa (f := 0) (k := 0) underlying66 rfl sizeOf64 rfl rfl rfl rfl rfl ?_))));clear hK7;clear F a;intro a F;refine sCall call101 F rfl rfl rfl (pends_any (s := t39.next.next) hc (by (try simp only [PS.next]); omega) H) ?_;rintro e w ⟨rfl, H⟩;refine ⟨_, rfl, ?_⟩;clear F a; intro a F;refine sNot F rfl rfl rfl (qAs rfl rfl rfl ?_);clear F a;intro a F;refine sNil ?_
   have hstep : initL c (g + 1) { q with init := ini } u = if c.kind t39.next.next.pos = 4 then .ok { q with init := ini ++ [v53], wh := 2 } t39.next.next else initL c g { q with init := ini ++ [v53] } t39.next.next := by
     rw [init_one hix, hr39]
     show (signP c [61] t39).bind _ = _
     rw [hr43]
     show (numQ c t39.next).bind _ = _
     rw [hr53]
     rfl
   rw [hstep] at heq
   by_cases h4 : c.kind t39.next.next.pos = 4
   · rw [if_pos h4] at heq
     rw [show decide (c.kind t39.next.next.pos = 4) = true from decide_eq_true h4] at F
     exact ⟨_, Nat.succ_pos _, _, ⟨0, false, ini ++ [v53], t39.next.next, _, _, _, _, rfl, rfl, (fun e => by cases e), (fun _ => heq.symm), by simp only [PS.next]; simp only [PS.next] at hle53; omega, hn6, by rw [List.length_append, List.length_singleton]; simp only [PS.next]; omega, H⟩, F.to (by repeat (first | exact trivial | refine Le.cons rfl ?_))⟩
   · rw [if_neg h4] at heq
     rw [show decide (c.kind t39.next.next.pos = 4) = false from decide_eq_false h4] at F
     exact ⟨_, Nat.lt_succ_self _, _, ⟨g, true, ini ++ [v53], t39.next.next, _, _, _, _, rfl, rfl, (fun _ => ⟨heq, by simp only [PS.next]; omega⟩), (fun e => by cases e), by simp only [PS.next]; simp only [PS.next] at hle53; omega, hn6, by rw [List.length_append, List.length_singleton]; simp only [PS.next]; omega, H⟩, F.to (by repeat (first | exact trivial | refine Le.cons rfl ?_))⟩
  obtain rfl : mo = false := h14
  have hdone := hF rfl
  refine wp_exit ?_;refine hK3 _ _ (cReg (sMv F rfl rfl rfl (qNc rfl rfl rfl (qFa (f := 4) (k := 15) underlying66 rfl sizeOf3 rfl rfl rfl rfl rfl ?_))));clear hK3;clear F a;intro a F;refine sSt H 0 sizeOf3 F rfl rfl rfl rfl rfl rfl ?_;clear H; intro w H;refine sNil ?_
  first | refine bEnd results97 F ?_ | (simp only [Exit.then, Exit.inBlock, if_true]; (repeat (first | rw [if_pos rfl] | rw [if_neg (by decide)])); refine bEnd results97 F ?_)
  exact Ans.ok (v := { q with init := ini, wh := 2 }) (by rw [if_pos hw]; exact hdone) ⟨rfl, rfl, _, _, _, _, H⟩
-- PrW
open Go.Proofs.Tryz
open Go.RowKit
set_option maxRecDepth 100000
set_option maxHeartbeats 4000000 in
theorem pthread_any {W w0 : World} {rs : List Res} {c : PX} (hc : c.Ok) {A : Option Addr} {C bp : Nat} {S : Nat → Prop} {s : PS} {B : Option Addr} {D : Nat} (q : QL) {TA : Option Addr} {TC : Nat} {L I aq a1 a2 a3 a4 a5 qy : Value} {hrows : List (List Value)} (hrl : hrows.length = q.threads.length) (h4 : q.threads.length ≤ 4) (hp : s.pos ≤ 999000)
    (H : Own W none w0 (.blk bp (parC c A C s B D [.string q.name, L, I, .slice TA hrows.length TC, aq, a1, a2, a3, a4, a5, .int .i64 (q.wh : Int), qy]) 66 :: .held S A 3 (rowsT c.ts) :: .nms W c.fixed B D s.names :: .rws 52 1 (.slice TA hrows.length TC) hrows :: rs)) :
    Calls Tryz.prog 98 #[.pointer (some ⟨bp, 0, none⟩)] w0 fun e w' => Ans W rs (threadL c q s) (fun v t e w' => e = .returned (.tuple #[]) ∧ v = { q with threads := q.threads ++ [[]], wh := 3 } ∧ t = s.next ∧ ∃ TA TC, Own W none w' (.blk bp (parC c A C s.next B D [.string q.name, L, I, .slice TA (hrows ++ [[Value.slice none 0 0]]).length TC, aq, a1, a2, a3, a4, a5, .int .i64 (3 : Int), qy]) 66 :: .held S A 3 (rowsT c.ts) :: .nms W c.fixed B D s.names :: .rws 52 1 (.slice TA (hrows ++ [[Value.slice none 0 0]]).length TC) (hrows ++ [[Value.slice none 0 0]]) :: rs)) e w' := by
  refine enterF func98 rfl ntmps98 rfl (fun a F => ?_);refine cSR fun K1 hK1=>sMv F rfl rfl rfl (qMv rfl rfl rfl (qNc rfl rfl rfl (qFa (f := 4) (k := 15) underlying66 rfl sizeOf3 rfl rfl rfl rfl rfl (qLd isAgg3 rfl rfl rfl (H.cell 0 rfl rfl) (qBin rfl rfl rfl rfl bEql (qMv rfl rfl rfl ?_))))));clear F a;intro a F
  refine F.split 8 rfl ?_ ?_ <;> (clear F; intro h8 F)
  ·
   replace h8 := beqT h8
   have hw : q.wh = 1 ∨ q.wh = 2 ∨ q.wh = 3 := .inl (by omega)
   refine sSk F rfl rfl (qSk rfl rfl (qSk rfl rfl (qSk rfl rfl (qSk rfl rfl (qPk rfl rfl rfl rfl (qMv rfl rfl rfl (qSk rfl rfl (qSk rfl rfl (qSk rfl rfl (qSk rfl rfl (qSk rfl rfl (qPk rfl rfl rfl rfl ?_))))))))))));clear F a;intro a F;refine sCallP call64 F rfl rfl rfl (pneed_any _ hc (s := s) (by (try simp only [PS.next]); omega) H) ?_;rintro e w hq9
   rcases hq9.cases with ⟨p9, e9, hn22, rfl, H⟩ | ⟨v22, t22, hr22, rfl, H⟩
   ·
    refine .inl ⟨_, rfl, ?_⟩
    exact And.intro F.nod (Ans.no (by obtain ⟨h1, rfl, rfl⟩ := need_no hn22; first | exact absurd h1 (by decide) | (have w3 : ¬ q.wh = 3 := (eq_nat (b := 3)).2.1 h1; unfold threadL; rw [if_neg (by omega)]; rfl)) H.tail.tail)
   obtain ⟨hk0, rfl⟩ := need_ok hr22; have hw : q.wh = 1 ∨ q.wh = 2 ∨ q.wh = 3 := by first | exact hw | exact .inr (.inr ((eq_nat (b := 3)).1.1 hk0))
   refine .inr ⟨_, rfl, ?_⟩
   clear F a; intro a F;refine nK hK1 ?_;clear hK1;refine cSeq (fun K2 hK2 => ?_);refine cSR fun K3 hK3=>sMv F rfl rfl rfl (qNc rfl rfl rfl (qFa (f := 3) (k := 5) underlying66 rfl sizeOf29 rfl rfl rfl rfl rfl (qFa (f := 3) (k := 8) underlying29 rfl sizeOf24 rfl rfl rfl rfl rfl (qLd isAgg24 rfl rfl rfl (H.cell 0 rfl rfl) (qLen underlying24 rfl rfl rfl (qBin rfl rfl rfl rfl bEql (qNK hK3 ?_)))))));clear hK3;clear F a;intro a F
   refine cIf F rfl (fun h29 => ?_) (fun h29 => ?_)
   ·
    replace h29 := beqT h29
    have hl4 : q.threads.length = 4 := by omega
    refine cReg (sMv F rfl rfl rfl (qNc rfl rfl rfl (qFa (f := 0) (k := 0) underlying66 rfl sizeOf64 rfl rfl rfl rfl rfl ?_)));clear F a;intro a F;refine sCall call52 F rfl rfl rfl (pplace_any hc (by (try simp only [PS.next]); omega) H) ?_;rintro e w ⟨rfl, H⟩;refine ⟨_, rfl, ?_⟩;clear F a; intro a F;refine sCallP call59 F rfl rfl rfl (fail_any _ 5 H) ?_;rintro e w ⟨rfl, H⟩
    refine .inl ⟨_, rfl, ?_⟩
    exact And.intro F.nod (Ans.no (by unfold threadL; rw [if_pos hw, if_pos hl4]; rfl) H.tail.tail.tail.tail)
   replace h29 := beqF h29
   have hl4 : ¬ q.threads.length = 4 := by omega
   refine wp_skip (hK2 _ _ (cSR fun K4 hK4=>sMv F rfl rfl rfl (qNc rfl rfl rfl (qFa (f := 0) (k := 0) underlying66 rfl sizeOf64 rfl rfl rfl rfl rfl ?_))));clear hK2;clear F a;intro a F;refine sCall call102 F rfl rfl rfl (pstep_any (s := s) hc (by (try simp only [PS.next]); omega) H) ?_;rintro e w ⟨rfl, H⟩;refine ⟨_, rfl, ?_⟩;clear F a; intro a F;refine nK hK4 (cSR fun K5 hK5=>sMv F rfl rfl rfl (qMv rfl rfl rfl (qNc rfl rfl rfl (qFa (f := 3) (k := 5) underlying66 rfl sizeOf29 rfl rfl rfl rfl rfl (qFa (f := 3) (k := 8) underlying29 rfl sizeOf24 rfl rfl rfl rfl rfl (qLd isAgg24 rfl rfl rfl (H.cell 0 rfl rfl) ?_))))));clear hK4;clear F a;intro a F;refine sBs1 H underlying24 sizeOf52 zeroValue52 rfl F rfl rfl rfl rfl ?_;clear F a H; intro b45 a w F H
   refine sApp1 (bytes := 24) H 4 underlying24 typeInfo52 rfl rfl rfl rfl rfl rfl F rfl rfl rfl rfl rfl (H.whole 0 rfl) rfl ?s1 ?s2 ?_
   case s1 => first | rfl | (repeat (first | exact one_nil | (apply one_cons; · first | rfl | assumption | exact one_bif rfl rfl)))
   case s2 => omega
   clear F a H; intro A46 c46 a w F H;refine sNc F rfl rfl rfl (qFa (f := 3) (k := 5) underlying66 rfl sizeOf29 rfl rfl rfl rfl rfl (qFa (f := 3) (k := 8) underlying29 rfl sizeOf24 rfl rfl rfl rfl rfl ?_));clear F a;intro a F;refine sSt H 1 sizeOf24 F rfl rfl rfl rfl rfl rfl ?_;clear H; intro w H;refine nK hK5 (cReg (sMv F rfl rfl rfl (qNc rfl rfl rfl (qFa (f := 4) (k := 15) underlying66 rfl sizeOf3 rfl rfl rfl rfl rfl ?_))));clear hK5;clear F a;intro a F;refine sSt H 1 sizeOf3 F rfl rfl rfl rfl rfl rfl ?_;clear H; intro w H;refine sNil ?_
   first | refine bEnd results98 F ?_ | (simp only [Exit.then, Exit.inBlock, if_true]; (repeat (first | rw [if_pos rfl] | rw [if_neg (by decide)])); refine bEnd results98 F ?_)
   exact Ans.ok (v := { q with threads := q.threads ++ [[]], wh := 3 }) (by unfold threadL; rw [if_pos hw, if_neg hl4]) ⟨rfl, rfl, rfl, _, _, H.tail⟩
  replace h8 := beqF h8
  have w1 : ¬ q.wh = 1 := by omega
  refine sMv F rfl rfl rfl (qNc rfl rfl rfl (qFa (f := 4) (k := 15) underlying66 rfl sizeOf3 rfl rfl rfl rfl rfl (qLd isAgg3 rfl rfl rfl (H.cell 0 rfl rfl) (qBin rfl rfl rfl rfl bEql (qPk rfl rfl rfl rfl (qMv rfl rfl rfl ?_))))));clear F a;intro a F
  refine F.split 15 rfl ?_ ?_ <;> (clear F; intro h15 F)
  ·
   replace h15 := beqT h15
   have hw : q.wh = 1 ∨ q.wh = 2 ∨ q.wh = 3 := .inr (.inl (by omega))
   refine sSk F rfl rfl (qSk rfl rfl (qSk rfl rfl (qSk rfl rfl (qSk rfl rfl (qPk rfl rfl rfl rfl ?_)))));clear F a;intro a F;refine sCallP call64 F rfl rfl rfl (pneed_any _ hc (s := s) (by (try simp only [PS.next]); omega) H) ?_;rintro e w hq9
   rcases hq9.cases with ⟨p9, e9, hn22, rfl, H⟩ | ⟨v22, t22, hr22, rfl, H⟩
   ·
    refine .inl ⟨_, rfl, ?_⟩
    exact And.intro F.nod (Ans.no (by obtain ⟨h1, rfl, rfl⟩ := need_no hn22; first | exact absurd h1 (by decide) | (have w3 : ¬ q.wh = 3 := (eq_nat (b := 3)).2.1 h1; unfold threadL; rw [if_neg (by omega)]; rfl)) H.tail.tail)
   obtain ⟨hk0, rfl⟩ := need_ok hr22; have hw : q.wh = 1 ∨ q.wh = 2 ∨ q.wh = 3 := by first | exact hw | exact .inr (.inr ((eq_nat (b := 3)).1.1 hk0))
   refine .inr ⟨_, rfl, ?_⟩
   clear F a; intro a F;refine nK hK1 ?_;clear hK1;refine cSeq (fun K6 hK6 => ?_);refine cSR fun K7 hK7=>sMv F rfl rfl rfl (qNc rfl rfl rfl (qFa (f := 3) (k := 5) underlying66 rfl sizeOf29 rfl rfl rfl rfl rfl (qFa (f := 3) (k := 8) underlying29 rfl sizeOf24 rfl rfl rfl rfl rfl (qLd isAgg24 rfl rfl rfl (H.cell 0 rfl rfl) (qLen underlying24 rfl rfl rfl (qBin rfl rfl rfl rfl bEql (qNK hK7 ?_)))))));clear hK7;clear F a;intro a F
   refine cIf F rfl (fun h29 => ?_) (fun h29 => ?_)
   ·
    replace h29 := beqT h29
    have hl4 : q.threads.length = 4 := by omega
    refine cReg (sMv F rfl rfl rfl (qNc rfl rfl rfl (qFa (f := 0) (k := 0) underlying66 rfl sizeOf64 rfl rfl rfl rfl rfl ?_)));clear F a;intro a F;refine sCall call52 F rfl rfl rfl (pplace_any hc (by (try simp only [PS.next]); omega) H) ?_;rintro e w ⟨rfl, H⟩;refine ⟨_, rfl, ?_⟩;clear F a; intro a F;refine sCallP call59 F rfl rfl rfl (fail_any _ 5 H) ?_;rintro e w ⟨rfl, H⟩
    refine .inl ⟨_, rfl, ?_⟩
    exact And.intro F.nod (Ans.no (by unfold threadL; rw [if_pos hw, if_pos hl4]; rfl) H.tail.tail.tail.tail)
   replace h29 := beqF h29
   have hl4 : ¬ q.threads.length = 4 := by omega
   refine wp_skip (hK6 _ _ (cSR fun K8 hK8=>sMv F rfl rfl rfl (qNc rfl rfl rfl (qFa (f := 0) (k := 0) underlying66 rfl sizeOf64 rfl rfl rfl rfl rfl ?_))));clear hK6;clear F a;intro a F;refine sCall call102 F rfl rfl rfl (pstep_any (s := s) hc (by (try simp only [PS.next]); omega) H) ?_;rintro e w ⟨rfl, H⟩;refine ⟨_, rfl, ?_⟩;clear F a; intro a F;refine nK hK8 (cSR fun K9 hK9=>sMv F rfl rfl rfl (qMv rfl rfl rfl (qNc rfl rfl rfl (qFa (f := 3) (k := 5) underlying66 rfl sizeOf29 rfl rfl rfl rfl rfl (qFa (f := 3) (k := 8) underlying29 rfl sizeOf24 rfl rfl rfl rfl rfl (qLd isAgg24 rfl rfl rfl (H.cell 0 rfl rfl) ?_))))));clear hK8;clear F a;intro a F;refine sBs1 H underlying24 sizeOf52 zeroValue52 rfl F rfl rfl rfl rfl ?_;clear F a H; intro b45 a w F H
   refine sApp1 (bytes := 24) H 4 underlying24 typeInfo52 rfl rfl rfl rfl rfl rfl F rfl rfl rfl rfl rfl (H.whole 0 rfl) rfl ?s1 ?s2 ?_
   case s1 => first | rfl | (repeat (first | exact one_nil | (apply one_cons; · first | rfl | assumption | exact one_bif rfl rfl)))
   case s2 => omega
   clear F a H; intro A46 c46 a w F H;refine sNc F rfl rfl rfl (qFa (f := 3) (k := 5) underlying66 rfl sizeOf29 rfl rfl rfl rfl rfl (qFa (f := 3) (k := 8) underlying29 rfl sizeOf24 rfl rfl rfl rfl rfl ?_));clear F a;intro a F;refine sSt H 1 sizeOf24 F rfl rfl rfl rfl rfl rfl ?_;clear H; intro w H;refine nK hK9 (cReg (sMv F rfl rfl rfl (qNc rfl rfl rfl (qFa (f := 4) (k := 15) underlying66 rfl sizeOf3 rfl rfl rfl rfl rfl ?_))));clear hK9;clear F a;intro a F;refine sSt H 1 sizeOf3 F rfl rfl rfl rfl rfl rfl ?_;clear H; intro w H;refine sNil ?_
   first | refine bEnd results98 F ?_ | (simp only [Exit.then, Exit.inBlock, if_true]; (repeat (first | rw [if_pos rfl] | rw [if_neg (by decide)])); refine bEnd results98 F ?_)
   exact Ans.ok (v := { q with threads := q.threads ++ [[]], wh := 3 }) (by unfold threadL; rw [if_pos hw, if_neg hl4]) ⟨rfl, rfl, rfl, _, _, H.tail⟩
  replace h15 := beqF h15
  have w2 : ¬ q.wh = 2 := by omega
  refine sMv F rfl rfl rfl (qNc rfl rfl rfl (qFa (f := 4) (k := 15) underlying66 rfl sizeOf3 rfl rfl rfl rfl rfl (qLd isAgg3 rfl rfl rfl (H.cell 0 rfl rfl) (qBin rfl rfl rfl rfl bEql (qPk rfl rfl rfl rfl ?_)))));clear F a;intro a F;refine sCallP call64 F rfl rfl rfl (pneed_any _ hc (s := s) (by (try simp only [PS.next]); omega) H) ?_;rintro e w hq9
  rcases hq9.cases with ⟨p9, e9, hn22, rfl, H⟩ | ⟨v22, t22, hr22, rfl, H⟩
  ·
   refine .inl ⟨_, rfl, ?_⟩
   exact And.intro F.nod (Ans.no (by obtain ⟨h1, rfl, rfl⟩ := need_no hn22; first | exact absurd h1 (by decide) | (have w3 : ¬ q.wh = 3 := (eq_nat (b := 3)).2.1 h1; unfold threadL; rw [if_neg (by omega)]; rfl)) H.tail.tail)
  obtain ⟨hk0, rfl⟩ := need_ok hr22; have hw : q.wh = 1 ∨ q.wh = 2 ∨ q.wh = 3 := by first | exact hw | exact .inr (.inr ((eq_nat (b := 3)).1.1 hk0))
  refine .inr ⟨_, rfl, ?_⟩
  clear F a; intro a F;refine nK hK1 ?_;clear hK1;refine cSeq (fun K10 hK10 => ?_);refine cSR fun K11 hK11=>sMv F rfl rfl rfl (qNc rfl rfl rfl (qFa (f := 3) (k := 5) underlying66 rfl sizeOf29 rfl rfl rfl rfl rfl (qFa (f := 3) (k := 8) underlying29 rfl sizeOf24 rfl rfl rfl rfl rfl (qLd isAgg24 rfl rfl rfl (H.cell 0 rfl rfl) (qLen underlying24 rfl rfl rfl (qBin rfl rfl rfl rfl bEql (qNK hK11 ?_)))))));clear hK11;clear F a;intro a F
  refine cIf F rfl (fun h29 => ?_) (fun h29 => ?_)
  ·
   replace h29 := beqT h29
   have hl4 : q.threads.length = 4 := by omega
   refine cReg (sMv F rfl rfl rfl (qNc rfl rfl rfl (qFa (f := 0) (k := 0) underlying66 rfl sizeOf64 rfl rfl rfl rfl rfl ?_)));clear F a;intro a F;refine sCall call52 F rfl rfl rfl (pplace_any hc (by (try simp only [PS.next]); omega) H) ?_;rintro e w ⟨rfl, H⟩;refine ⟨_, rfl, ?_⟩;clear F a; intro a F;refine sCallP call59 F rfl rfl rfl (fail_any _ 5 H) ?_;rintro e w ⟨rfl, H⟩
   refine .inl ⟨_, rfl, ?_⟩
   exact And.intro F.nod (Ans.no (by unfold threadL; rw [if_pos hw, if_pos hl4]; rfl) H.tail.tail.tail.tail)
  replace h29 := beqF h29
  have hl4 : ¬ q.threads.length = 4 := by omega
  refine wp_skip (hK10 _ _ (cSR fun K12 hK12=>sMv F rfl rfl rfl (qNc rfl rfl rfl (qFa (f := 0) (k := 0) underlying66 rfl sizeOf64 rfl rfl rfl rfl rfl ?_))));clear hK10;clear F a;intro a F;refine sCall call102 F rfl rfl rfl (pstep_any (s := s) hc (by (try simp only [PS.next]); omega) H) ?_;rintro e w ⟨rfl, H⟩;refine ⟨_, rfl, ?_⟩;clear F a; intro a F;refine nK hK12 (cSR fun K13 hK13=>sMv F rfl rfl rfl (qMv rfl rfl rfl (qNc rfl rfl rfl (qFa (f := 3) (k := 5) underlying66 rfl sizeOf29 rfl rfl rfl rfl rfl (qFa (f := 3) (k := 8) underlying29 rfl sizeOf24 rfl rfl rfl rfl rfl (qLd isAgg24 rfl rfl rfl (H.cell 0 rfl rfl) ?_))))));clear hK12;clear F a;intro a F;refine sBs1 H underlying24 sizeOf52 zeroValue52 rfl F rfl rfl rfl rfl ?_;clear F a H; intro b45 a w F H
  refine sApp1 (bytes := 24) H 4 underlying24 typeInfo52 rfl rfl rfl rfl rfl rfl F rfl rfl rfl rfl rfl (H.whole 0 rfl) rfl ?s1 ?s2 ?_
  case s1 => first | rfl | (repeat (first | exact one_nil | (apply one_cons; · first | rfl | assumption | exact one_bif rfl rfl)))
  case s2 => omega
  clear F a H; intro A46 c46 a w F H;refine sNc F rfl rfl rfl (qFa (f := 3) (k := 5) underlying66 rfl sizeOf29 rfl rfl rfl rfl rfl (qFa (f := 3) (k := 8) underlying29 rfl sizeOf24 rfl rfl rfl rfl rfl ?_));clear F a;intro a F;refine sSt H 1 sizeOf24 F rfl rfl rfl rfl rfl rfl ?_;clear H; intro w H;refine nK hK13 (cReg (sMv F rfl rfl rfl (qNc rfl rfl rfl (qFa (f := 4) (k := 15) underlying66 rfl sizeOf3 rfl rfl rfl rfl rfl ?_))));clear hK13;clear F a;intro a F;refine sSt H 1 sizeOf3 F rfl rfl rfl rfl rfl rfl ?_;clear H; intro w H;refine sNil ?_
  first | refine bEnd results98 F ?_ | (simp only [Exit.then, Exit.inBlock, if_true]; (repeat (first | rw [if_pos rfl] | rw [if_neg (by decide)])); refine bEnd results98 F ?_)
  exact Ans.ok (v := { q with threads := q.threads ++ [[]], wh := 3 }) (by unfold threadL; rw [if_pos hw, if_neg hl4]) ⟨rfl, rfl, rfl, _, _, H.tail⟩
-- PrX
open Go.Proofs.Tryz
open Go.RowKit
set_option maxRecDepth 100000
def linesM : List (ByteArray × Value) := [(⟨#[116, 101, 115, 116]⟩, .func (.func 96) #[] #[]), (⟨#[105, 110, 105, 116]⟩, .func (.func 97) #[] #[]), (⟨#[116, 104, 114, 101, 97, 100]⟩, .func (.func 98) #[] #[]), (⟨#[115, 111, 109, 101]⟩, .func (.func 99) #[] #[]), (⟨#[110, 111, 110, 101]⟩, .func (.func 99) #[] #[]), (⟨#[97, 108, 108]⟩, .func (.func 99) #[] #[])]
theorem plines_any {W w0 : World} {rs : List Res} (H : Own W none w0 rs) : Calls Tryz.prog 53 #[] w0 fun e w' => ∃ b, e = .returned (.map (some b)) ∧ Own W none w' (.mpT b linesM :: rs) := by
  refine enterF func53 rfl ntmps53 rfl (fun a F => ?_);refine cSR fun K1 hK1=>sAs F rfl rfl rfl (qNK hK1 (qSR fun K2 hK2=>?_));clear hK1;clear F a;intro a F;refine sMkT H F rfl rfl ?_;clear F a H; intro b1 a w F H;refine sInsT H 0 underlying103 underlying9 F rfl rfl rfl rfl rfl (by kernel_rfl) ?_;clear H; intro w H;refine sInsT H 0 underlying103 underlying9 F rfl rfl rfl rfl rfl (by kernel_rfl) ?_;clear H; intro w H;refine sInsT H 0 underlying103 underlying9 F rfl rfl rfl rfl rfl (by kernel_rfl) ?_;clear H; intro w H;refine sInsT H 0 underlying103 underlying9 F rfl rfl rfl rfl rfl (by kernel_rfl) ?_;clear H; intro w H;refine sInsT H 0 underlying103 underlying9 F rfl rfl rfl rfl rfl (by kernel_rfl) ?_;clear H; intro w H;refine sInsT H 0 underlying103 underlying9 F rfl rfl rfl rfl rfl (by kernel_rfl) ?_;clear H; intro w H;refine sMv F rfl rfl rfl (qAs rfl rfl rfl (qNK hK2 ?_));clear hK2;clear F a;intro a F;refine wp_ret ?_;refine bRet results53 F rfl ?_
  exact ⟨_, rfl, H⟩
-- VcN
open Go.RowKit
section
variable {P : Program} {l : List Oper} {Q : Exit → Act → World → Prop} {N : Nat} {a : Act} {env : List (Nat × Value)} {rest : List Oper} {d : Tmp} {ty : TypeId} {pos : String} {af : Array Edge} {g : Option (Nat × Bool)}
  {w0 w : World} {row : Option Nat} {rs : List Res} {Kt : Act → World → Prop}
def winP (e : TypeId) (sz : Nat) (v : Value) (rows : List (List Value)) (w : World) : Prop :=
  (∀ r ∈ rows, r.length = sz) ∧ ((v = .slice none 0 0 ∧ rows = []) ∨ ∃ g off cap cur, v = .slice (some ⟨g, off, none⟩) rows.length cap ∧ w.heap[g]? = some (.cells cur e (0, 0)) ∧ rows.length ≤ cap ∧ cap ≤ maxLen ∧ off + cap * sz ≤ cur.size ∧ ∀ (j : Nat) (u : Value), rows.flatten[j]? = some u → cur[off + j]? = some u)
theorem flat_len {sz : Nat} : ∀ (q : List (List Value)), (∀ r ∈ q, r.length = sz) → q.flatten.length = q.length * sz
  | [], _ => by simp
  | r0 :: rest, hq => by rw [List.flatten_cons, List.length_append, flat_len rest (fun r hm => hq r (by simp [hm])), hq r0 (by simp), List.length_cons, Nat.add_mul]; omega
theorem flat_at {sz : Nat} : ∀ (rows : List (List Value)), (∀ r ∈ rows, r.length = sz) → ∀ (j : Nat) (cs : List Value), rows[j]? = some cs → ∀ (k : Nat) (v : Value), cs[k]? = some v → rows.flatten[j * sz + k]? = some v
  | [], _, j, cs, hj, _, _, _ => by simp at hj
  | r0 :: rest, hr, j, cs, hj, k, v, hk => by
    have h0 : r0.length = sz := hr r0 (by simp)
    cases j with
    | zero =>
      simp at hj; subst hj
      have : k < r0.length := (List.getElem?_eq_some_iff.1 hk).1
      rw [List.flatten_cons, List.getElem?_append_left (by omega)]; simpa using hk
    | succ j =>
      rw [List.flatten_cons, List.getElem?_append_right (by rw [h0, Nat.add_mul]; omega), h0]
      have e1 : (j + 1) * sz + k - sz = j * sz + k := by rw [Nat.add_mul]; omega
      rw [e1]
      exact flat_at rest (fun r hm => hr r (by simp [hm])) j cs (by simpa using hj) k v hk
theorem flat_drop {sz : Nat} (rows : List (List Value)) (hr : ∀ r ∈ rows, r.length = sz) (i : Nat) (hi : i ≤ rows.length) : (rows.drop i).flatten = rows.flatten.drop (i * sz) := by
  have h1 : rows.flatten = (rows.take i).flatten ++ (rows.drop i).flatten := by rw [← List.flatten_append, List.take_append_drop]
  have h2 : (rows.take i).flatten.length = i * sz := by rw [flat_len _ (fun r hm => hr r (List.mem_of_mem_take hm)), List.length_take]; congr 1; omega
  rw [h1, ← h2, List.drop_left]
theorem winP.nil (e : TypeId) (sz : Nat) (w : World) : winP e sz (.slice none 0 0) [] w := ⟨by simp, .inl ⟨rfl, rfl⟩⟩
theorem winP.len {e : TypeId} {sz n c : Nat} {A : Option Addr} {rows : List (List Value)} (h : winP e sz (.slice A n c) rows w) : n = rows.length ∧ n ≤ c ∧ c ≤ maxLen := by
  rcases h.2 with ⟨h1, h2⟩ | ⟨g, off, cap, cur, h1, _, h3, h4, _⟩
  · cases h1; subst h2; exact ⟨rfl, Nat.le_refl _, Nat.zero_le _⟩
  · cases h1; exact ⟨rfl, h3, h4⟩
theorem winP.at {e : TypeId} {sz n c : Nat} {A : Option Addr} {rows : List (List Value)} (h : winP e sz (.slice A n c) rows w) : RowsAt w A sz rows := fun j cs hj => by
  rcases h.2 with ⟨h1, h2⟩ | ⟨g, off, cap, cur, h1, h2, _, _, _, h6⟩
  · subst h2; simp at hj
  · cases h1
    refine ⟨g, off, rfl, fun k v hk => ?_⟩
    have h7 := h6 _ v (flat_at rows h.1 j cs hj k v hk)
    simp [World.cell?, h2, Nat.add_assoc, h7]
theorem winP.cells {e : TypeId} {sz n c : Nat} {A : Addr} {rows : List (List Value)} (h : winP e sz (.slice (some A) n c) rows w) : ∀ j u, rows.flatten[j]? = some u → w.cell? (A.add j) = some u := fun j u hj => by
  rcases h.2 with ⟨h1, _⟩ | ⟨g, off, cap, cur, h1, h2, _, _, _, h6⟩
  · cases h1
  · cases h1
    have h7 := h6 _ u hj
    rw [Addr.add_mid]
    simp [World.cell?, h2, h7]
theorem winP.from {e : TypeId} {sz n c i : Nat} {A : Option Addr} {rows : List (List Value)} (h : winP e sz (.slice A n c) rows w) (hi : i ≤ n) : winP e sz (.slice (if c = i then A else A.map (·.add (i * sz))) (n - i) (c - i)) (rows.drop i) w := by
  obtain ⟨hn, hc, hm⟩ := h.len
  refine ⟨fun r hr => h.1 r (List.mem_of_mem_drop hr), ?_⟩
  rcases h.2 with ⟨h1, h2⟩ | ⟨g, off, cap, cur, h1, h2, h3, h4, h5, h6⟩
  · cases h1; subst h2
    obtain rfl : i = 0 := by omega
    exact .inl ⟨by simp, by simp⟩
  · cases h1
    by_cases hci : c = i
    · have : rows.drop i = [] := List.drop_eq_nil_of_le (by omega)
      refine .inr ⟨g, off, 0, cur, ?_, h2, by rw [this]; simp, Nat.zero_le _, by omega, fun j u hj => by rw [this] at hj; simp at hj⟩
      rw [if_pos hci, this]
      simp only [List.length_nil]
      congr 1 <;> omega
    · refine .inr ⟨g, off + i * sz, c - i, cur, ?_, h2, by rw [List.length_drop]; omega, by omega, ?_, fun j u hj => ?_⟩
      · rw [if_neg hci, List.length_drop]
        simp [Addr.add_mid]
      · have : i * sz + (c - i) * sz = c * sz := by rw [← Nat.add_mul]; congr 1; omega
        omega
      · rw [flat_drop rows h.1 i (by omega), List.getElem?_drop] at hj
        rw [Nat.add_assoc]; exact h6 _ u hj
end
-- VcO
open Go.RowKit
section
variable {P : Program} {l : List Oper} {Q : Exit → Act → World → Prop} {N : Nat} {a : Act} {env : List (Nat × Value)} {rest : List Oper} {d : Tmp} {ty : TypeId} {pos : String} {af : Array Edge} {g : Option (Nat × Bool)}
  {w0 w : World} {row : Option Nat} {rs : List Res} {Kt : Act → World → Prop}
theorem Own.setRws (H : Own w0 row w rs) (i : Nat) {e : TypeId} {sz n c g k : Nat} {rows : List (List Value)} {r : List Value} {j : Nat} {u : Value} (hi : rs[i]? = some (.rws e sz (.slice (some ⟨g, 0, .none⟩) n c) rows)) (hl : ∀ r ∈ rows, r.length = sz) (hj : rows[j]? = some r) (hk : k < sz) :
    w.there g (j * sz + k) 1 ∧ Own w0 row (w.setCell ⟨g, j * sz + k, .none⟩ u) (rs.set i (.rws e sz (.slice (some ⟨g, 0, .none⟩) n c) (rows.set j (r.set k u)))) := by
  have h := H.arr i hi
  have hjl := (List.getElem?_eq_some_iff.1 hj).1
  have hflat := flat_len rows hl
  have hrl := hl r (List.mem_of_getElem? hj)
  have hjk : j * sz + k < rows.length * sz := by
    have := Nat.mul_le_mul_right sz (show j + 1 ≤ rows.length from hjl)
    rw [Nat.add_mul] at this
    omega
  have hset : ∀ (rows : List (List Value)) (j : Nat), (∀ r ∈ rows, r.length = sz) → rows[j]? = some r → (rows.set j (r.set k u)).flatten = rows.flatten.set (j * sz + k) u := by
    intro rows
    induction rows with
    | nil => intro j _ h; simp at h
    | cons r0 rest ih =>
      intro j hl h
      have h0 : r0.length = sz := hl r0 (by simp)
      cases j with
      | zero =>
        simp at h; subst h
        simp only [List.set_cons_zero, List.flatten_cons, Nat.zero_mul, Nat.zero_add]
        rw [List.set_append_left _ _ (by omega)]
      | succ j =>
        simp only [List.set_cons_succ, List.flatten_cons]
        rw [ih j (fun r hm => hl r (by simp [hm])) (by simpa using h), List.set_append_right _ _ (by rw [h0, Nat.add_mul]; omega), h0]
        congr 2
        rw [Nat.add_mul]; omega
  rcases h.2 with ⟨h1, _⟩ | ⟨g', cap, cur, h1, _, h2, h3, h4, h5, h6⟩
  · cases h1
  · have hg : g' = g := by cases h1; rfl
    subst hg
    obtain ⟨rfl, rfl⟩ : n = rows.length ∧ c = cap := by cases h1; exact ⟨rfl, rfl⟩
    have hcs : rows.length * sz ≤ cur.size := by rw [h5]; exact Nat.mul_le_mul_right _ h3
    have hB : Blk w g' cur.toList e := by unfold Blk; simpa using h2
    refine ⟨fun q hq => ?_, H.turn i hi _ (grown_setCell H.grown (H.foot i _ hi g' rfl).1 _ _) (by simp [World.setCell]) (fun b _ hb => Below.heap_setCell w _ u b (fun e => hb (by rw [e]; rfl))) ?_ (fun b hb => ⟨.inl hb, by
      have : g' = b := by simpa [Res.rws, Res.arr, Value.ownBlock] using hb
      subst this
      simpa [World.setCell] using (H.foot i _ hi g' rfl).2⟩)⟩
    · obtain rfl : q = 0 := by omega
      have hc := hB.cell (j * sz + k) (v := cur.toList[j * sz + k]'(by simpa using (by omega : j * sz + k < cur.size))) (List.getElem?_eq_getElem _)
      exact ⟨by rw [Nat.add_zero, hc]; rfl, by rw [Nat.add_zero]; exact hB.frozen _⟩
    · have h7 := hB.set (j * sz + k) u
      show World.ownsRow _ 0 e sz _ (rows.set j (r.set k u)).length (rows.set j (r.set k u)).flatten
      rw [hset rows j hl hj, List.length_set]
      refine ⟨by rw [List.length_set, hflat], .inr ⟨g', c, (cur.toList.set (j * sz + k) u).toArray, rfl, Nat.zero_le _, h7, h3, h4, by simpa using h5, ?_⟩⟩
      simp only
      rw [List.take_set, h6]
theorem store_there {t : TypeId} {x y : Operand} {b o : Nat} {v : Value} (hz : ∀ w, (sizeOf t).run P w = .ok 1 w) (F : Has N a env)
    (hx : ev env x = some (.pointer (some ⟨b, o, none⟩))) (hy : ev env y = some v) (h1 : v.oneCell' = true) (ht : w.there b o 1) : (execOp a.eval ⟨none, .store t x y, ty, pos, af, g⟩).run P w = .ok .skip (w.setCell ⟨b, o, none⟩ v) := by
  simp only [execOp, F.eval hx, F.eval hy]
  obtain ⟨hc, hf⟩ := ht 0 (by omega)
  rw [Nat.add_zero] at hc hf
  have h2 : v.cells = #[v] := by cases v <;> simp_all [Value.oneCell', Value.cells]
  have h3 := run_storeCells_cells (P := P) b o [v] 0 w (fun q hq => by simp at hq; subst hq; simpa using hc) (fun q hq => by simp at hq; subst hq; simpa using hf) (fun q hq => by simp at hq; subst hq; exact h1)
  simp only [Nat.add_zero] at h3
  have h4 : (storeCells ⟨b, o, none⟩ [v]).run P w = .ok () (w.setCell ⟨b, o, none⟩ v) := h3
  simp only [Instr.storeAt, Instr.sureAddr, storeVar, h2, Sem.run_bind, Sem.run_pure, Result.andThen_ok, hz, List.size_toArray, List.length_cons, List.length_nil, ne_eq, not_true_eq_false, ↓reduceIte, Nat.zero_add, h4]
theorem oStW {t : TypeId} {x y : Operand} {e : TypeId} {sz n c gb k o : Nat} {rows : List (List Value)} {r : List Value} {j : Nat} {v : Value} (H : Own w0 row w rs) (i : Nat) (hz : ∀ w, (sizeOf t).run P w = .ok 1 w) (F : Has N a env)
    (hx : ev env x = some (.pointer (some ⟨gb, o, none⟩))) (hy : ev env y = some v) (h1 : v.oneCell' = true) (hi : rs[i]? = some (.rws e sz (.slice (some ⟨gb, 0, none⟩) n c) rows)) (hl : ∀ r ∈ rows, r.length = sz) (hj : rows[j]? = some r) (hk : k < sz) (ho : o = j * sz + k)
    (K : ∀ w, Own w0 row w (rs.set i (.rws e sz (.slice (some ⟨gb, 0, none⟩) n c) (rows.set j (r.set k v)))) → Kt a w) : (Oper.mk none (.store t x y) ty pos af g).wp P a w Kt Q := by
  subst ho
  obtain ⟨h2, h3⟩ := H.setRws i (u := v) hi hl hj hk
  exact oU rfl (w' := w.setCell ⟨gb, j * sz + k, none⟩ v) (store_there hz F hx hy h1 h2) (K _ h3)
end
end Go.Proofs.YtkchaoajegkadaaGreatDoor
