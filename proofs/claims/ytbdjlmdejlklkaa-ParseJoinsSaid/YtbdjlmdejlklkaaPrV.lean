/-
  WALK2. Package parse: the line init. Conditions: the parser, its tokens, names and values lie in memory.
-/
import Derived.Test.YtbdjlmdejlklkaaPrRX
set_option linter.unusedSimpArgs false
set_option linter.unusedVariables false
namespace Go.Proofs.Ytbdjlmdejlklkaa
open Go.RowKit
set_option maxRecDepth 100000
def iniC (l : List UInt8) : List (List Value) := l.map fun x => [b8 x]
theorem iniC_snoc (l : List UInt8) (v : UInt8) : iniC l ++ [[b8 v]] = iniC (l ++ [v]) := by simp [iniC]
theorem iniC_length (l : List UInt8) : (iniC l).length = l.length := by simp [iniC]
section
variable {c : PX} {f : Nat} {q : QL} {s : PS}
theorem init_twice {k : Nat} (h : idxOf (c.word s.pos) s.names 0 = some k) : initL c (f + 1) q s = failP c s 51 := by show (match idxOf (c.word s.pos) s.names 0 with | some _ => _ | none => _) = _; rw [h]
theorem init_one (h : idxOf (c.word s.pos) s.names 0 = none) : initL c (f + 1) q s = (locP c s).bind fun _ s1 => (signP c [61] s1).bind fun _ s2 => (numQ c s2).bind fun v s3 =>
      if c.kind s3.pos = 4 then .ok { q with init := q.init ++ [v], wh := 2 } s3 else initL c f { q with init := q.init ++ [v] } s3 := by show (match idxOf (c.word s.pos) s.names 0 with | some _ => _ | none => _) = _; rw [h]
end
set_option maxHeartbeats 16000000 in
theorem pinit_any {W w0 : World} {rs : List Res} {c : PX} (hc : c.Ok) (hm : c.ts.length ≤ 900000) {A : Option Addr} {C bp : Nat} {S : Nat → Prop} {s : PS} {B : Option Addr} {D : Nat} (q : QL) {IA : Option Addr} {IC : Nat} {L K aq a1 a2 a3 a4 a5 qy : Value} (hp : s.pos < c.ts.length) (hnl : s.names.length ≤ c.lim) (hil : q.init.length ≤ s.names.length)
    (H : Own W none w0 (.blk bp (parC c A C s B D [.string q.name, L, .slice IA q.init.length IC, K, aq, a1, a2, a3, a4, a5, .int .i64 (q.wh : Int), qy]) 59 :: .held S A 3 (rowsT c.ts) :: .nms W c.fixed B D s.names :: .rws 5 1 (.slice IA q.init.length IC) (iniC q.init) :: rs)) :
    Calls Try.prog 56 #[.pointer (some ⟨bp, 0, none⟩)] w0 fun e w' => Ans W rs (if q.wh = 1 then initL c (c.ts.length + 1) q s.next else failP c s 50) (fun v t e w' => e = .returned (.tuple #[]) ∧ v = { q with init := v.init, wh := v.wh } ∧ ∃ B D IA IC, Own W none w' (.blk bp (parC c A C t B D [.string q.name, L, .slice IA v.init.length IC, K, aq, a1, a2, a3, a4, a5, .int .i64 (v.wh : Int), qy]) 59 :: .held S A 3 (rowsT c.ts) :: .nms W c.fixed B D t.names :: .rws 5 1 (.slice IA v.init.length IC) (iniC v.init) :: rs)) e w' := by
  have hfew := hc.few
  have hlim := c.lim_le
  refine enterF Try.func56 rfl Try.ntmps56 rfl (fun a F => ?_)
  refine cSeq (fun K1 hK1 => ?_)
  refine cReg ?_
  refine sMv F rfl rfl rfl ?_;clear F a;intro a F
  refine sMv F rfl rfl rfl ?_;clear F a;intro a F
  refine sNc F rfl rfl rfl ?_;clear F a;intro a F
  refine sFa (f := 4) (k := 15) Try.underlying59 rfl Try.sizeOf3 rfl rfl F rfl rfl rfl ?_;clear F a;intro a F
  refine sLd Try.isAgg3 F rfl rfl rfl (H.cell 0 rfl rfl) ?_;clear F a;intro a F
  refine sBin F rfl rfl rfl rfl bEql ?_;clear F a;intro a F
  refine sCallP Try.call60 F rfl rfl rfl (pneed_any _ hc (s := s) (by (try simp only [PS.next]); omega) H) ?_
  rintro e w hq9
  rcases hq9.cases with ⟨p9, e9, hn9, rfl, H⟩ | ⟨v9, t9, hr9, rfl, H⟩
  ·
   refine .inl ⟨_, rfl, ?_⟩
   exact And.intro F.nod (Ans.no (by obtain ⟨h1, rfl, rfl⟩ := need_no hn9; rw [if_neg ((eq_nat (b := 1)).2.1 h1)]; rfl) H.tail.tail)
  obtain ⟨hk0, rfl⟩ := need_ok hr9; have hw : q.wh = 1 := (eq_nat (b := 1)).1.1 hk0
  refine .inr ⟨_, rfl, ?_⟩
  clear F a; intro a F
  refine sNil ?_
  refine hK1 _ _ ?_; clear hK1
  refine cSeq (fun K2 hK2 => ?_)
  refine cReg ?_
  refine sMv F rfl rfl rfl ?_;clear F a;intro a F
  refine sNc F rfl rfl rfl ?_;clear F a;intro a F
  refine sFa (f := 0) (k := 0) Try.underlying59 rfl Try.sizeOf57 rfl rfl F rfl rfl rfl ?_;clear F a;intro a F
  refine sCall Try.call48 F rfl rfl rfl (pstep_any hc (by (try simp only [PS.next]); omega) H) ?_
  rintro e w ⟨rfl, H⟩
  refine ⟨_, rfl, ?_⟩
  clear F a; intro a F
  refine sNil ?_
  refine hK2 _ _ ?_; clear hK2
  refine cSeq (fun K3 hK3 => ?_)
  refine cSeq (fun K4 hK4 => ?_)
  refine cReg ?_
  refine sAs F rfl rfl rfl ?_;clear F a;intro a F
  refine sNil ?_
  refine hK4 _ _ ?_; clear hK4
  refine wp_block ?_
  refine cLoopR [0] (fun m ups w => ∃ (g : Nat) (mo : Bool) (ini : List UInt8) (u : PS) (JA : Option Addr) (JC : Nat) (Bu : Option Addr) (Du : Nat), m = (bif mo then g + 1 else 0) ∧ ups = [(2, .bool mo)] ∧ (mo = true → initL c g { q with init := ini } u = initL c (c.ts.length + 1) q s.next ∧ c.ts.length < u.pos + g) ∧ (mo = false → initL c (c.ts.length + 1) q s.next = .ok { q with init := ini, wh := 2 } u) ∧ u.pos ≤ c.ts.length ∧ u.names.length ≤ c.lim ∧ ini.length ≤ u.pos + 1000 ∧ Own W none w (.blk bp (parC c A C u Bu Du [.string q.name, L, .slice JA ini.length JC, K, aq, a1, a2, a3, a4, a5, .int .i64 (q.wh : Int), qy]) 59 :: .held S A 3 (rowsT c.ts) :: .nms W c.fixed Bu Du u.names :: .rws 5 1 (.slice JA ini.length JC) (iniC ini) :: rs)) F (c.ts.length + 1 + 1) [(2, .bool true)] (by repeat (first | exact SubR.nil | (apply SubR.cons; · rfl))) ?_ ?_ ?_
  · exact ⟨c.ts.length + 1, true, q.init, s.next, IA, IC, B, D, rfl, rfl, (fun _ => ⟨rfl, by show c.ts.length < s.pos + 1 + (c.ts.length + 1); omega⟩), (fun e => by cases e), hp, hnl, by show q.init.length ≤ s.pos + 1 + 1000; omega, H⟩
  · repeat (first | exact trivial | refine Le.cons rfl ?_)
  clear F
  clear H
  intro m ups a w hI F
  obtain ⟨g, mo, ini, u, JA, JC, Bu, Du, rfl, rfl, hT, hF, hul, hu6, hil2, H⟩ := hI
  refine cSeq (fun K5 hK5 => ?_)
  refine cSeq (fun K6 hK6 => ?_)
  refine cReg ?_
  refine sMv F rfl rfl rfl ?_;clear F a;intro a F
  refine sNil ?_
  refine hK6 _ _ ?_; clear hK6
  refine cIf F rfl (fun h14 => ?_) (fun h14 => ?_)
  ·
   obtain rfl : mo = true := h14
   obtain ⟨heq, hg⟩ := hT rfl
   obtain ⟨g, rfl⟩ : ∃ k, g = k + 1 := ⟨g - 1, by omega⟩
   refine wp_skip ?_
   refine hK5 _ _ ?_; clear hK5
   refine cSeq (fun K7 hK7 => ?_)
   refine wp_block ?_
   refine cSeq (fun K8 hK8 => ?_)
   refine cSeq (fun K9 hK9 => ?_)
   refine cRegRO (by kernel_rfl) H ?_
   replace H := H.drew
   refine eTakeF (k := 0) (i := 0) rfl (by kernel_rfl) F rfl rfl rfl (fun w => rMv F rfl) H (fun _ _ _ h => h) ?_;clear F a;intro a F
   refine eTake (k := 1) (i := 1) rfl (by kernel_rfl) F rfl rfl rfl rfl (fun w H => rNc F rfl) H (fun _ _ _ h => h) ?_;clear F a;intro a F
   refine eTakeF (k := 2) (i := 2) rfl (by kernel_rfl) F rfl rfl rfl (fun w => rFa (f := 1) (k := 3) Try.underlying59 rfl Try.sizeOf29 rfl rfl F rfl) H (fun _ _ _ h => h) ?_;clear F a;intro a F
   refine eTake (k := 3) (i := 3) rfl (by kernel_rfl) F rfl rfl rfl rfl (fun w H => rLd Try.isAgg29 F rfl (H.cell 0 rfl rfl)) H (fun _ _ _ h => h) ?_;clear F a;intro a F
   refine eTakeF (k := 4) (i := 4) rfl (by kernel_rfl) F rfl rfl rfl (fun w => rMv F rfl) H (fun _ _ _ h => h) ?_;clear F a;intro a F
   refine eTake (k := 5) (i := 5) rfl (by kernel_rfl) F rfl rfl rfl rfl (fun w H => rNc F rfl) H (fun _ _ _ h => h) ?_;clear F a;intro a F
   refine eTakeF (k := 6) (i := 6) rfl (by kernel_rfl) F rfl rfl rfl (fun w => rFa (f := 0) (k := 0) Try.underlying59 rfl Try.sizeOf57 rfl rfl F rfl) H (fun _ _ _ h => h) ?_;clear F a;intro a F
   refine eOne (k := 7) (i := 7) rfl (by kernel_rfl) F rfl (oCall Try.call43 F rfl rfl (pword_any (s := u) hc (by (try simp only [PS.next]); omega) H) ?_)
   rintro e w ⟨rfl, H⟩
   refine ⟨_, rfl, ?_⟩
   clear F a; intro a F
   refine eKeep H ?_
   refine eOne (k := 8) (i := 8) rfl (by kernel_rfl) F rfl (oCall Try.call70 F rfl rfl (contains_any Bu Du u.names (c.word u.pos) _ (nmsAt H 2 rfl) (by omega)) ?_)
   rintro e w ⟨rfl, hb⟩
   replace H := H.grow hb; clear hb
   refine ⟨_, rfl, ?_⟩
   clear F a; intro a F
   refine ePartO (by kernel_rfl) H ?_
   refine eNil (k := 9) (by kernel_rfl) ?_
   refine hK9 _ _ ?_; clear hK9
   refine cIf F rfl (fun h28 => ?_) (fun h28 => ?_)
   ·
    obtain ⟨kk, hix⟩ : ∃ k, idxOf (c.word u.pos) u.names 0 = some k := Option.isSome_iff_exists.1 h28
    refine cReg ?_
    refine sMv F rfl rfl rfl ?_;clear F a;intro a F
    refine sNc F rfl rfl rfl ?_;clear F a;intro a F
    refine sFa (f := 0) (k := 0) Try.underlying59 rfl Try.sizeOf57 rfl rfl F rfl rfl rfl ?_;clear F a;intro a F
    refine sCall Try.call27 F rfl rfl rfl (pplace_any (s := u) hc (by (try simp only [PS.next]); omega) H) ?_
    rintro e w ⟨rfl, H⟩
    refine ⟨_, rfl, ?_⟩
    clear F a; intro a F
    refine sCallP Try.call31 F rfl rfl rfl (fail_any _ 51 H) ?_
    rintro e w ⟨rfl, H⟩
    refine .inl ⟨_, rfl, ?_⟩
    exact And.intro F.nod (Ans.no (by rw [if_pos hw, ← heq, init_twice hix]; rfl) H.tail.tail.tail.tail)
   have hix : idxOf (c.word u.pos) u.names 0 = none := by simpa using h28
   refine wp_skip ?_
   refine hK8 _ _ ?_; clear hK8
   refine cSeq (fun K10 hK10 => ?_)
   refine cReg ?_
   refine sMv F rfl rfl rfl ?_;clear F a;intro a F
   refine sMv F rfl rfl rfl ?_;clear F a;intro a F
   refine sNc F rfl rfl rfl ?_;clear F a;intro a F
   refine sFa (f := 1) (k := 3) Try.underlying59 rfl Try.sizeOf29 rfl rfl F rfl rfl rfl ?_;clear F a;intro a F
   refine sLd Try.isAgg29 F rfl rfl rfl (H.cell 0 rfl rfl) ?_;clear F a;intro a F
   refine sCallP Try.call71 F rfl rfl rfl (ploc_any (s := u) hc (by (try simp only [PS.next]); omega) hu6 H) ?_
   rintro e w hq9
   rcases hq9.cases with ⟨p9, e9, hn39, rfl, H⟩ | ⟨v39, t39, hr39, rfl, B39, D39, H⟩
   ·
    refine .inl ⟨_, rfl, ?_⟩
    exact And.intro F.nod (Ans.no (by rw [if_pos hw, ← heq, init_one hix, hn39]; rfl) H.tail)
   obtain ⟨hn6, hp39⟩ := loc_six hu6 v39 t39 hr39; have hlt : u.pos < c.ts.length := by have := (locP_all v39 t39 hr39).1.le; omega
   refine .inr ⟨_, rfl, ?_⟩
   clear F a; intro a F
   refine sNil ?_
   refine hK10 _ _ ?_; clear hK10
   refine cSeq (fun K11 hK11 => ?_)
   refine cReg ?_
   refine sMv F rfl rfl rfl ?_;clear F a;intro a F
   refine sNc F rfl rfl rfl ?_;clear F a;intro a F
   refine sFa (f := 0) (k := 0) Try.underlying59 rfl Try.sizeOf57 rfl rfl F rfl rfl rfl ?_;clear F a;intro a F
   refine sCallP Try.call72 F rfl rfl rfl (psign_any [61] hc (by (try simp only [PS.next]); omega) H) ?_
   rintro e w hq9
   rcases hq9.cases with ⟨p9, e9, hn43, rfl, H⟩ | ⟨v43, t43, hr43, rfl, H⟩
   ·
    refine .inl ⟨_, rfl, ?_⟩
    exact And.intro F.nod (Ans.no (by rw [if_pos hw, ← heq, init_one hix, hr39]; show (signP c [61] t39).bind _ = _; rw [hn43]; rfl) H.tail.tail)
   obtain ⟨hg43, rfl⟩ := signP_all v43 t43 hr43; have hle43 := hg43.le
   refine .inr ⟨_, rfl, ?_⟩
   clear F a; intro a F
   refine sNil ?_
   refine hK11 _ _ ?_; clear hK11
   refine cRegR (by kernel_rfl) (fun w => ∃ cs, Blk w bp cs 59 ∧ cs[7]? = some (.slice JA ini.length JC)) ?_
   replace H := H.drew
   refine eTakeF (k := 0) (i := 0) rfl (by kernel_rfl) F rfl rfl rfl (fun w => rMv F rfl) (⟨_, H.blk 0 rfl, rfl⟩) (fun _ _ _ h => h) ?_;clear F a;intro a F
   refine eTakeF (k := 1) (i := 1) rfl (by kernel_rfl) F rfl rfl rfl (fun w => rMv F rfl) (⟨_, H.blk 0 rfl, rfl⟩) (fun _ _ _ h => h) ?_;clear F a;intro a F
   refine eTake (k := 2) (i := 2) rfl (by kernel_rfl) F rfl rfl rfl rfl (fun w H => rNc F rfl) (⟨_, H.blk 0 rfl, rfl⟩) (fun _ _ _ h => h) ?_;clear F a;intro a F
   refine eTakeF (k := 3) (i := 3) rfl (by kernel_rfl) F rfl rfl rfl (fun w => rFa (f := 3) (k := 5) Try.underlying59 rfl Try.sizeOf33 rfl rfl F rfl) (⟨_, H.blk 0 rfl, rfl⟩) (fun _ _ _ h => h) ?_;clear F a;intro a F
   refine eTakeF (k := 4) (i := 4) rfl (by kernel_rfl) F rfl rfl rfl (fun w => rFa (f := 2) (k := 7) Try.underlying33 rfl Try.sizeOf30 rfl rfl F rfl) (⟨_, H.blk 0 rfl, rfl⟩) (fun _ _ _ h => h) ?_;clear F a;intro a F
   refine eTake (k := 5) (i := 5) rfl (by kernel_rfl) F rfl rfl rfl rfl (fun w H => rLd Try.isAgg30 F rfl (Exists.elim H fun cs h => h.1.cell 7 h.2)) (⟨_, H.blk 0 rfl, rfl⟩) (fun _ _ _ h => h) ?_;clear F a;intro a F
   refine eTakeF (k := 6) (i := 6) rfl (by kernel_rfl) F rfl rfl rfl (fun w => rMv F rfl) (⟨_, H.blk 0 rfl, rfl⟩) (fun _ _ _ h => h) ?_;clear F a;intro a F
   refine eTake (k := 7) (i := 7) rfl (by kernel_rfl) F rfl rfl rfl rfl (fun w H => rNc F rfl) (⟨_, H.blk 0 rfl, rfl⟩) (fun _ _ _ h => h) ?_;clear F a;intro a F
   refine eTakeF (k := 8) (i := 8) rfl (by kernel_rfl) F rfl rfl rfl (fun w => rFa (f := 0) (k := 0) Try.underlying59 rfl Try.sizeOf57 rfl rfl F rfl) (⟨_, H.blk 0 rfl, rfl⟩) (fun _ _ _ h => h) ?_;clear F a;intro a F
   refine eOne (k := 9) (i := 9) rfl (by kernel_rfl) F rfl (oCallP Try.call73 F rfl rfl (pnum_any (s := t39.next) hc (by (try simp only [PS.next]); omega) H) ?_)
   rintro e w hq9
   rcases hq9.cases with ⟨p9, e9, hn53, rfl, H⟩ | ⟨v53, t53, hr53, rfl, H⟩
   ·
    refine .inl ⟨_, rfl, ?_⟩
    exact And.intro F.nod (Ans.no (by rw [if_pos hw, ← heq, init_one hix, hr39]; show (signP c [61] t39).bind _ = _; rw [hr43]; show (numQ c t39.next).bind _ = _; rw [hn53]; rfl) H.tail.tail)
   obtain ⟨hg53, rfl⟩ := numQ_all v53 t53 hr53; have hle53 := hg53.le
   refine .inr ⟨_, rfl, ?_⟩
   clear F a; intro a F
   refine eKeep (⟨_, H.blk 0 rfl, rfl⟩) ?_
   refine eOne (k := 10) (i := 10) rfl (by kernel_rfl) F rfl (oBs1 H Try.underlying30 Try.sizeOf5 Try.zeroValue5 rfl F rfl rfl rfl ?_)
   clear F a H; intro b54 a w F H
   refine eKeep (⟨_, H.blk 1 rfl, rfl⟩) ?_
   refine eOne (k := 11) (i := 11) rfl (by kernel_rfl) F rfl (oApp1 (bytes := 1) H 4 Try.underlying30 Try.typeInfo5 rfl rfl rfl rfl rfl rfl F rfl rfl rfl rfl (H.whole 0 rfl) rfl ?s1 ?s2 ?_)
   case s1 => first | rfl | (repeat (first | exact one_nil | (apply one_cons; · first | rfl | assumption | exact one_bif rfl rfl)))
   case s2 => (simp only [iniC, List.length_map]; omega)
   clear F a H; intro A55 c55 a w F H
   refine ePartO (by kernel_rfl) H ?_
   refine eTake (k := 12) (i := 12) rfl (by kernel_rfl) F rfl rfl rfl rfl (fun w H => rNc F rfl) H (fun _ _ _ h => h) ?_;clear F a;intro a F
   refine eTakeF (k := 13) (i := 13) rfl (by kernel_rfl) F rfl rfl rfl (fun w => rFa (f := 3) (k := 5) Try.underlying59 rfl Try.sizeOf33 rfl rfl F rfl) H (fun _ _ _ h => h) ?_;clear F a;intro a F
   refine eTakeF (k := 14) (i := 14) rfl (by kernel_rfl) F rfl rfl rfl (fun w => rFa (f := 2) (k := 7) Try.underlying33 rfl Try.sizeOf30 rfl rfl F rfl) H (fun _ _ _ h => h) ?_;clear F a;intro a F
   refine eOne (k := 15) (i := 15) rfl (by kernel_rfl) F rfl (oSt H 1 Try.sizeOf30 F rfl rfl rfl rfl rfl ?_)
   clear H; intro w H
   refine ePartO (by kernel_rfl) H ?_
   refine eNil (k := 16) (by kernel_rfl) ?_
   rw [iniC_snoc, iniC_length] at H
   replace H : Own W none w (.blk bp (parC c A C t39.next.next B39 D39 [.string q.name, L, .slice A55 (ini ++ [v53]).length c55, K, aq, a1, a2, a3, a4, a5, .int .i64 (q.wh : Int), qy]) 59 :: .held S A 3 (rowsT c.ts) :: .nms W c.fixed B39 D39 t39.names :: .rws 5 1 (.slice A55 (ini ++ [v53]).length c55) (iniC (ini ++ [v53])) :: rs) := H.tail
   refine hK7 _ _ ?_; clear hK7
   refine cReg ?_
   refine sMv F rfl rfl rfl ?_;clear F a;intro a F
   refine sNc F rfl rfl rfl ?_;clear F a;intro a F
   refine sFa (f := 0) (k := 0) Try.underlying59 rfl Try.sizeOf57 rfl rfl F rfl rfl rfl ?_;clear F a;intro a F
   refine sCall Try.call47 F rfl rfl rfl (pends_any (s := t39.next.next) hc (by (try simp only [PS.next]); omega) H) ?_
   rintro e w ⟨rfl, H⟩
   refine ⟨_, rfl, ?_⟩
   clear F a; intro a F
   refine sNot F rfl rfl rfl ?_;clear F a;intro a F
   refine sAs F rfl rfl rfl ?_;clear F a;intro a F
   refine sNil ?_
   have hstep : initL c (g + 1) { q with init := ini } u = if c.kind t39.next.next.pos = 4 then .ok { q with init := ini ++ [v53], wh := 2 } t39.next.next else initL c g { q with init := ini ++ [v53] } t39.next.next := by
     rw [init_one hix, hr39]
     show (signP c [61] t39).bind _ = _
     rw [hr43]
     show (numQ c t39.next).bind _ = _
     rw [hr53]
     rfl
   rw [hstep] at heq
   by_cases h4 : c.kind t39.next.next.pos = 4
   · rw [if_pos h4] at heq
     rw [show decide (c.kind t39.next.next.pos = 4) = true from decide_eq_true h4] at F
     exact ⟨_, Nat.succ_pos _, _, ⟨0, false, ini ++ [v53], t39.next.next, _, _, _, _, rfl, rfl, (fun e => by cases e), (fun _ => heq.symm), by simp only [PS.next]; simp only [PS.next] at hle53; omega, hn6, by rw [List.length_append, List.length_singleton]; simp only [PS.next]; omega, H⟩, F.to (by repeat (first | exact trivial | refine Le.cons rfl ?_))⟩
   · rw [if_neg h4] at heq
     rw [show decide (c.kind t39.next.next.pos = 4) = false from decide_eq_false h4] at F
     exact ⟨_, Nat.lt_succ_self _, _, ⟨g, true, ini ++ [v53], t39.next.next, _, _, _, _, rfl, rfl, (fun _ => ⟨heq, by simp only [PS.next]; omega⟩), (fun e => by cases e), by simp only [PS.next]; simp only [PS.next] at hle53; omega, hn6, by rw [List.length_append, List.length_singleton]; simp only [PS.next]; omega, H⟩, F.to (by repeat (first | exact trivial | refine Le.cons rfl ?_))⟩
  obtain rfl : mo = false := h14
  have hdone := hF rfl
  refine wp_exit ?_
  refine hK3 _ _ ?_; clear hK3
  refine cReg ?_
  refine sMv F rfl rfl rfl ?_;clear F a;intro a F
  refine sNc F rfl rfl rfl ?_;clear F a;intro a F
  refine sFa (f := 4) (k := 15) Try.underlying59 rfl Try.sizeOf3 rfl rfl F rfl rfl rfl ?_;clear F a;intro a F
  refine sSt H 0 Try.sizeOf3 F rfl rfl rfl rfl rfl rfl ?_
  clear H; intro w H
  refine sNil ?_
  first | refine bEnd Try.results56 F ?_ | (simp only [Exit.then, Exit.inBlock, if_true]; (repeat (first | rw [if_pos rfl] | rw [if_neg (by decide)])); refine bEnd Try.results56 F ?_)
  exact Ans.ok (v := { q with init := ini, wh := 2 }) (by rw [if_pos hw]; exact hdone) ⟨rfl, rfl, _, _, _, _, H⟩
end Go.Proofs.Ytbdjlmdejlklkaa
