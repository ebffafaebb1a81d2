/-
  WALK2. Package print: Print. Conditions: the program lies in memory; the laid table of powers of ten.
-/
import Derived.Test.YtkchaoajegkadaaGreatDoorJn7
import Derived.Test.YtkchaoajegkadaaGreatDoorJn9
import Derived.Test.YtkchaoajegkadaaGreatDoorJn10
import Derived.Test.YtkchaoajegkadaaGreatDoorJn18
import Derived.Test.YtkchaoajegkadaaGreatDoorJn13
import Derived.Test.YtkchaoajegkadaaGreatDoorJn14
import Derived.Test.YtkchaoajegkadaaGreatDoorJn1
import Derived.Test.YtkchaoajegkadaaGreatDoorJn2
set_option linter.unusedSimpArgs false
set_option linter.unusedVariables false
namespace Go.Proofs.YtkchaoajegkadaaGreatDoor
-- WrO
open Go.Proofs.Tryz
open Go.RowKit
set_option maxRecDepth 100000
def PrintAns (p : Prg) (s : ByteArray) (n : Int) : Prop :=
  16384 < (printT p).length ∧ s = ⟨#[]⟩ ∧ n = 3 ∨ (printT p).length ≤ 16384 ∧ parseT (mk (printT p)) ≠ .inr p ∧ s = ⟨#[]⟩ ∧ n = 2 ∨ (printT p).length ≤ 16384 ∧ parseT (mk (printT p)) = .inr p ∧ s = mk (printT p) ∧ n = 0
theorem wr_new {W w : World} {rs : List Res} {b : Nat} {lv : Value} (H : Own W none w (.blk b [.slice none 0 0, .bool false, .bool false, lv] 58 :: rs)) : WrAt W w (.nix :: rs) b lv ([], false) :=
  ⟨none, 0, [], false, false, ((H.void (.rws 5 1 (.slice none 0 0) (bytC [])) (show w.ownsRow 0 5 1 (.slice none 0 0) 0 [] from ⟨by simp, .inl ⟨rfl, rfl⟩⟩) (fun c hc => by cases (hc : (Value.slice none 0 0).ownBlock = some c))).nix.selT 3 [2, 1, 0] rfl rfl), Nat.zero_le _, .inl ⟨rfl, rfl, rfl⟩⟩
theorem bytC_one (l : List UInt8) : ∀ r ∈ bytC l, r.length = 1 := by
  intro r hr
  unfold bytC at hr
  obtain ⟨x, _, rfl⟩ := List.mem_map.1 hr
  rfl
set_option maxHeartbeats 8000000 in
theorem print_any {w0 : World} {cs : List Value} {p : Prg} {LA IA TA : Option Addr} {LC IC TC h : Nat} {ccs : List Value} (hp : ProgIn w0 cs p LA LC IA IC TA TC h ccs) (hs : ∀ s ∈ p.locs, s.size ≤ 140737488351232) (hn : p.name.size ≤ 140737488351232) (hT : TenAt w0) :
    Calls Tryz.prog 10 #[.agg cs.toArray] w0 fun e w' => (∃ s n, e = .returned (.tuple #[.string s, .int .i64 n]) ∧ PrintAns p s n) ∧ Below w0.heap.size w0 w' := by
  have hp0 := hp
  obtain ⟨a1, a2, a3, a4, a5, a6, a7, rfl⟩ := condShape hp.cond
  have hcs := hp.cs
  simp only [List.cons_append, List.nil_append] at hcs
  subst hcs
  have H := Own.start w0 none
  refine enterF func10 rfl ntmps10 rfl (fun a F => ?_);refine cSR fun K1 hK1=>?_;refine sBx H F rfl rfl rfl ?_;clear F a H; intro b1 a w F H;refine sAs F rfl rfl rfl (qAs rfl rfl rfl (qNK hK1 (qSR fun K2 hK2=>qFa (f := 1) (k := 1) underlying29 rfl sizeOf22 rfl rfl rfl rfl rfl (qLd isAgg22 rfl rfl rfl (H.cell 0 rfl rfl) (qBd (places := [(0, 3), (3, 1)]) zeroValue58 underlying58 (by kernel_rfl) rfl rfl rfl rfl ?_)))));clear hK1;clear F a;intro a F;refine sAl H zeroValue58 F rfl rfl ?_;clear F a H; intro b4 a w F H
  refine sSr H 0 ?si F rfl rfl rfl ?s1 rfl rfl ?_
  case si => exact info_size sizeOf58
  case s1 => first | rfl | (repeat (first | exact one_nil | (apply one_cons; · first | rfl | assumption | exact one_bif rfl rfl)))
  clear H; intro w H;refine nK hK2 (cSR fun K3 hK3=>?_);clear hK2
  refine sLr underlying29 rfl ?si F rfl rfl rfl (H.whole 1 rfl) ?_
  case si => exact info_size sizeOf29
  clear F a; intro a F;refine sCall call23 F rfl rfl rfl (program_any hp0 hs hn hT (wr_new H)) ?_;rintro e w ⟨rfl, hW⟩
  obtain ⟨A, C, tx, wi, lg, H, ht, hv⟩ := hW
  rw [progV_eq] at hv;refine ⟨_, rfl, ?_⟩;clear F a; intro a F;refine nK hK3 ?_;clear hK3;refine cSeq (fun K4 hK4 => ?_);refine cSR fun K5 hK5=>sFa (f := 0) (k := 0) underlying58 rfl sizeOf56 rfl rfl F rfl rfl rfl (qFa (f := 2) (k := 2) underlying56 rfl sizeOf4 rfl rfl rfl rfl rfl (qLd isAgg4 rfl rfl rfl (H.cell 0 rfl rfl) (qNK hK5 ?_)));clear hK5;clear F a;intro a F
  refine cIf F rfl (fun h16 => ?_) (fun h16 => ?_)
  ·
   have hlg : lg = true := h16
   subst hlg;refine cSR fun K6 hK6=>sAs F rfl rfl rfl (qAs rfl rfl rfl (qNK hK6 ?_));clear hK6;clear F a;intro a F;refine wp_ret ?_;simp only [Exit.then];refine bRet2 results10 F rfl rfl ?_
   first
   | (rcases hv with ⟨h, _⟩ | ⟨_, h⟩
      · cases h
      · exact ⟨⟨_, _, rfl, .inl ⟨h, rfl, rfl⟩⟩, H.below⟩)
   | exact ⟨⟨_, _, rfl, .inr (.inl ⟨ht, fun e => h29 (pparse_in hpp e).2.2, rfl, rfl⟩)⟩, H.below⟩
   | (have hne : parseT (mk (printT p)) ≠ .inr p := by
        intro e
        rw [hpt] at e
        have e2 : p = p2 := (Sum.inr.inj e).symm
        have hf : sb = false := h34
        rw [hsb.2 e2] at hf
        cases hf
      exact ⟨⟨_, _, rfl, .inr (.inl ⟨ht, hne, rfl, rfl⟩)⟩, H.below⟩)
   | exact ⟨⟨_, _, rfl, .inr (.inr ⟨ht, by rw [hpt, (hsb.1 (by first | exact h34 | simpa using h34)).symm], rfl, rfl⟩)⟩, H.below⟩
  have hlg : lg = false := h16
  subst hlg
  have htx : tx = printT p := by
    rcases hv with ⟨_, h, _⟩ | ⟨h, _⟩
    · exact h
    · cases h
  subst htx
  have hsz : (mk (printT p)).size = (printT p).length := mk_size _
  refine wp_skip (hK4 _ _ (cSR fun K7 hK7=>sFa (f := 0) (k := 0) underlying58 rfl sizeOf56 rfl rfl F rfl rfl rfl (qFa (f := 0) (k := 0) underlying56 rfl sizeOf23 rfl rfl rfl rfl rfl (qLd isAgg23 rfl rfl rfl (H.cell 0 rfl rfl) (qCvY (xs := printT p) underlying23 underlying5 underlying9 rfl rfl rfl rfl ((H.rowsAt 1 rfl (bytC_one _) (by decide))) (qAs rfl rfl rfl (qNK hK7 ?_)))))));clear hK4 hK7;clear F a;intro a F;refine cSeq (fun K8 hK8 => ?_);refine cSR fun K9 hK9=>sMv F rfl rfl rfl ?_;clear F a;intro a F;refine sCall call11 F rfl rfl rfl (pparse2_any (mk (printT p)) (by simp only [maxLen]; omega) H) ?_;rintro e w ⟨p2, pl, er, mm, rfl, hh2, H, hpp⟩;refine ⟨_, rfl, ?_⟩;clear F a; intro a F;refine sMv F rfl rfl rfl (qExt rfl rfl rfl rfl (qExt rfl rfl rfl rfl (qExt rfl rfl rfl rfl ?_)));clear F a;intro a F;refine sAl H zeroValue29 F rfl rfl ?_;clear F a H; intro b6 a w F H
  refine sSr H 0 ?si F rfl rfl rfl ?s1 rfl rfl ?_
  case si => exact info_size sizeOf29
  case s1 => first | rfl | (repeat (first | exact one_nil | (apply one_cons; · first | rfl | assumption | exact one_bif rfl rfl)))
  clear H; intro w H;refine sAs F rfl rfl rfl (qAs rfl rfl rfl (qNK hK9 (qSR fun K10 hK10=>qMv rfl rfl rfl (qBin rfl rfl rfl rfl bNeq (qMv rfl rfl rfl ?_)))));clear hK9;clear F a;intro a F
  refine F.split 29 rfl ?_ ?_ <;> (clear F; intro h29 F)
  ·
   replace h29 := bneT h29;refine sSk F rfl rfl (qSk rfl rfl (qSk rfl rfl (qSk rfl rfl (qPk rfl rfl rfl rfl (qNK hK10 ?_)))));clear hK10;clear F a;intro a F;refine cIfT F rfl ?_;refine cSR fun K11 hK11=>sAs F rfl rfl rfl (qAs rfl rfl rfl (qNK hK11 ?_));clear hK11;clear F a;intro a F;refine wp_ret ?_;simp only [Exit.then];refine bRet2 results10 F rfl rfl ?_
   first
   | (rcases hv with ⟨h, _⟩ | ⟨_, h⟩
      · cases h
      · exact ⟨⟨_, _, rfl, .inl ⟨h, rfl, rfl⟩⟩, H.below⟩)
   | exact ⟨⟨_, _, rfl, .inr (.inl ⟨ht, fun e => h29 (pparse_in hpp e).2.2, rfl, rfl⟩)⟩, H.below⟩
   | (have hne : parseT (mk (printT p)) ≠ .inr p := by
        intro e
        rw [hpt] at e
        have e2 : p = p2 := (Sum.inr.inj e).symm
        have hf : sb = false := h34
        rw [hsb.2 e2] at hf
        cases hf
      exact ⟨⟨_, _, rfl, .inr (.inl ⟨ht, hne, rfl, rfl⟩)⟩, H.below⟩)
   | exact ⟨⟨_, _, rfl, .inr (.inr ⟨ht, by rw [hpt, (hsb.1 (by first | exact h34 | simpa using h34)).symm], rfl, rfl⟩)⟩, H.below⟩
  replace h29 := bneF h29
  have hpt : parseT (mk (printT p)) = .inr p2 := by
    rcases hpp with ⟨_, h, _⟩ | ⟨h, _⟩
    · exact absurd h29 h
    · exact h
  refine sLr underlying29 rfl ?si F rfl rfl rfl (H.whole 5 rfl) ?_
  case si => exact info_size sizeOf29
  clear F a; intro a F
  refine sLr underlying29 rfl ?si F rfl rfl rfl (H.whole 0 rfl) ?_
  case si => exact info_size sizeOf29
  clear F a; intro a F;refine sCall call24 F rfl rfl rfl (samePP_any _ _ p p2 _ _ _ _ _ _ _ _ _ _ _ _ _ _ _ _ _ (hp0.own H) (progIn_of (H.prw 1 rfl) (psz_of hpt))) ?_;rintro e w ⟨⟨sb, rfl, hsb⟩, hb⟩;replace H := H.grow hb; clear hb;refine ⟨_, rfl, ?_⟩;clear F a; intro a F;refine sNot F rfl rfl rfl (qPk rfl rfl rfl rfl (qNK hK10 ?_));clear hK10;clear F a;intro a F
  refine cIf F rfl (fun h34 => ?_) (fun h34 => ?_)
  ·
   replace h34 := notT h34;refine cSR fun K12 hK12=>sAs F rfl rfl rfl (qAs rfl rfl rfl (qNK hK12 ?_));clear hK12;clear F a;intro a F;refine wp_ret ?_;simp only [Exit.then];refine bRet2 results10 F rfl rfl ?_
   first
   | (rcases hv with ⟨h, _⟩ | ⟨_, h⟩
      · cases h
      · exact ⟨⟨_, _, rfl, .inl ⟨h, rfl, rfl⟩⟩, H.below⟩)
   | exact ⟨⟨_, _, rfl, .inr (.inl ⟨ht, fun e => h29 (pparse_in hpp e).2.2, rfl, rfl⟩)⟩, H.below⟩
   | (have hne : parseT (mk (printT p)) ≠ .inr p := by
        intro e
        rw [hpt] at e
        have e2 : p = p2 := (Sum.inr.inj e).symm
        have hf : sb = false := h34
        rw [hsb.2 e2] at hf
        cases hf
      exact ⟨⟨_, _, rfl, .inr (.inl ⟨ht, hne, rfl, rfl⟩)⟩, H.below⟩)
   | exact ⟨⟨_, _, rfl, .inr (.inr ⟨ht, by rw [hpt, (hsb.1 (by first | exact h34 | simpa using h34)).symm], rfl, rfl⟩)⟩, H.below⟩
  replace h34 := notF h34;refine wp_skip (hK8 _ _ (cSR fun K13 hK13=>sMv F rfl rfl rfl (qAs rfl rfl rfl (qAs rfl rfl rfl (qNK hK13 ?_)))));clear hK8 hK13;clear F a;intro a F;refine wp_ret ?_;refine bRet2 results10 F rfl rfl ?_
  first
  | (rcases hv with ⟨h, _⟩ | ⟨_, h⟩
     · cases h
     · exact ⟨⟨_, _, rfl, .inl ⟨h, rfl, rfl⟩⟩, H.below⟩)
  | exact ⟨⟨_, _, rfl, .inr (.inl ⟨ht, fun e => h29 (pparse_in hpp e).2.2, rfl, rfl⟩)⟩, H.below⟩
  | (have hne : parseT (mk (printT p)) ≠ .inr p := by
       intro e
       rw [hpt] at e
       have e2 : p = p2 := (Sum.inr.inj e).symm
       have hf : sb = false := h34
       rw [hsb.2 e2] at hf
       cases hf
     exact ⟨⟨_, _, rfl, .inr (.inl ⟨ht, hne, rfl, rfl⟩)⟩, H.below⟩)
  | exact ⟨⟨_, _, rfl, .inr (.inr ⟨ht, by rw [hpt, (hsb.1 (by first | exact h34 | simpa using h34)).symm], rfl, rfl⟩)⟩, H.below⟩
-- PzQ
open Go.RowKit
set_option maxRecDepth 100000
section
variable {c : PX}
theorem skip_near {s : PS} : (skipP c s).All fun _ t => t.pos ≤ s.pos + 20 := by
  unfold skipP failP
  refine numQ_all.bind fun n s1 _ h1 => .ite (fun _ => argP_all.bind fun x s2 _ h2 => ?_) (fun _ => .no)
  cases testP c s2 with
  | none => exact .no
  | some f =>
    refine argP_all.bind fun y s3 _ h3 => .ok ?_
    have e1 := congrArg PS.pos h1.2
    have e2 := congrArg PS.pos h2.2.1
    have e3 := congrArg PS.pos h3.2.1
    simp only [PS.next] at e1 e2 e3
    omega
theorem store_near {s : PS} : (storeP c s).All fun _ t => t.pos ≤ s.pos + 20 := by
  unfold storeP
  refine locP_all.bind fun k s1 _ h1 => signP_all.bind fun _ s2 _ h2 => argP_all.bind fun x s3 _ h3 => ?_
  have e1 := h1.2.1
  have e2 := congrArg PS.pos h2.2
  have e3 := congrArg PS.pos h3.2.1
  simp only [PS.next] at e1 e2 e3
  exact .ite (fun _ => .ok (by simp only [PS.next]; omega)) (fun _ => .ok (by omega))
theorem move_near {d : UInt8} {s : PS} : (moveP' c d s).All fun _ t => t.pos ≤ s.pos + 5 := by
  unfold moveP' failP
  refine argP_all.bind fun x s1 _ h1 => ?_
  cases fnP c s1 with
  | none => exact .no
  | some f =>
    refine argP_all.bind fun y s2 _ h2 => .ok ?_
    have e1 := congrArg PS.pos h1.2.1
    have e2 := congrArg PS.pos h2.2.1
    simp only [PS.next] at e1 e2
    omega
theorem assign_near {s : PS} : (assignP c s).All fun _ t => t.pos ≤ s.pos + 20 := by
  unfold assignP
  refine regQ_all.bind fun d s1 _ h1 => signP_all.bind fun _ s2 _ h2 => ?_
  have e1 := congrArg PS.pos h1.2.1
  have e2 := congrArg PS.pos h2.2
  simp only [PS.next] at e1 e2
  have two : (locP c s2.next).All fun _ t => t.pos = s2.pos + 2 := locP_all.imp fun _ t h => by have := h.2.1; simp only [PS.next] at this; omega
  refine .ite (fun _ => two.bind fun k s3 _ h3 => argP_all.bind fun x s4 _ h4 => .ok ?_) (fun _ => .ite (fun _ => two.bind fun k s3 _ h3 => argP_all.bind fun x s4 _ h4 => .ok ?_) (fun _ => .ite (fun _ => two.bind fun k s3 _ h3 => argP_all.bind fun x s4 _ h4 => argP_all.bind fun y s5 _ h5 => .ok ?_) (fun _ => .ite (fun _ => locP_all.bind fun k s3 _ h3 => ?_) (fun _ => move_near.imp fun _ t h => by omega))))
  · have e4 := congrArg PS.pos h4.2.1; simp only [PS.next] at e4; omega
  · have e4 := congrArg PS.pos h4.2.1; simp only [PS.next] at e4; omega
  · have e4 := congrArg PS.pos h4.2.1; have e5 := congrArg PS.pos h5.2.1; simp only [PS.next] at e4 e5; omega
  · have e3 := h3.2.1
    exact .ite (fun _ => .ok (by simp only [PS.next]; omega)) (fun _ => .ok (by omega))
theorem ins_near {k : Nat} {s : PS} : (insP c k s).All fun _ t => t.pos ≤ s.pos + 20 := by
  unfold insP
  refine .ite (fun _ => ?_) (fun _ => .ite (fun _ => skip_near) (fun _ => .ite (fun _ => assign_near) (fun _ => store_near)))
  unfold fenceP
  exact .ite (fun _ => .ok (by simp only [PS.next]; omega)) (fun _ => .ite (fun _ => .ok (by simp only [PS.next]; omega)) (fun _ => .ok (by simp only [PS.next]; omega)))
theorem lineI_sim {d : PX} (h : SameX c d) (s : PS) : Sim c d Eq (lineI c s) (lineI d s) := by
  unfold lineI
  rw [may_sim h, start_sim h, h.len]
  exact .ite (fun _ => (ins_sim h _ _).bindE fun x t => (end_sim h t).bindE fun _ u => .ite (fun _ => .fail) (fun _ => .eq)) (fun _ => .fail)
theorem line_ne {s : PS} {p e : Nat} (h : lineI c s = .no p e) : e ≠ 0 := by
  have := lineI_sim (sameX_refl c) s
  rw [h] at this
  exact this.1.2
variable {s : PS} {v : Ins} {t : PS}
theorem line_no0 (h : mayP c s.pos = false) : lineI c s = .no (c.place s.pos) 50 := by unfold lineI; rw [if_neg (by rw [h]; exact Bool.false_ne_true)]; rfl
theorem line_no1 {p e : Nat} (hm : mayP c s.pos = true) (h : insP c (startP c s.pos) s = .no p e) : lineI c s = .no p e := by unfold lineI; rw [if_pos hm, h]; rfl
theorem line_no2 {p e : Nat} (hm : mayP c s.pos = true) (h : insP c (startP c s.pos) s = .ok v t) (h2 : endP c t = .no p e) : lineI c s = .no p e := by unfold lineI; rw [if_pos hm, h]; show (endP c t).bind _ = _; rw [h2]; rfl
theorem line_then {u : PS} {x : Unit} (hm : mayP c s.pos = true) (h : insP c (startP c s.pos) s = .ok v t) (h2 : endP c t = .ok x u) : lineI c s = if u.pos < c.ts.length then failP c u 50 else .ok v u := by unfold lineI; rw [if_pos hm, h]; show (endP c t).bind _ = _; rw [h2]; rfl
end
def lineT (s : ByteArray) (names : List ByteArray) : (Nat × Int) ⊕ Ins := RunR s (lineI (pxOf s true) ⟨0, names⟩)
theorem len10 : ∀ {l : List Value}, l.length = 10 → ∃ y1 y2 y3 y4 y5 y6 y7 y8 y9 y10, l = [y1, y2, y3, y4, y5, y6, y7, y8, y9, y10]
  | [a, b, c, d, e, f, g, h, i, j], _ => ⟨a, b, c, d, e, f, g, h, i, j, rfl⟩
set_option maxHeartbeats 4000000 in
theorem pline1_any {W w0 : World} {rs : List Res} {c : PX} (hc : c.Ok) (hm : c.ts.length ≤ 900000) (hf : c.fixed = true) {A : Option Addr} {C bp b6 b7 bw : Nat} {S : Nat → Prop} {names : List ByteArray} {B : Option Addr} {D : Nat} (hN : StrsAt W B names) (hn : names.length ≤ 1000)
    (H : Own W none w0 (.blk bp (parC c A C ⟨0, names⟩ B D zX) 66 :: .held S A 3 (rowsT c.ts) :: .blk b6 [.int .i64 (0 : Int)] 3 :: .blk b7 [.int .i64 (0 : Int)] 33 :: .room bw 10 44 :: rs)) :
    Calls Tryz.prog 62 #[.pointer (some ⟨bp, 0, none⟩), .pointer (some ⟨bw, 0, none⟩)] w0 fun e w' => Ans W (.blk b6 [.int .i64 (0 : Int)] 3 :: .blk b7 [.int .i64 (0 : Int)] 33 :: .room bw 10 44 :: rs) (lineI c ⟨0, names⟩) (fun v _ e w' => e = .returned (.tuple #[]) ∧
      Own W none w' (.blk b6 [.int .i64 (0 : Int)] 3 :: .blk b7 [.int .i64 (0 : Int)] 33 :: .blk bw v.cells 44 :: rs)) e w' := by
  have hlim : names.length ≤ c.lim := by unfold PX.lim; rw [hf]; exact hn
  have hnm : Res.nms W c.fixed B D names = ⟨fun _ => False, fun _ => RowsAt W B 1 (strC names), fun _ _ _ h => h⟩ := by unfold Res.nms; rw [hf]; rfl
  obtain ⟨ys, hy, H1⟩ := own_unRoom (H.selT 5 [4, 0, 1, 2, 3] rfl rfl)
  obtain ⟨y1, y2, y3, y4, y5, y6, y7, y8, y9, y10, rfl⟩ := len10 hy
  replace H := (H1.void (.nms W c.fixed B D names) (by rw [hnm]; exact hN) (by rw [hnm]; exact fun _ h => h)).selT 6 [2, 3, 0, 4, 5, 1] rfl rfl
  clear H1 hnm
  refine enterF Tryz.func62 rfl Tryz.ntmps62 rfl (fun a F => ?_);refine cSR fun K1 hK1=>sMv F rfl rfl rfl ?_;clear F a;intro a F;refine sCall Tryz.call63 F rfl rfl rfl (pstart_any (s := ⟨0, names⟩) hc (Nat.zero_le _) H) ?_;rintro e w ⟨rfl, H⟩;refine ⟨_, rfl, ?_⟩;clear F a; intro a F;refine sMv F rfl rfl rfl (qExt rfl rfl rfl rfl (qExt rfl rfl rfl rfl (qAs rfl rfl rfl (qAs rfl rfl rfl (qNK hK1 (qSR fun K2 hK2=>qMv rfl rfl rfl (qMv rfl rfl rfl ?_)))))));clear hK1;clear F a;intro a F;refine sCallP Tryz.call64 F rfl rfl rfl (pneed_any _ hc (s := ⟨0, names⟩) (Nat.zero_le _) H) ?_;rintro e w hq9
  rcases hq9.cases with ⟨p9, e9, hn12, rfl, H⟩ | ⟨v12, t12, hr12, rfl, H⟩
  ·
   refine .inl ⟨_, rfl, ?_⟩
   obtain ⟨h1, rfl, rfl⟩ := need_no hn12; exact And.intro F.nod (Ans.no (line_no0 h1) (own_room (H.selT 4 [1, 2, 3] rfl rfl) rfl))
  obtain ⟨hmay, rfl⟩ := need_ok hr12
  refine .inr ⟨_, rfl, ?_⟩
  clear F a; intro a F;refine nK hK2 (cSR fun K3 hK3=>sMv F rfl rfl rfl (qMv rfl rfl rfl ?_));clear hK2;clear F a;intro a F;refine sCallVP F rfl rfl rfl rfl (pins_any (startP c 0) (s := ⟨0, names⟩) hc (Nat.zero_le _) hlim H) ?_;rintro e w hq9
  rcases hq9.cases with ⟨p9, e9, hn15, rfl, H⟩ | ⟨v15, t15, hr15, rfl, B15, D15, H⟩
  ·
   refine .inl ⟨_, rfl, ?_⟩
   exact And.intro F.nod (Ans.no (line_no1 hmay hn15) (own_room H rfl))
  have hle15 : t15.pos ≤ 0 + 20 := ins_near v15 t15 hr15
  refine .inr ⟨_, rfl, ?_⟩
  clear F a; intro a F
  refine sSr H 5 ?si F rfl rfl rfl ?s1 rfl rfl ?_
  case si => exact info_size Tryz.sizeOf44
  case s1 => first | rfl | (repeat (first | exact one_nil | (apply one_cons; · first | rfl | assumption | exact one_bif rfl rfl)))
  clear H; intro w H;refine nK hK3 (cSR fun K4 hK4=>sMv F rfl rfl rfl (qNc rfl rfl rfl (qFa (f := 0) (k := 0) Tryz.underlying66 rfl Tryz.sizeOf64 rfl rfl rfl rfl rfl ?_)));clear hK3;clear F a;intro a F;refine sCallP Tryz.call56 F rfl rfl rfl (pend_any (s := t15) hc (by omega) H) ?_;rintro e w hq9
  rcases hq9.cases with ⟨p9, e9, hn19, rfl, H⟩ | ⟨v19, t19, hr19, rfl, H⟩
  ·
   refine .inl ⟨_, rfl, ?_⟩
   exact And.intro F.nod (Ans.no (line_no2 hmay hr15 hn19) (own_room (H.selT 4 [1, 2, 3] rfl rfl) rfl))
  obtain ⟨hg19, rfl⟩ := endP_all v19 t19 hr19
  refine .inr ⟨_, rfl, ?_⟩
  clear F a; intro a F;refine nK hK4 (cReg (sMv F rfl rfl rfl (qNc rfl rfl rfl (qFa (f := 0) (k := 0) Tryz.underlying66 rfl Tryz.sizeOf64 rfl rfl rfl rfl rfl ?_))));clear hK4;clear F a;intro a F;refine sCallP Tryz.call57 F rfl rfl rfl (pfinish_any (s := t15.next) hc (by simp only [PS.next]; omega) H) ?_;rintro e w hq9
  rcases hq9.cases with ⟨p9, e9, hn23, rfl, H⟩ | ⟨v23, t23, hr23, rfl, H⟩
  ·
   refine .inl ⟨_, rfl, ?_⟩
   (have hx := hn23; split at hx); (rename_i h9; exact And.intro F.nod (Ans.no (by rw [line_then hmay hr15 hr19, if_pos h9]; unfold failP at hx ⊢; cases hx; rfl) (own_room (H.selT 4 [1, 2, 3] rfl rfl) rfl))); cases hx
  have hfin : ¬ t15.next.pos < c.ts.length := fun h => by rw [if_pos h] at hr23; cases hr23
  rw [if_neg hfin] at hr23
  cases hr23
  have hthen := line_then (v := v15) hmay hr15 hr19
  rw [if_neg hfin] at hthen
  refine .inr ⟨_, rfl, ?_⟩
  clear F a; intro a F;refine sNil ?_
  first | refine bEnd Tryz.results62 F ?_ | (simp only [Exit.then, Exit.inBlock, if_true]; (repeat (first | rw [if_pos rfl] | rw [if_neg (by decide)])); refine bEnd Tryz.results62 F ?_)
  exact Ans.ok (v := v15) hthen ⟨rfl, H.selT 6 [3, 4, 5] rfl rfl⟩
def LineG (bw : Nat) (rs : List Res) (v : Ins) (qs : List Res) : Prop := qs = .blk bw v.cells 44 :: rs
theorem line_read {W : World} {rs : List Res} (s : ByteArray) (bw : Nat) {names : List ByteArray} {B : Option Addr} {D : Nat} (hN : StrsAt W B names) (hn : names.length ≤ 1000) (hl : lexBad s = none) :
    ReadOk W (.room bw 10 44 :: rs) (pxOf s true) names B D (.func (.func 62) #[] #[.pointer (some ⟨bw, 0, none⟩)]) (lineI (pxOf s true) ⟨0, names⟩) (LineG bw rs) := by
  intro A C bp S w b6 b7 H
  refine ⟨_, [], [.pointer (some ⟨bw, 0, none⟩)], rfl, Tryz.call62, (pline1_any (px_ok true hl) (px_few true hl) rfl hN hn H).mono fun e w' h => h.imp id fun v t _ hk => ?_⟩
  obtain ⟨rfl, H⟩ := hk
  exact ⟨rfl, _, rfl, H⟩
theorem plineT_any {W w0 : World} {rs : List Res} (s : ByteArray) (hs : s.size ≤ maxLen) {names : List ByteArray} {B : Option Addr} {D : Nat} (hN : StrsAt W B names) (hn : names.length ≤ 1000) (H : Own W none w0 rs) :
    Calls Tryz.prog 32 #[.string s, .slice B names.length D] w0 fun e w' => ∃ (x : Ins) (pl : Nat) (er : Int), e = .returned (.tuple #[.agg x.cells.toArray, .int .i64 (pl : Int), .int .i64 er]) ∧
      Own W none w' rs ∧ ParsedAs zIns (lineT s names) x pl er := by
  refine enterF Tryz.func32 rfl Tryz.ntmps32 rfl (fun a F => ?_);refine cSR fun K1 hK1=>?_;refine sAl H Tryz.zeroValue44 F rfl rfl ?_;clear F a H; intro b4 a w F H;refine sAs F rfl rfl rfl (qAs rfl rfl rfl (qNK hK1 (qSR fun K2 hK2=>qMv rfl rfl rfl (qMv rfl rfl rfl (qBd (places := [(0, 3), (3, 1), (4, 1), (5, 10), (15, 1), (16, 1)]) Tryz.zeroValue66 Tryz.underlying66 (by kernel_rfl) rfl rfl rfl rfl (qFn rfl rfl rfl rfl ?_))))));clear hK1;clear F a;intro a F;refine sCall Tryz.call25 F rfl rfl rfl (prun_any s hs true names B D _ (lineI (pxOf s true) ⟨0, names⟩) (LineG b4 rs) (line_read s b4 hN hn) (own_toRoom H rfl)) ?_;rintro e w hq
  obtain ⟨pl, er, rfl, hx⟩ := runPost_of hq (runR_ne fun _ _ => line_ne)
  refine ⟨_, rfl, ?_⟩;clear F a; intro a F;refine sMv F rfl rfl rfl (qExt rfl rfl rfl rfl (qExt rfl rfl rfl rfl (qAs rfl rfl rfl (qAs rfl rfl rfl (qNK hK2 ?_)))));clear hK2;clear F a;intro a F;refine cSeq (fun K3 hK3 => ?_);refine cSR fun K4 hK4=>sMv F rfl rfl rfl (qBin rfl rfl rfl rfl bNeq (qNK hK4 ?_));clear hK4;clear F a;intro a F
  refine cIf F rfl (fun h16 => ?_) (fun h16 => ?_)
  ·
   replace h16 := bneT h16
   obtain ⟨_, hr, H⟩ : er ≠ 0 ∧ RunR s (lineI (pxOf s true) ⟨0, names⟩) = .inl (pl, er) ∧ Own W none w (.room b4 10 44 :: rs) := by
     rcases hx with hx | ⟨h, _⟩
     · exact hx
     · exact absurd h h16
   obtain ⟨ys, hy, H⟩ := own_unRoom H
   obtain ⟨y1, y2, y3, y4, y5, y6, y7, y8, y9, y10, rfl⟩ := len10 hy
   refine cSR fun K5 hK5=>sBd (places := [(0, 1), (1, 1), (2, 1), (3, 2), (5, 2), (7, 1), (8, 1), (9, 1)]) Tryz.zeroValue44 Tryz.underlying44 (by kernel_rfl) F rfl rfl rfl rfl (qMv rfl rfl rfl (qMv rfl rfl rfl ?_));clear F a;intro a F
   refine sSr H 0 ?si F rfl rfl rfl ?s1 rfl rfl ?_
   case si => exact info_size Tryz.sizeOf44
   case s1 => first | rfl | (repeat (first | exact one_nil | (apply one_cons; · first | rfl | assumption | exact one_bif rfl rfl)))
   clear H; intro w H;refine sAs F rfl rfl rfl (qAs rfl rfl rfl (qNK hK5 ?_));clear hK5;clear F a;intro a F;refine wp_ret ?_;simp only [Exit.then];refine bRetC2 Tryz.results32 F rfl rfl rfl Tryz.underlying44 rfl H 0 rfl Tryz.sizeOf44 rfl ?_
   first
   | exact ⟨zIns, pl, er, rfl, H.tail, .inl ⟨hr, h16, rfl⟩⟩
   | exact ⟨v, 0, 0, rfl, H.tail, .inr ⟨hr, rfl, rfl⟩⟩
  replace h16 := bneF h16
  obtain ⟨rfl, rfl, v, qs, hr, rfl, H⟩ : er = 0 ∧ pl = 0 ∧ ∃ v qs, RunR s (lineI (pxOf s true) ⟨0, names⟩) = .inr v ∧ LineG b4 rs v qs ∧ Own W none w qs := by
    rcases hx with ⟨h, _⟩ | hx
    · exact absurd h16 h
    · exact hx
  refine wp_skip (hK3 _ _ (cSR fun K6 hK6=>?_));clear hK3
  refine sLr Tryz.underlying44 rfl ?si F rfl rfl rfl (H.whole 0 rfl) ?_
  case si => exact info_size Tryz.sizeOf44
  clear F a; intro a F
  refine sSr H 0 ?si F rfl rfl rfl ?s1 rfl rfl ?_
  case si => exact info_size Tryz.sizeOf44
  case s1 => first | rfl | (repeat (first | exact one_nil | (apply one_cons; · first | rfl | assumption | exact one_bif rfl rfl)))
  clear H; intro w H;refine sAs F rfl rfl rfl (qAs rfl rfl rfl (qNK hK6 ?_));clear hK6;clear F a;intro a F;refine wp_ret ?_;refine bRetC2 Tryz.results32 F rfl rfl rfl Tryz.underlying44 rfl H 0 rfl Tryz.sizeOf44 rfl ?_
  first
  | exact ⟨zIns, pl, er, rfl, H.tail, .inl ⟨hr, h16, rfl⟩⟩
  | exact ⟨v, 0, 0, rfl, H.tail, .inr ⟨hr, rfl, rfl⟩⟩
-- WrP
open Go.Proofs.Tryz
open Go.RowKit
set_option maxRecDepth 100000
def condTx (locs : List ByteArray) (c : Cnd) : List UInt8 := (wordsW ([], false) (condWd locs c)).1
def CondAns (locs : List ByteArray) (c : Cnd) (s : ByteArray) (n : Int) : Prop :=
  16384 < (condTx locs c).length ∧ s = ⟨#[]⟩ ∧ n = 3 ∨ (condTx locs c).length ≤ 16384 ∧ condT (mk (condTx locs c)) locs ≠ .inr c ∧ s = ⟨#[]⟩ ∧ n = 2 ∨ (condTx locs c).length ≤ 16384 ∧ condT (mk (condTx locs c)) locs = .inr c ∧ s = mk (condTx locs c) ∧ n = 0
def insTx (locs : List ByteArray) (x : Ins) : List UInt8 := (wordsW ([], false) (insT locs x)).1
def LineAns (locs : List ByteArray) (x : Ins) (s : ByteArray) (n : Int) : Prop :=
  16384 < (insTx locs x).length ∧ s = ⟨#[]⟩ ∧ n = 3 ∨ (insTx locs x).length ≤ 16384 ∧ lineT (mk (insTx locs x)) locs ≠ .inr x ∧ s = ⟨#[]⟩ ∧ n = 2 ∨ (insTx locs x).length ≤ 16384 ∧ lineT (mk (insTx locs x)) locs = .inr x ∧ s = mk (insTx locs x) ∧ n = 0
theorem asParsed {α : Type} {z p q : α} {r : (Nat × Int) ⊕ α} {pl : Nat} {er : Int} (h : ParsedAs z r p pl er) (hq : r = .inr q) : p = q ∧ er = 0 := by
  rcases h with ⟨h1, _⟩ | ⟨h1, _, h3⟩
  · rw [hq] at h1; cases h1
  · rw [hq] at h1; cases h1; exact ⟨rfl, h3⟩
set_option maxHeartbeats 8000000 in
theorem condPr_any {w0 : World} {cs : List Value} {c : Cnd} {h : Nat} {locs : List ByteArray} {LA : Option Addr} {LC : Nat} (hc : CondAt w0 h cs c) (hN : StrsAt w0 LA locs) (hl : locs.length ≤ 1000) (hs : ∀ s ∈ locs, s.size ≤ 140737488351232) (hT : TenAt w0) :
    Calls Tryz.prog 15 #[.agg cs.toArray, .slice LA locs.length LC] w0 fun e w' => (∃ s n, e = .returned (.tuple #[.string s, .int .i64 n]) ∧ CondAns locs c s n) ∧ Below w0.heap.size w0 w' := by
  have hc0 := hc
  obtain ⟨a1, a2, a3, a4, a5, a6, a7, rfl⟩ := condShape hc
  have hR : Rd w0 .nix LA 1 (strC locs) := Rd.base .nix hN
  have H := Own.start w0 none
  refine enterF func15 rfl ntmps15 rfl (fun a F => ?_);refine cSR fun K1 hK1=>?_;refine sBx H F rfl rfl rfl ?_;clear F a H; intro b2 a w F H;refine sAs F rfl rfl rfl (qAs rfl rfl rfl (qNK hK1 (qSR fun K2 hK2=>qMv rfl rfl rfl (qBd (places := [(0, 3), (3, 1)]) zeroValue58 underlying58 (by kernel_rfl) rfl rfl rfl rfl ?_))));clear hK1;clear F a;intro a F;refine sAl H zeroValue58 F rfl rfl ?_;clear F a H; intro b6 a w F H
  refine sSr H 0 ?si F rfl rfl rfl ?s1 rfl rfl ?_
  case si => exact info_size sizeOf58
  case s1 => first | rfl | (repeat (first | exact one_nil | (apply one_cons; · first | rfl | assumption | exact one_bif rfl rfl)))
  clear H; intro w H;refine nK hK2 (cSR fun K3 hK3=>?_);clear hK2
  refine sLr underlying27 rfl ?si F rfl rfl rfl (H.whole 1 rfl) ?_
  case si => exact info_size sizeOf27
  clear F a; intro a F;refine sCall call33 F rfl rfl rfl (cond_of (by omega) hs hR hT h _ _ ([], false) _ c hc0 (wr_new H)) ?_;rintro e w ⟨rfl, hW⟩
  obtain ⟨A, C, tx, wi, lg, H, ht, hv⟩ := hW
  refine ⟨_, rfl, ?_⟩;clear F a; intro a F;refine nK hK3 ?_;clear hK3;refine cSeq (fun K4 hK4 => ?_);refine cSR fun K5 hK5=>sFa (f := 0) (k := 0) underlying58 rfl sizeOf56 rfl rfl F rfl rfl rfl (qFa (f := 2) (k := 2) underlying56 rfl sizeOf4 rfl rfl rfl rfl rfl (qLd isAgg4 rfl rfl rfl (H.cell 0 rfl rfl) (qNK hK5 ?_)));clear hK5;clear F a;intro a F
  refine cIf F rfl (fun h17 => ?_) (fun h17 => ?_)
  ·
   have hlg : lg = true := h17
   subst hlg;refine cSR fun K6 hK6=>sAs F rfl rfl rfl (qAs rfl rfl rfl (qNK hK6 ?_));clear hK6;clear F a;intro a F;refine wp_ret ?_;simp only [Exit.then];refine bRet2 results15 F rfl rfl ?_
   first
   | (rcases hv with ⟨h, _⟩ | ⟨_, h⟩
      · cases h
      · exact ⟨⟨_, _, rfl, .inl ⟨h, rfl, rfl⟩⟩, H.below⟩)
   | exact ⟨⟨_, _, rfl, .inr (.inl ⟨ht, fun e => h31 (asParsed hpp e).2, rfl, rfl⟩)⟩, H.below⟩
   | (have hne : condT (mk (condTx locs c)) locs ≠ .inr c := by
        intro e
        rw [hpt] at e
        have e2 : c = c2 := (Sum.inr.inj e).symm
        have hf : sb = false := h36
        rw [hsb.2 e2] at hf
        cases hf
      exact ⟨⟨_, _, rfl, .inr (.inl ⟨ht, hne, rfl, rfl⟩)⟩, H.below⟩)
   | exact ⟨⟨_, _, rfl, .inr (.inr ⟨ht, by rw [hpt, (hsb.1 (by first | exact h36 | simpa using h36)).symm], rfl, rfl⟩)⟩, H.below⟩
  have hlg : lg = false := h17
  subst hlg
  have htx : tx = condTx locs c := by
    rcases hv with ⟨_, h, _⟩ | ⟨h, _⟩
    · exact h
    · cases h
  subst htx
  have hsz : (mk (condTx locs c)).size = (condTx locs c).length := mk_size _
  refine wp_skip (hK4 _ _ (cSR fun K7 hK7=>sFa (f := 0) (k := 0) underlying58 rfl sizeOf56 rfl rfl F rfl rfl rfl (qFa (f := 0) (k := 0) underlying56 rfl sizeOf23 rfl rfl rfl rfl rfl (qLd isAgg23 rfl rfl rfl (H.cell 0 rfl rfl) (qCvY (xs := condTx locs c) underlying23 underlying5 underlying9 rfl rfl rfl rfl ((H.rowsAt 1 rfl (bytC_one _) (by decide))) (qAs rfl rfl rfl (qNK hK7 ?_)))))));clear hK4 hK7;clear F a;intro a F;refine cSeq (fun K8 hK8 => ?_);refine cSR fun K9 hK9=>sMv F rfl rfl rfl (qMv rfl rfl rfl ?_);clear F a;intro a F;refine sCall call34 F rfl rfl rfl (pcondT_any (mk (condTx locs c)) (by simp only [maxLen]; omega) hN hl H) ?_;rintro e w ⟨c2, pl, er, x1, x2, x3, x4, A2, n2, C2, S2, h2, rfl, hh2, H, hpp⟩;refine ⟨_, rfl, ?_⟩;clear F a; intro a F;refine sMv F rfl rfl rfl (qExt rfl rfl rfl rfl (qExt rfl rfl rfl rfl (qExt rfl rfl rfl rfl ?_)));clear F a;intro a F;refine sAl H zeroValue27 F rfl rfl ?_;clear F a H; intro b8 a w F H
  refine sSr H 0 ?si F rfl rfl rfl ?s1 rfl rfl ?_
  case si => exact info_size sizeOf27
  case s1 => first | rfl | (repeat (first | exact one_nil | (apply one_cons; · first | rfl | assumption | exact one_bif rfl rfl)))
  clear H; intro w H;refine sAs F rfl rfl rfl (qAs rfl rfl rfl (qNK hK9 (qSR fun K10 hK10=>qMv rfl rfl rfl (qBin rfl rfl rfl rfl bNeq (qMv rfl rfl rfl ?_)))));clear hK9;clear F a;intro a F
  refine F.split 31 rfl ?_ ?_ <;> (clear F; intro h31 F)
  ·
   replace h31 := bneT h31;refine sSk F rfl rfl (qSk rfl rfl (qSk rfl rfl (qSk rfl rfl (qPk rfl rfl rfl rfl (qNK hK10 ?_)))));clear hK10;clear F a;intro a F;refine cIfT F rfl ?_;refine cSR fun K11 hK11=>sAs F rfl rfl rfl (qAs rfl rfl rfl (qNK hK11 ?_));clear hK11;clear F a;intro a F;refine wp_ret ?_;simp only [Exit.then];refine bRet2 results15 F rfl rfl ?_
   first
   | (rcases hv with ⟨h, _⟩ | ⟨_, h⟩
      · cases h
      · exact ⟨⟨_, _, rfl, .inl ⟨h, rfl, rfl⟩⟩, H.below⟩)
   | exact ⟨⟨_, _, rfl, .inr (.inl ⟨ht, fun e => h31 (asParsed hpp e).2, rfl, rfl⟩)⟩, H.below⟩
   | (have hne : condT (mk (condTx locs c)) locs ≠ .inr c := by
        intro e
        rw [hpt] at e
        have e2 : c = c2 := (Sum.inr.inj e).symm
        have hf : sb = false := h36
        rw [hsb.2 e2] at hf
        cases hf
      exact ⟨⟨_, _, rfl, .inr (.inl ⟨ht, hne, rfl, rfl⟩)⟩, H.below⟩)
   | exact ⟨⟨_, _, rfl, .inr (.inr ⟨ht, by rw [hpt, (hsb.1 (by first | exact h36 | simpa using h36)).symm], rfl, rfl⟩)⟩, H.below⟩
  replace h31 := bneF h31
  have hpt : condT (mk (condTx locs c)) locs = .inr c2 := by
    rcases hpp with ⟨_, h, _⟩ | ⟨h, _⟩
    · exact absurd h31 h
    · exact h
  refine sLr underlying27 rfl ?si F rfl rfl rfl (H.whole 5 rfl) ?_
  case si => exact info_size sizeOf27
  clear F a; intro a F
  refine sLr underlying27 rfl ?si F rfl rfl rfl (H.whole 0 rfl) ?_
  case si => exact info_size sizeOf27
  clear F a; intro a F;refine sCall call35 F rfl rfl rfl (samePC_any h h2 _ _ c c2 _ (CondAt.grown H.grown rfl _ _ _ hc0) (H.pred 1 _ rfl : TreeIn S2 _ _ _ c2).at) ?_;rintro e w ⟨⟨sb, rfl, hsb⟩, hb⟩;replace H := H.grow hb; clear hb;refine ⟨_, rfl, ?_⟩;clear F a; intro a F;refine sNot F rfl rfl rfl (qPk rfl rfl rfl rfl (qNK hK10 ?_));clear hK10;clear F a;intro a F
  refine cIf F rfl (fun h36 => ?_) (fun h36 => ?_)
  ·
   replace h36 := notT h36;refine cSR fun K12 hK12=>sAs F rfl rfl rfl (qAs rfl rfl rfl (qNK hK12 ?_));clear hK12;clear F a;intro a F;refine wp_ret ?_;simp only [Exit.then];refine bRet2 results15 F rfl rfl ?_
   first
   | (rcases hv with ⟨h, _⟩ | ⟨_, h⟩
      · cases h
      · exact ⟨⟨_, _, rfl, .inl ⟨h, rfl, rfl⟩⟩, H.below⟩)
   | exact ⟨⟨_, _, rfl, .inr (.inl ⟨ht, fun e => h31 (asParsed hpp e).2, rfl, rfl⟩)⟩, H.below⟩
   | (have hne : condT (mk (condTx locs c)) locs ≠ .inr c := by
        intro e
        rw [hpt] at e
        have e2 : c = c2 := (Sum.inr.inj e).symm
        have hf : sb = false := h36
        rw [hsb.2 e2] at hf
        cases hf
      exact ⟨⟨_, _, rfl, .inr (.inl ⟨ht, hne, rfl, rfl⟩)⟩, H.below⟩)
   | exact ⟨⟨_, _, rfl, .inr (.inr ⟨ht, by rw [hpt, (hsb.1 (by first | exact h36 | simpa using h36)).symm], rfl, rfl⟩)⟩, H.below⟩
  replace h36 := notF h36;refine wp_skip (hK8 _ _ (cSR fun K13 hK13=>sMv F rfl rfl rfl (qAs rfl rfl rfl (qAs rfl rfl rfl (qNK hK13 ?_)))));clear hK8 hK13;clear F a;intro a F;refine wp_ret ?_;refine bRet2 results15 F rfl rfl ?_
  first
  | (rcases hv with ⟨h, _⟩ | ⟨_, h⟩
     · cases h
     · exact ⟨⟨_, _, rfl, .inl ⟨h, rfl, rfl⟩⟩, H.below⟩)
  | exact ⟨⟨_, _, rfl, .inr (.inl ⟨ht, fun e => h31 (asParsed hpp e).2, rfl, rfl⟩)⟩, H.below⟩
  | (have hne : condT (mk (condTx locs c)) locs ≠ .inr c := by
       intro e
       rw [hpt] at e
       have e2 : c = c2 := (Sum.inr.inj e).symm
       have hf : sb = false := h36
       rw [hsb.2 e2] at hf
       cases hf
     exact ⟨⟨_, _, rfl, .inr (.inl ⟨ht, hne, rfl, rfl⟩)⟩, H.below⟩)
  | exact ⟨⟨_, _, rfl, .inr (.inr ⟨ht, by rw [hpt, (hsb.1 (by first | exact h36 | simpa using h36)).symm], rfl, rfl⟩)⟩, H.below⟩
theorem own_ins1 {W w : World} {rs : List Res} {b : Nat} {bt : TypeId} {x : Ins} (H : Own W none w (.blk b x.cells bt :: rs)) : Own W none w (.held (· = b) (some ⟨b, 0, none⟩) 10 ([x].map Ins.cells) :: rs) := by
  have hb := H.whole 0 rfl
  exact H.seen (.held (· = b) (some ⟨b, 0, none⟩) 10 ([x].map Ins.cells)) (show ∀ (j : Nat) (cs : List Value), ([x].map Ins.cells)[j]? = some cs → ∃ b' off, some ⟨b, 0, none⟩ = some (⟨b', off, none⟩ : Addr) ∧ b' = b ∧ w.rangeAt b' (off + j * 10) cs from fun j cs hj => by
    have hj0 : j = 0 := by have := (List.getElem?_eq_some_iff.1 hj).1; simp at this; exact this
    subst hj0
    cases hj
    exact ⟨b, 0, rfl, rfl, hb⟩) (fun c hc => hc)
theorem wr_new1 {W w : World} {rs : List Res} {b b2 : Nat} {lv : Value} {bt : TypeId} {x : Ins} (H : Own W none w (.blk b2 x.cells bt :: .blk b [.slice none 0 0, .bool false, .bool false, lv] 58 :: rs)) : WrAt W w (.nix :: .held (· = b2) (some ⟨b2, 0, none⟩) 10 ([x].map Ins.cells) :: rs) b lv ([], false) :=
  wr_new ((own_ins1 H).selT 2 [1, 0] rfl rfl)
set_option maxHeartbeats 8000000 in
theorem linePr_any {w0 : World} (x : Ins) {locs : List ByteArray} {LA : Option Addr} {LC : Nat} (hN : StrsAt w0 LA locs) (hl : locs.length ≤ 1000) (hs : ∀ s ∈ locs, s.size ≤ 140737488351232) (hT : TenAt w0) :
    Calls Tryz.prog 14 #[.agg x.cells.toArray, .slice LA locs.length LC] w0 fun e w' => (∃ s n, e = .returned (.tuple #[.string s, .int .i64 n]) ∧ LineAns locs x s n) ∧ Below w0.heap.size w0 w' := by
  have hR : Rd w0 .nix LA 1 (strC locs) := Rd.base .nix hN
  have H := Own.start w0 none
  refine enterF func14 rfl ntmps14 rfl (fun a F => ?_);refine cSR fun K1 hK1=>?_;refine sBx H F rfl rfl rfl ?_;clear F a H; intro b2 a w F H;refine sAs F rfl rfl rfl (qAs rfl rfl rfl (qNK hK1 (qSR fun K2 hK2=>qMv rfl rfl rfl (qBd (places := [(0, 3), (3, 1)]) zeroValue58 underlying58 (by kernel_rfl) rfl rfl rfl rfl ?_))));clear hK1;clear F a;intro a F;refine sAl H zeroValue58 F rfl rfl ?_;clear F a H; intro b6 a w F H
  refine sSr H 0 ?si F rfl rfl rfl ?s1 rfl rfl ?_
  case si => exact info_size sizeOf58
  case s1 => first | rfl | (repeat (first | exact one_nil | (apply one_cons; · first | rfl | assumption | exact one_bif rfl rfl)))
  clear H; intro w H;refine nK hK2 (cSR fun K3 hK3=>?_);clear hK2
  refine sLr underlying44 rfl ?si F rfl rfl rfl (H.whole 1 rfl) ?_
  case si => exact info_size sizeOf44
  clear F a; intro a F;refine sBsA H underlying52 sizeOf44 zeroValue44 rfl F rfl rfl rfl rfl rfl ?_;clear F a H; intro b14 a w F H;refine sCall call31 F rfl rfl rfl (instrs_any [x] (Rd.held _ _ _ _ _) (by simp) (by omega) hs hR hT (v := ([], false)) (wr_new1 H)) ?_;rintro e w ⟨rfl, hW⟩
  obtain ⟨A, C, tx, wi, lg, H, ht, hv⟩ := hW
  refine ⟨_, rfl, ?_⟩;clear F a; intro a F;refine nK hK3 ?_;clear hK3;refine cSeq (fun K4 hK4 => ?_);refine cSR fun K5 hK5=>sFa (f := 0) (k := 0) underlying58 rfl sizeOf56 rfl rfl F rfl rfl rfl (qFa (f := 2) (k := 2) underlying56 rfl sizeOf4 rfl rfl rfl rfl rfl (qLd isAgg4 rfl rfl rfl (H.cell 0 rfl rfl) (qNK hK5 ?_)));clear hK5;clear F a;intro a F
  refine cIf F rfl (fun h18 => ?_) (fun h18 => ?_)
  ·
   have hlg : lg = true := h18
   subst hlg;refine cSR fun K6 hK6=>sAs F rfl rfl rfl (qAs rfl rfl rfl (qNK hK6 ?_));clear hK6;clear F a;intro a F;refine wp_ret ?_;simp only [Exit.then];refine bRet2 results14 F rfl rfl ?_
   first
   | (rcases hv with ⟨h, _⟩ | ⟨_, h⟩
      · cases h
      · exact ⟨⟨_, _, rfl, .inl ⟨h, rfl, rfl⟩⟩, H.below⟩)
   | exact ⟨⟨_, _, rfl, .inr (.inl ⟨ht, fun e => h32 (asParsed hpp e).2, rfl, rfl⟩)⟩, H.below⟩
   | (have hne : lineT (mk (insTx locs x)) locs ≠ .inr x := by
        intro e
        rw [hpt] at e
        have e2 : x = x2 := (Sum.inr.inj e).symm
        rw [e2, ceqI] at h36
        exact absurd h36 (by decide)
      exact ⟨⟨_, _, rfl, .inr (.inl ⟨ht, hne, rfl, rfl⟩)⟩, H.below⟩)
   | exact ⟨⟨_, _, rfl, .inr (.inr ⟨ht, by rw [hpt, ← ceq_ins (u := x) (v := x2) (by simpa using h36)], rfl, rfl⟩)⟩, H.below⟩
  have hlg : lg = false := h18
  subst hlg
  have htx : tx = insTx locs x := by
    rcases hv with ⟨_, h, _⟩ | ⟨h, _⟩
    · exact h
    · cases h
  subst htx
  have hsz : (mk (insTx locs x)).size = (insTx locs x).length := mk_size _
  refine wp_skip (hK4 _ _ (cSR fun K7 hK7=>sFa (f := 0) (k := 0) underlying58 rfl sizeOf56 rfl rfl F rfl rfl rfl (qFa (f := 0) (k := 0) underlying56 rfl sizeOf23 rfl rfl rfl rfl rfl (qLd isAgg23 rfl rfl rfl (H.cell 0 rfl rfl) (qCvY (xs := insTx locs x) underlying23 underlying5 underlying9 rfl rfl rfl rfl ((H.rowsAt 1 rfl (bytC_one _) (by decide))) (qAs rfl rfl rfl (qNK hK7 ?_)))))));clear hK4 hK7;clear F a;intro a F;refine cSeq (fun K8 hK8 => ?_);refine cSR fun K9 hK9=>sMv F rfl rfl rfl (qMv rfl rfl rfl ?_);clear F a;intro a F;refine sCall call32 F rfl rfl rfl (plineT_any (mk (insTx locs x)) (by simp only [maxLen]; omega) hN hl H) ?_;rintro e w ⟨x2, pl, er, rfl, H, hpp⟩;refine ⟨_, rfl, ?_⟩;clear F a; intro a F;refine sMv F rfl rfl rfl (qExt rfl rfl rfl rfl (qExt rfl rfl rfl rfl (qExt rfl rfl rfl rfl ?_)));clear F a;intro a F;refine sAl H zeroValue44 F rfl rfl ?_;clear F a H; intro b8 a w F H
  refine sSr H 0 ?si F rfl rfl rfl ?s1 rfl rfl ?_
  case si => exact info_size sizeOf44
  case s1 => first | rfl | (repeat (first | exact one_nil | (apply one_cons; · first | rfl | assumption | exact one_bif rfl rfl)))
  clear H; intro w H;refine sAs F rfl rfl rfl (qAs rfl rfl rfl (qNK hK9 (qSR fun K10 hK10=>qMv rfl rfl rfl (qBin rfl rfl rfl rfl bNeq (qMv rfl rfl rfl ?_)))));clear hK9;clear F a;intro a F
  refine F.split 32 rfl ?_ ?_ <;> (clear F; intro h32 F)
  ·
   replace h32 := bneT h32;refine sSk F rfl rfl (qSk rfl rfl (qSk rfl rfl (qPk rfl rfl rfl rfl (qNK hK10 ?_))));clear hK10;clear F a;intro a F;refine cIfT F rfl ?_;refine cSR fun K11 hK11=>sAs F rfl rfl rfl (qAs rfl rfl rfl (qNK hK11 ?_));clear hK11;clear F a;intro a F;refine wp_ret ?_;simp only [Exit.then];refine bRet2 results14 F rfl rfl ?_
   first
   | (rcases hv with ⟨h, _⟩ | ⟨_, h⟩
      · cases h
      · exact ⟨⟨_, _, rfl, .inl ⟨h, rfl, rfl⟩⟩, H.below⟩)
   | exact ⟨⟨_, _, rfl, .inr (.inl ⟨ht, fun e => h32 (asParsed hpp e).2, rfl, rfl⟩)⟩, H.below⟩
   | (have hne : lineT (mk (insTx locs x)) locs ≠ .inr x := by
        intro e
        rw [hpt] at e
        have e2 : x = x2 := (Sum.inr.inj e).symm
        rw [e2, ceqI] at h36
        exact absurd h36 (by decide)
      exact ⟨⟨_, _, rfl, .inr (.inl ⟨ht, hne, rfl, rfl⟩)⟩, H.below⟩)
   | exact ⟨⟨_, _, rfl, .inr (.inr ⟨ht, by rw [hpt, ← ceq_ins (u := x) (v := x2) (by simpa using h36)], rfl, rfl⟩)⟩, H.below⟩
  replace h32 := bneF h32
  have hpt : lineT (mk (insTx locs x)) locs = .inr x2 := by
    rcases hpp with ⟨_, h, _⟩ | ⟨h, _⟩
    · exact absurd h32 h
    · exact h
  refine sLr underlying44 rfl ?si F rfl rfl rfl (H.whole 5 rfl) ?_
  case si => exact info_size sizeOf44
  clear F a; intro a F
  refine sLr underlying44 rfl ?si F rfl rfl rfl (H.whole 0 rfl) ?_
  case si => exact info_size sizeOf44
  clear F a; intro a F;refine sBin F rfl rfl rfl rfl bNeI2 (qPk rfl rfl rfl rfl (qNK hK10 ?_));clear hK10;clear F a;intro a F
  refine cIf F rfl (fun h36 => ?_) (fun h36 => ?_)
  ·
   refine cSR fun K12 hK12=>sAs F rfl rfl rfl (qAs rfl rfl rfl (qNK hK12 ?_));clear hK12;clear F a;intro a F;refine wp_ret ?_;simp only [Exit.then];refine bRet2 results14 F rfl rfl ?_
   first
   | (rcases hv with ⟨h, _⟩ | ⟨_, h⟩
      · cases h
      · exact ⟨⟨_, _, rfl, .inl ⟨h, rfl, rfl⟩⟩, H.below⟩)
   | exact ⟨⟨_, _, rfl, .inr (.inl ⟨ht, fun e => h32 (asParsed hpp e).2, rfl, rfl⟩)⟩, H.below⟩
   | (have hne : lineT (mk (insTx locs x)) locs ≠ .inr x := by
        intro e
        rw [hpt] at e
        have e2 : x = x2 := (Sum.inr.inj e).symm
        rw [e2, ceqI] at h36
        exact absurd h36 (by decide)
      exact ⟨⟨_, _, rfl, .inr (.inl ⟨ht, hne, rfl, rfl⟩)⟩, H.below⟩)
   | exact ⟨⟨_, _, rfl, .inr (.inr ⟨ht, by rw [hpt, ← ceq_ins (u := x) (v := x2) (by simpa using h36)], rfl, rfl⟩)⟩, H.below⟩
  refine wp_skip (hK8 _ _ (cSR fun K13 hK13=>sMv F rfl rfl rfl (qAs rfl rfl rfl (qAs rfl rfl rfl (qNK hK13 ?_)))));clear hK8 hK13;clear F a;intro a F;refine wp_ret ?_;refine bRet2 results14 F rfl rfl ?_
  first
  | (rcases hv with ⟨h, _⟩ | ⟨_, h⟩
     · cases h
     · exact ⟨⟨_, _, rfl, .inl ⟨h, rfl, rfl⟩⟩, H.below⟩)
  | exact ⟨⟨_, _, rfl, .inr (.inl ⟨ht, fun e => h32 (asParsed hpp e).2, rfl, rfl⟩)⟩, H.below⟩
  | (have hne : lineT (mk (insTx locs x)) locs ≠ .inr x := by
       intro e
       rw [hpt] at e
       have e2 : x = x2 := (Sum.inr.inj e).symm
       rw [e2, ceqI] at h36
       exact absurd h36 (by decide)
     exact ⟨⟨_, _, rfl, .inr (.inl ⟨ht, hne, rfl, rfl⟩)⟩, H.below⟩)
  | exact ⟨⟨_, _, rfl, .inr (.inr ⟨ht, by rw [hpt, ← ceq_ins (u := x) (v := x2) (by simpa using h36)], rfl, rfl⟩)⟩, H.below⟩
-- KtB
open Go.RowKit
variable {P : Program} {l : List Oper} {Q : Exit → Act → World → Prop} {N : Nat} {a : Act} {env : List (Nat × Value)} {rest : List Oper} {d : Tmp} {ty : TypeId} {pos : String} {af : Array Edge} {g : Option (Nat × Bool)}
  {w0 w : World} {row : Option Nat} {rs : List Res} {Kt : Act → World → Prop}
theorem app_none {t e ty : TypeId} {i : TypeInfo} {size n c : Nat} {v : Value} {xs : List Value} (ht : P.underlying t = some (.slice e)) (hi : P.info? e = some i) (ho : w.ownsRow 0 e size v n xs) :
    (Builtin.append_ #[t, t] ty #[v, .slice none 0 c]).run P w = .ok v w := by
  rcases ho.2 with ⟨h1, h2⟩ | ⟨g, cap, cur, h1, _, _, hnc, _⟩
  · subst h1
    simp [Builtin.append_, run_underlying ht, sizeOf, typeInfo, hi, Builtin.lenOf, Builtin.firstCells]
  · subst h1
    simp [Builtin.append_, run_underlying ht, sizeOf, typeInfo, hi, Builtin.lenOf, Builtin.firstCells, hnc, storeCells]
theorem appO_run {t e : TypeId} {v : Value} {rows news : List (List Value)} {A0 : Option Addr} {m c : Nat} {ti : TypeInfo} {z : Value} {sz bytes : Nat} (H : Own w0 row w rs) (i : Nat) (ht : P.underlying t = some (.slice e))
    (hi : ∀ w, (typeInfo e).run P w = .ok ti w) (hz : ti.zero = some z) (hsize : ti.size = sz) (hby : ti.bytes = bytes) (hzs : z.cells.size = sz) (hsz : Nat.blt 0 sz = true) (hb1 : Nat.blt 0 bytes = true)
    (hr : rs[i]? = some (.rws e sz v rows)) (hm : news.length = m) (hnews : RowsAt w A0 sz news) (hl : ∀ r ∈ news, r.length = sz) (h1 : ∀ r ∈ news, r.all (·.oneCell') = true) (hb : (rows.length + m) * bytes ≤ 140737488355328) (ty : TypeId) :
    ∃ A c' w', (Builtin.append_ #[t, t] ty #[v, .slice A0 m c]).run P w = .ok (.slice A (rows ++ news).length c') w' ∧ Own w0 row w' (rs.set i (.rws e sz (.slice A (rows ++ news).length c') (rows ++ news))) := by
  cases A0 with
  | some ad => exact appM_run H i ht hi hz hsize hby hzs hsz hb1 hr hm (hnews.flat hl) hl h1 hb ty
  | none =>
    obtain rfl : news = [] := by
      cases news with
      | nil => rfl
      | cons r rs =>
        obtain ⟨b, o, he, _⟩ := hnews 0 r rfl
        cases he
    obtain rfl : 0 = m := hm
    have ho := H.arr i hr
    have h2 := app_none (ty := ty) (c := c) ht (info_of hi) ho
    obtain ⟨A, c', rfl⟩ : ∃ A c', v = .slice A rows.length c' := by
      rcases ho.2 with ⟨h2, h3⟩ | ⟨g, cap, cur, h2, _⟩
      · exact ⟨none, 0, by rw [h3]; exact h2⟩
      · exact ⟨_, cap, h2⟩
    have e2 : rs.set i (.rws e sz (.slice A rows.length c') rows) = rs := by
      obtain ⟨hi2, he⟩ := List.getElem?_eq_some_iff.1 hr
      rw [← he]
      exact List.set_getElem_self hi2
    refine ⟨A, c', w, ?_, ?_⟩
    · rw [List.append_nil]; exact h2
    · rw [List.append_nil, e2]; exact H
theorem oAppO {t e : TypeId} {s x : Operand} {v : Value} {rows news : List (List Value)} {A0 : Option Addr} {m c : Nat} {ti : TypeInfo} {z : Value} {sz bytes : Nat} (H : Own w0 row w rs) (i : Nat) (ht : P.underlying t = some (.slice e))
    (hi : ∀ w, (typeInfo e).run P w = .ok ti w) (hz : ti.zero = some z) (hsize : ti.size = sz) (hby : ti.bytes = bytes) (hzs : z.cells.size = sz) (hsz : Nat.blt 0 sz = true) (hb1 : Nat.blt 0 bytes = true)
    (F : Has N a env) (hN : Nat.blt d N = true) (hs : ev env s = some v) (hx : ev env x = some (.slice A0 m c))
    (hr : rs[i]? = some (.rws e sz v rows)) (hm : news.length = m) (hnews : RowsAt w A0 sz news) (hl : ∀ r ∈ news, r.length = sz) (h1 : ∀ r ∈ news, r.all (·.oneCell') = true) (hb : (rows.length + m) * bytes ≤ 140737488355328)
    (K : ∀ A c a w, Has N a ((d, .slice A (rows ++ news).length c) :: env) → Own w0 row w (rs.set i (.rws e sz (.slice A (rows ++ news).length c) (rows ++ news))) → Kt a w) :
    (Oper.mk (some d) (.call ⟨.builtin .append, #[s, x], #[t, t]⟩) ty pos af g).wp P a w Kt Q := by
  obtain ⟨A, c', w', h2, h3⟩ := appO_run (P := P) (c := c) H i ht hi hz hsize hby hzs hsz hb1 hr hm hnews hl h1 hb ty
  exact oV F rfl hN (app_exec (ty' := ty) F hs hx h2) (fun a F' => K A c' a w' F' h3)
-- DpC
-- CapC
open Go.RowKit

def CapAt (w : World) : Nat → List Value → Cnd → Prop
  | 0, _, _ => False
  | h + 1, cs, .mk k t n v kids => ∃ A C, cs = [b8 k, b8 t, b8 n, b8 v, .slice A kids.length C] ∧ kids.length ≤ C ∧ C ≤ 9223372036854775807 ∧
      ∀ j kid, kids[j]? = some kid → ∃ b off cs', A = some ⟨b, off, none⟩ ∧ w.rangeAt b (off + j * 5) cs' ∧ CapAt w h cs' kid
theorem CapAt.at {w : World} : ∀ {h : Nat} {cs : List Value} {c : Cnd}, CapAt w h cs c → CondAt w h cs c
  | 0, _, _, h => h
  | _ + 1, _, .mk _ _ _ _ _, ⟨A, C, h1, h2, h3, h4⟩ => ⟨A, C, h1, by omega, fun j kid hj => by
    obtain ⟨b, off, cs', h5, h6, h7⟩ := h4 j kid hj
    exact ⟨b, off, cs', h5, h6, h7.at⟩⟩
theorem CapAt.grown {w w' : World} {row : Option Nat} (hg : w.grownBy w' row) (hr : row = none) : ∀ (h : Nat) (cs : List Value) (c : Cnd), CapAt w h cs c → CapAt w' h cs c
  | 0, _, _, hc => hc
  | h + 1, cs, .mk k t n v kids, hc => by
    obtain ⟨A, C, h1, h2, h2', h3⟩ := hc
    refine ⟨A, C, h1, h2, h2', fun j kid hj => ?_⟩
    obtain ⟨b, off, cs', h4, h5, h6⟩ := h3 j kid hj
    exact ⟨b, off, cs', h4, fun i u hu => hg.cell (h5 i u hu) (by subst hr; simp), CapAt.grown hg hr h cs' kid h6⟩
theorem CapAt.own {w0 w : World} {rs : List Res} {h : Nat} {cs : List Value} {c : Cnd} (hc : CapAt w0 h cs c) (H : Own w0 none w rs) : CapAt w h cs c := hc.grown H.grown rfl
end Go.Proofs.YtkchaoajegkadaaGreatDoor
