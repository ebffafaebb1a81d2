/-
  WALK2. Chapter 06: PrintRead answers true. Conditions: the texts' lengths; the laid table of powers of ten.
-/
import Derived.Test.YtkchaoajegkadaaGreatDoorJn20
import Derived.Test.YtkchaoajegkadaaGreatDoorJn21
import Derived.Test.YtkchaoajegkadaaGreatDoorKtH
import Derived.Test.YtkchaoajegkadaaGreatDoorJn24
set_option linter.unusedSimpArgs false
set_option linter.unusedVariables false
namespace Go.Proofs.YtkchaoajegkadaaGreatDoor
open Go.RowKit
set_option maxRecDepth 100000
theorem ans_parsed {a s : ByteArray} {p : Prg} {n : Int} (h : parseT a = .inr p) (hp : PrintAns p s n) : s = ⟨#[]⟩ ∧ n = 3 ∨ (printT p).length ≤ 16384 ∧ parseT (mk (printT p)) = .inr p ∧ s = mk (printT p) ∧ n = 0 := by
  rcases hp with ⟨_, h1, h2⟩ | ⟨hl, h2, _⟩ | h2
  · exact .inl ⟨h1, h2⟩
  · exact absurd (parsed_back h hl) h2
  · exact .inr h2
theorem parsed_sz {a : ByteArray} {p : Prg} (h : parseT a = .inr p) : (∀ s ∈ p.locs, s.size ≤ 140737488351232) ∧ p.name.size ≤ 140737488351232 := by
  obtain ⟨h1, _, h3⟩ := parsed_pr h
  refine ⟨fun s hs => ?_, ?_⟩
  · have := name_size (h1.nm.ok s hs); omega
  · rw [toList_data] at h3
    have : p.name.data.toList.length = p.name.size := Array.length_toList
    omega
theorem empty_parse (p : Prg) : parseT ⟨#[]⟩ ≠ .inr p := fun h => by
  have h2 : (parseT ⟨#[]⟩).isLeft = true := by kernel_rfl
  rw [h] at h2
  cases h2
theorem same_bool {s t : ByteArray} {sb : Bool} {X : Prop} (h1 : s = t ↔ X) (h2 : sb = true ↔ X) : ((s.toList == t.toList) == sb) = true := by
  have h3 : (s.toList == t.toList) = sb := by
    rw [Bool.eq_iff_iff, h2, ← h1, beq_iff_eq]
    exact ⟨eq_of_toList, fun e => by rw [e]⟩
  rw [h3, beq_self_eq_true]
theorem read_same {p q : Prg} {b t : ByteArray} {n : Int} (hl : (printT p).length ≤ 16384) (hp : parseT (mk (printT p)) = .inr p) (hb : parseT b = .inr q) (h : PrintAns q t n) : mk (printT p) = t ↔ p = q := by
  constructor
  · intro e
    rcases h with ⟨_, h1, _⟩ | ⟨h1, h2, _⟩ | ⟨_, h1, h2, _⟩
    · rw [e, h1] at hp; exact absurd hp (empty_parse p)
    · exact absurd (parsed_back hb h1) h2
    · rw [e, h2] at hp
      exact Sum.inr.inj (hp.symm.trans h1)
  · rintro rfl
    rcases h with ⟨h1, _⟩ | ⟨h1, h2, _⟩ | ⟨_, _, h2, _⟩
    · omega
    · exact absurd (parsed_back hb h1) h2
    · exact h2.symm
set_option maxHeartbeats 8000000 in
theorem printRead_any {w0 : World} (a1 b1 : ByteArray) (hA : a1.size ≤ maxLen) (hB : b1.size ≤ maxLen) (hT : TenAt w0) :
    Calls Tryz.prog 4 #[.string a1, .string b1] w0 fun e w' => e = .returned (.bool true) ∧ Below w0.heap.size w0 w' := by
  have H := Own.start w0 none
  refine enterF Tryz.func4 rfl Tryz.ntmps4 rfl (fun a F => ?_);refine cSR fun K1 hK1=>sAs F rfl rfl rfl (qNK hK1 ?_);clear hK1;clear F a;intro a F;refine cSeq (fun K2 hK2 => ?_);refine cSR fun K3 hK3=>?_;refine sCall Tryz.call7 F rfl rfl rfl (awake6_any _ (hT.below H.below)) ?_;rintro e w ⟨rfl, hb⟩;replace H := H.grow hb; clear hb;refine ⟨_, rfl, ?_⟩;clear F a; intro a F;refine sNot F rfl rfl rfl (qNK hK3 ?_);clear hK3;clear F a;intro a F
  refine cIf F rfl (fun h19 => ?_) (fun h19 => ?_)
  ·
   replace h19 := notT h19
   cases h19
  replace h19 := notF h19;refine wp_skip (hK2 _ _ ?_);clear hK2;refine cSeq (fun K4 hK4 => ?_);refine cSR fun K5 hK5=>sMv F rfl rfl rfl (qLenS Tryz.underlying9 rfl rfl rfl (qBin rfl rfl rfl rfl bGtr (qMv rfl rfl rfl ?_)));clear F a;intro a F
  refine F.split 23 rfl ?_ ?_ <;> (clear F; intro h23 F)
  ·
   replace h23 := of_decide_eq_true h23;refine sSk F rfl rfl (qSk rfl rfl (qSk rfl rfl (qPk rfl rfl rfl rfl (qNK hK5 ?_))));clear hK5;clear F a;intro a F;refine cIfT F rfl ?_;refine cSR fun K6 hK6=>sAs F rfl rfl rfl (qNK hK6 ?_);clear hK6;clear F a;intro a F;refine wp_ret ?_;simp only [Exit.then];refine bRet Tryz.results4 F rfl ?_
   first | exact ⟨rfl, H.below⟩ | exact ⟨by rw [same_bool h69 h77], H.below⟩
  replace h23 := of_decide_eq_false h23;refine sMv F rfl rfl rfl (qLenS Tryz.underlying9 rfl rfl rfl (qBin rfl rfl rfl rfl bGtr (qPk rfl rfl rfl rfl (qNK hK5 ?_))));clear hK5;clear F a;intro a F
  refine cIf F rfl (fun h27 => ?_) (fun h27 => ?_)
  ·
   replace h27 := of_decide_eq_true h27;refine cSR fun K7 hK7=>sAs F rfl rfl rfl (qNK hK7 ?_);clear hK7;clear F a;intro a F;refine wp_ret ?_;simp only [Exit.then];refine bRet Tryz.results4 F rfl ?_
   first | exact ⟨rfl, H.below⟩ | exact ⟨by rw [same_bool h69 h77], H.below⟩
  replace h27 := of_decide_eq_false h27;refine wp_skip (hK4 _ _ (cSR fun K8 hK8=>sMv F rfl rfl rfl ?_));clear hK4;clear F a;intro a F;refine sCall Tryz.call11 F rfl rfl rfl (pparse2_any a1 hA H) ?_;rintro e w ⟨p, pl, er, mp, rfl, hh, H, hpp⟩;refine ⟨_, rfl, ?_⟩;clear F a; intro a F;refine sMv F rfl rfl rfl (qExt rfl rfl rfl rfl (qExt rfl rfl rfl rfl (qExt rfl rfl rfl rfl ?_)));clear F a;intro a F;refine sAl H Tryz.zeroValue29 F rfl rfl ?_;clear F a H; intro b5 a w F H
  refine sSr H 0 ?si F rfl rfl rfl ?s1 rfl rfl ?_
  case si => exact info_size Tryz.sizeOf29
  case s1 => first | rfl | (repeat (first | exact one_nil | (apply one_cons; · first | rfl | assumption | exact one_bif rfl rfl)))
  clear H; intro w H;refine sAs F rfl rfl rfl (qAs rfl rfl rfl (qNK hK8 (qSR fun K9 hK9=>qMv rfl rfl rfl ?_)));clear hK8;clear F a;intro a F;refine sCall Tryz.call11 F rfl rfl rfl (pparse2_any b1 hB H) ?_;rintro e w ⟨q, pl2, er2, mq, rfl, hh2, H, hpq⟩;refine ⟨_, rfl, ?_⟩;clear F a; intro a F;refine sMv F rfl rfl rfl (qExt rfl rfl rfl rfl (qExt rfl rfl rfl rfl (qExt rfl rfl rfl rfl ?_)));clear F a;intro a F;refine sAl H Tryz.zeroValue29 F rfl rfl ?_;clear F a H; intro b8 a w F H
  refine sSr H 0 ?si F rfl rfl rfl ?s1 rfl rfl ?_
  case si => exact info_size Tryz.sizeOf29
  case s1 => first | rfl | (repeat (first | exact one_nil | (apply one_cons; · first | rfl | assumption | exact one_bif rfl rfl)))
  clear H; intro w H;refine sAs F rfl rfl rfl (qAs rfl rfl rfl (qNK hK9 ?_));clear hK9;clear F a;intro a F;refine cSeq (fun K10 hK10 => ?_);refine cSR fun K11 hK11=>sMv F rfl rfl rfl (qBin rfl rfl rfl rfl bNeq (qNK hK11 ?_));clear hK11;clear F a;intro a F
  refine cIf F rfl (fun h41 => ?_) (fun h41 => ?_)
  ·
   replace h41 := bneT h41;refine cSR fun K12 hK12=>sAs F rfl rfl rfl (qNK hK12 ?_);clear hK12;clear F a;intro a F;refine wp_ret ?_;simp only [Exit.then];refine bRet Tryz.results4 F rfl ?_
   first | exact ⟨rfl, H.below⟩ | exact ⟨by rw [same_bool h69 h77], H.below⟩
  replace h41 := bneF h41
  have hpa : parseT a1 = .inr p := by
    rcases hpp with ⟨_, h, _⟩ | ⟨h, _⟩
    · exact absurd h41 h
    · exact h
  obtain ⟨zp1, zp2⟩ := parsed_sz hpa
  refine wp_skip (hK10 _ _ (cSR fun K13 hK13=>?_));clear hK10
  refine sLr Tryz.underlying29 rfl ?si F rfl rfl rfl (H.whole 2 rfl) ?_
  case si => exact info_size Tryz.sizeOf29
  clear F a; intro a F;refine sCall Tryz.call10 F rfl rfl rfl (print_any (progIn_of (H.prw 3 rfl) (psz_of hpa)) zp1 zp2 (hT.below H.below)) ?_;rintro e w ⟨⟨s44, n44, rfl, h44⟩, hb⟩
  replace H := H.grow hb; clear hb; replace h44 := ans_parsed hpa h44
  refine ⟨_, rfl, ?_⟩;clear F a; intro a F;refine sMv F rfl rfl rfl (qExt rfl rfl rfl rfl (qExt rfl rfl rfl rfl (qAs rfl rfl rfl (qAs rfl rfl rfl (qNK hK13 ?_)))));clear hK13;clear F a;intro a F;refine cSeq (fun K14 hK14 => ?_);refine cSR fun K15 hK15=>sMv F rfl rfl rfl (qBin rfl rfl rfl rfl bNeq (qNK hK15 ?_));clear hK15;clear F a;intro a F
  refine cIf F rfl (fun h48 => ?_) (fun h48 => ?_)
  ·
   replace h48 := bneT h48
   obtain ⟨rfl, rfl⟩ : s44 = ⟨#[]⟩ ∧ n44 = 3 := by
     rcases h44 with h | ⟨_, _, _, h⟩
     · exact h
     · exact absurd h h48
   refine cSR fun K16 hK16=>sMv F rfl rfl rfl (qBin rfl rfl rfl rfl bEql (qAs rfl rfl rfl (qNK hK16 ?_)));clear hK16;clear F a;intro a F;refine wp_ret ?_;simp only [Exit.then];refine bRet Tryz.results4 F rfl ?_
   first | exact ⟨rfl, H.below⟩ | exact ⟨by rw [same_bool h69 h77], H.below⟩
  replace h48 := bneF h48;subst h48
  obtain ⟨hlen, hback, rfl⟩ : (printT p).length ≤ 16384 ∧ parseT (mk (printT p)) = .inr p ∧ s44 = mk (printT p) := by
    rcases h44 with ⟨_, h⟩ | ⟨h1, h2, h3, _⟩
    · cases h
    · exact ⟨h1, h2, h3⟩
  have hsz : (mk (printT p)).size = (printT p).length := mk_size _
  refine wp_skip (hK14 _ _ (cSR fun K17 hK17=>sMv F rfl rfl rfl ?_));clear hK14;clear F a;intro a F;refine sCall Tryz.call11 F rfl rfl rfl (pparse2_any (mk (printT p)) (by simp only [maxLen]; omega) H) ?_;rintro e w ⟨r, pl3, er3, mr, rfl, hh3, H, hpr⟩
  obtain ⟨hr, rfl, rfl⟩ := pparse_in hpr hback
  have hr := hr.symm
  subst hr;refine ⟨_, rfl, ?_⟩;clear F a; intro a F;refine sMv F rfl rfl rfl (qExt rfl rfl rfl rfl (qExt rfl rfl rfl rfl (qExt rfl rfl rfl rfl ?_)));clear F a;intro a F;refine sAl H Tryz.zeroValue29 F rfl rfl ?_;clear F a H; intro b13 a w F H
  refine sSr H 0 ?si F rfl rfl rfl ?s1 rfl rfl ?_
  case si => exact info_size Tryz.sizeOf29
  case s1 => first | rfl | (repeat (first | exact one_nil | (apply one_cons; · first | rfl | assumption | exact one_bif rfl rfl)))
  clear H; intro w H;refine sAs F rfl rfl rfl (qAs rfl rfl rfl (qNK hK17 ?_));clear hK17;clear F a;intro a F;refine cSeq (fun K18 hK18 => ?_);refine cSR fun K19 hK19=>sMv F rfl rfl rfl (qBin rfl rfl rfl rfl bNeq (qMv rfl rfl rfl ?_));clear F a;intro a F
  refine F.split 59 rfl ?_ ?_ <;> (clear F; intro h59 F)
  ·
   replace h59 := bneT h59
   first | exact absurd rfl h59 | cases h59 | exact absurd h59 (by decide)
  replace h59 := bneF h59
  refine sLr Tryz.underlying29 rfl ?si F rfl rfl rfl (H.whole 4 rfl) ?_
  case si => exact info_size Tryz.sizeOf29
  clear F a; intro a F
  refine sLr Tryz.underlying29 rfl ?si F rfl rfl rfl (H.whole 0 rfl) ?_
  case si => exact info_size Tryz.sizeOf29
  clear F a; intro a F;refine sCall Tryz.call12 F rfl rfl rfl (sameP6 (progIn_of (H.prw 5 rfl) (psz_of hpa)) (progIn_of (H.prw 1 rfl) (psz_of hback)) rfl) ?_;rintro e w ⟨rfl, hb⟩;replace H := H.grow hb; clear hb;refine ⟨_, rfl, ?_⟩;clear F a; intro a F;refine sNot F rfl rfl rfl (qPk rfl rfl rfl rfl (qNK hK19 ?_));clear hK19;clear F a;intro a F
  refine cIf F rfl (fun h64 => ?_) (fun h64 => ?_)
  ·
   replace h64 := notT h64
   first | exact absurd rfl h64 | cases h64 | exact absurd h64 (by decide)
  replace h64 := notF h64;refine wp_skip (hK18 _ _ ?_);clear hK18;refine cSeq (fun K20 hK20 => ?_);refine cSR fun K21 hK21=>sMv F rfl rfl rfl (qBin rfl rfl rfl rfl bNeq (qNK hK21 ?_));clear hK21;clear F a;intro a F
  refine cIf F rfl (fun h66 => ?_) (fun h66 => ?_)
  ·
   replace h66 := bneT h66;refine cSR fun K22 hK22=>sAs F rfl rfl rfl (qNK hK22 ?_);clear hK22;clear F a;intro a F;refine wp_ret ?_;simp only [Exit.then];refine bRet Tryz.results4 F rfl ?_
   first | exact ⟨rfl, H.below⟩ | exact ⟨by rw [same_bool h69 h77], H.below⟩
  replace h66 := bneF h66
  have hpb : parseT b1 = .inr q := by
    rcases hpq with ⟨_, h, _⟩ | ⟨h, _⟩
    · exact absurd h66 h
    · exact h
  obtain ⟨zq1, zq2⟩ := parsed_sz hpb
  refine wp_skip (hK20 _ _ (cSR fun K23 hK23=>?_));clear hK20
  refine sLr Tryz.underlying29 rfl ?si F rfl rfl rfl (H.whole 2 rfl) ?_
  case si => exact info_size Tryz.sizeOf29
  clear F a; intro a F;refine sCall Tryz.call10 F rfl rfl rfl (print_any (progIn_of (H.prw 3 rfl) (psz_of hpb)) zq1 zq2 (hT.below H.below)) ?_;rintro e w ⟨⟨s69, n69, rfl, h69⟩, hb⟩
  replace H := H.grow hb; clear hb; replace h69 := read_same hlen hback hpb h69
  refine ⟨_, rfl, ?_⟩;clear F a; intro a F;refine sMv F rfl rfl rfl (qExt rfl rfl rfl rfl (qExt rfl rfl rfl rfl (qAs rfl rfl rfl (qAs rfl rfl rfl (qNK hK23 (qSR fun K24 hK24=>qMv rfl rfl rfl (qMv rfl rfl rfl (qBin rfl rfl rfl rfl bStrEq ?_))))))));clear hK23;clear F a;intro a F
  refine sLr Tryz.underlying29 rfl ?si F rfl rfl rfl (H.whole 4 rfl) ?_
  case si => exact info_size Tryz.sizeOf29
  clear F a; intro a F
  refine sLr Tryz.underlying29 rfl ?si F rfl rfl rfl (H.whole 2 rfl) ?_
  case si => exact info_size Tryz.sizeOf29
  clear F a; intro a F;refine sCall Tryz.call12 F rfl rfl rfl (sameProg2 _ _ p q _ _ _ _ _ _ _ _ _ _ _ _ _ _ _ _ _ (progIn_of (H.prw 5 rfl) (psz_of hpa)) (progIn_of (H.prw 3 rfl) (psz_of hpb))) ?_;rintro e w ⟨⟨s77, rfl, h77⟩, hb⟩;replace H := H.grow hb; clear hb;refine ⟨_, rfl, ?_⟩;clear F a; intro a F;refine sBin F rfl rfl rfl rfl (bBoolEq Tryz.underlying4) (qAs rfl rfl rfl (qNK hK24 ?_));clear hK24;clear F a;intro a F;refine wp_ret ?_;refine bRet Tryz.results4 F rfl ?_
  first | exact ⟨rfl, H.below⟩ | exact ⟨by rw [same_bool h69 h77], H.below⟩
end Go.Proofs.YtkchaoajegkadaaGreatDoor
