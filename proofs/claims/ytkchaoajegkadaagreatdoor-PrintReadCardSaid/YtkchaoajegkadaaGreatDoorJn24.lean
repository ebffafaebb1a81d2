/-
  Plain Lean: what is parsed can be printed. Nothing of the program. Conditions: none.
-/
import Derived.Test.YtkchaoajegkadaaGreatDoorJn23
import Derived.Test.YtkchaoajegkadaaGreatDoorJn22
import Derived.Test.YtkchaoajegkadaaGreatDoorJn18
set_option linter.unusedSimpArgs false
set_option linter.unusedVariables false
namespace Go.Proofs.YtkchaoajegkadaaGreatDoor
-- PtV
theorem PrIns.more {n m : Nat} {x : Ins} (h : PrIns n x) (hm : n ≤ m) : PrIns m x := by
  cases h with
  | load d l m hd hl hm' => exact .load d l m hd (Nat.lt_of_lt_of_le hl hm) hm'
  | store l r v m hl hr hm' => exact .store l r v m (Nat.lt_of_lt_of_le hl hm) hr hm'
  | move d r v f q u hd hr hq hf => exact .move d r v f q u hd hr hq hf
  | swap d l r v hd hl hr => exact .swap d l r v hd (Nat.lt_of_lt_of_le hl hm) hr
  | fetch d l r v hd hl hr => exact .fetch d l r v hd (Nat.lt_of_lt_of_le hl hm) hr
  | cas d l r v q u hd hl hr hq => exact .cas d l r v q u hd (Nat.lt_of_lt_of_le hl hm) hr hq
  | fence m hm' => exact .fence m hm'
  | skip k r v f q u hr hq hf => exact .skip k r v f q u hr hq hf
theorem PrC.more {n m : Nat} (hm : n ≤ m) : ∀ {h k : Nat} {x : Cnd}, h ≤ k → PrC n h x → PrC m k x
  | 0, _, _, _, hx => hx.elim
  | h + 1, 0, _, hk, _ => absurd hk (Nat.not_succ_le_zero _)
  | h + 1, k + 1, .mk kd t nn v kids, hk, hx => by
    have hk : h ≤ k := Nat.le_of_succ_le_succ hk
    rcases hx with ⟨h1, h2, h3, h4, h5⟩ | ⟨h1, h2, h3⟩ | ⟨h1, h2, h3, h4⟩ | ⟨h1, y, h2, h3⟩ | ⟨h1, h2, h3⟩
    · exact .inl ⟨h1, h2, h3, h4, h5⟩
    · exact .inr (.inl ⟨h1, h2, h3⟩)
    · exact .inr (.inr (.inl ⟨h1, h2, Nat.lt_of_lt_of_le h3 hm, h4⟩))
    · exact .inr (.inr (.inr (.inl ⟨h1, y, h2, PrC.more hm hk h3⟩)))
    · exact .inr (.inr (.inr (.inr ⟨h1, h2, fun y hy => PrC.more hm hk (h3 y hy)⟩)))
section
variable {c : PX}
theorem fence_pr {s : PS} : (fenceP c s).All fun x t => PrIns t.names.length x := by
  unfold fenceP
  exact .ite (fun _ => .ok (.fence 4 (.inr (.inl rfl)))) (fun _ => .ite (fun _ => .ok (.fence 5 (.inr (.inr rfl)))) (fun _ => .ok (.fence 3 (.inl rfl))))
theorem fn_mem {s : PS} {f : UInt8} (h : fnP c s = some f) : f = 1 ∨ f = 2 ∨ f = 3 := by
  unfold fnP at h
  split at h
  · exact .inl (Option.some.inj h).symm
  · split at h
    · exact .inr (.inl (Option.some.inj h).symm)
    · split at h
      · exact .inr (.inr (Option.some.inj h).symm)
      · cases h
theorem test_mem {s : PS} {f : UInt8} (h : testP c s = some f) : f = 4 ∨ f = 5 ∨ f = 6 := by
  unfold testP at h
  split at h
  · exact .inl (Option.some.inj h).symm
  · split at h
    · exact .inr (.inl (Option.some.inj h).symm)
    · split at h
      · exact .inr (.inr (Option.some.inj h).symm)
      · cases h
theorem skip_pr {s : PS} : (skipP c s).All fun x t => PrIns t.names.length x := by
  unfold skipP failP
  refine numQ_all.bind fun n s1 _ h1 => .ite (fun hk => argP_all.bind fun x s2 _ h2 => ?_) (fun _ => .no)
  cases hf : testP c s2 with
  | none => exact .no
  | some f => exact argP_all.bind fun y s3 _ h3 => .ok (.skip n x.1 x.2 f y.1 y.2 h2.2.2 h3.2.2 (test_mem hf))
theorem store_pr {s : PS} (h6 : s.names.length ≤ 6) : (storeP c s).All fun x t => PrIns t.names.length x := by
  unfold storeP
  refine locP_all.bind fun k s1 _ h1 => signP_all.bind fun _ s2 _ h2 => argP_all.bind fun x s3 _ h3 => ?_
  have hk : k.toNat < s3.names.length := Nat.lt_of_lt_of_le (h1.2.2.1 h6) (h2.1.trans h3.1).more
  exact .ite (fun _ => .ok (.store k x.1 x.2 2 hk h3.2.2 (.inr rfl))) (fun _ => .ok (.store k x.1 x.2 0 hk h3.2.2 (.inl rfl)))
theorem move_pr {d : UInt8} {s : PS} (hd : d.toNat < 8) : (moveP' c d s).All fun x t => PrIns t.names.length x := by
  unfold moveP' failP
  refine argP_all.bind fun x s1 _ h1 => ?_
  cases hf : fnP c s1 with
  | none => exact .no
  | some f => exact argP_all.bind fun y s2 _ h2 => .ok (.move d x.1 x.2 f y.1 y.2 hd h1.2.2 h2.2.2 (fn_mem hf))
theorem assign_pr {s : PS} (h6 : s.names.length ≤ 6) : (assignP c s).All fun x t => PrIns t.names.length x := by
  unfold assignP
  refine regQ_all.bind fun d s1 _ h1 => signP_all.bind fun _ s2 _ h2 => ?_
  have hd := h1.2.2
  have e2 : s2.names = s.names := by rw [h2.2, h1.2.1]; rfl
  have hn : s2.names.length ≤ 6 := by rw [e2]; exact h6
  refine .ite (fun hk => locP_all.bind fun k s3 _ h3 => argP_all.bind fun x s4 _ h4 => .ok (.swap d k x.1 x.2 hd (Nat.lt_of_lt_of_le (h3.2.2.1 hn) h4.1.more) h4.2.2)) (fun _ => ?_);refine .ite (fun hk => locP_all.bind fun k s3 _ h3 => argP_all.bind fun x s4 _ h4 => .ok (.fetch d k x.1 x.2 hd (Nat.lt_of_lt_of_le (h3.2.2.1 hn) h4.1.more) h4.2.2)) (fun _ => ?_);refine .ite (fun hk => locP_all.bind fun k s3 _ h3 => argP_all.bind fun x s4 _ h4 => argP_all.bind fun y s5 _ h5 => .ok (.cas d k x.1 x.2 y.1 y.2 hd (Nat.lt_of_lt_of_le (h3.2.2.1 hn) (h4.1.trans h5.1).more) h4.2.2 h5.2.2)) (fun _ => ?_)
  refine .ite (fun hk => locP_all.bind fun k s3 _ h3 => ?_) (fun _ => move_pr hd)
  exact .ite (fun _ => .ok (.load d k 1 hd (h3.2.2.1 hn) (.inr rfl))) (fun _ => .ok (.load d k 0 hd (h3.2.2.1 hn) (.inl rfl)))
theorem ins_pr {k : Nat} {s : PS} (h6 : s.names.length ≤ 6) : (insP c k s).All fun x t => PrIns t.names.length x := by
  unfold insP
  exact .ite (fun _ => fence_pr) (fun _ => .ite (fun _ => skip_pr) (fun _ => .ite (fun _ => assign_pr h6) (fun _ => store_pr h6)))
def PartPr (c : PX) (h : Nat) (part : PS → Rs Cnd) : Prop := (∀ s, (part s).All fun _ t => Gs c s t) ∧ ∀ s, NmOk s.names → (part s).All fun x t => PrC t.names.length h x
theorem sevL_pr {h : Nat} {part : PS → Rs Cnd} {str : List UInt8} (hp : PartPr c h part) : ∀ (f : Nat) (ks : List Cnd) (s : PS), NmOk s.names → (∀ x ∈ ks, PrC s.names.length h x) → (sevL c part str f ks s).All fun l t => ks.length ≤ l.length ∧ ∀ x ∈ l, PrC t.names.length h x
  | 0, ks, s, _, _ => .no
  | f + 1, ks, s, hn, hk => by
    unfold sevL
    refine .ite (fun hi => (hp.2 s.next hn).bind fun k t hkt hk1 => ?_) (fun _ => .ok ⟨Nat.le_refl _, hk⟩)
    have hg := hp.1 s.next k t hkt
    refine (sevL_pr hp f (ks ++ [k]) t (hg.names hn) (fun x hx => ?_)).imp fun l u hl => ⟨Nat.le_trans (by rw [List.length_append]; omega) hl.1, hl.2⟩
    rcases List.mem_append.1 hx with hx | hx
    · exact (hk x hx).more hg.more (Nat.le_refl _)
    · rw [List.mem_singleton.1 hx]; exact hk1
theorem sevL_two {h : Nat} {part : PS → Rs Cnd} {str : List UInt8} (hp : PartPr c h part) {f : Nat} {k : Cnd} {s : PS} (hi : c.is s.pos str = true) (hn : NmOk s.names) (hk : PrC s.names.length h k) : (sevL c part str f [k] s).All fun l t => 2 ≤ l.length ∧ ∀ x ∈ l, PrC t.names.length h x := by
  cases f with
  | zero => exact .no
  | succ f =>
    unfold sevL
    rw [if_pos hi]
    refine (hp.2 s.next hn).bind fun y t hyt hy => ?_
    have hg := hp.1 s.next y t hyt
    refine sevL_pr hp f ([k] ++ [y]) t (hg.names hn) (fun x hx => ?_)
    rcases List.mem_append.1 hx with hx | hx
    · rw [List.mem_singleton.1 hx]; exact hk.more hg.more (Nat.le_refl _)
    · rw [List.mem_singleton.1 hx]; exact hy
theorem sev_pr {h : Nat} {part : PS → Rs Cnd} {kind : UInt8} {str : List UInt8} (hk : kind = 3 ∨ kind = 4) (hp : PartPr c h part) : PartPr c (h + 1) (sevP c kind str part) := by
  refine ⟨sevP_all hp.1, fun s hn => ?_⟩
  unfold sevP
  refine (hp.2 s hn).bind fun k t hkt hx => .ite (fun hi => ?_) (fun _ => .ok (hx.more (Nat.le_refl _) (Nat.le_succ _)))
  have hg := hp.1 s k t hkt
  exact (sevL_two hp hi (hg.names hn) hx).bind fun ks u _ hu => .ok (.inr (.inr (.inr (.inr ⟨⟨hk, rfl, rfl, rfl⟩, hu.1, hu.2⟩))))
theorem fact_pr : ∀ n : Nat, PartPr c (2 * n) (factP c n)
  | 0 => ⟨factP_all 0, fun s _ => .no⟩
  | n + 1 => by
    refine ⟨factP_all (n + 1), fun s hn => ?_⟩
    have ih := fact_pr n
    have id := sev_pr (kind := 4) (str := [124]) (.inr rfl) (sev_pr (kind := 3) (str := [38]) (.inl rfl) ih)
    rw [show 2 * (n + 1) = 2 * n + 1 + 1 by omega]
    unfold factP
    refine .ite (fun h => (ih.2 s.next hn).bind fun k t _ hk => .ok (.inr (.inr (.inr (.inl ⟨⟨rfl, rfl, rfl, rfl⟩, k, rfl, hk.more (Nat.le_refl _) (Nat.le_succ _)⟩))))) (fun _ => ?_);refine .ite (fun h => (id.2 s.next hn).bind fun k t _ hk => signP_all.bind fun _ u _ hu => .ok (hk.more hu.1.more (Nat.le_refl _))) (fun _ => ?_);refine .ite (fun h => .ok (.inl ⟨rfl, rfl, rfl, rfl, rfl⟩)) (fun _ => ?_);refine .ite (fun h => numQ_all.bind fun t s1 _ h1 => signP_all.bind fun _ s2 _ h2 => regQ_all.bind fun n s3 _ h3 => signP_all.bind fun _ s4 _ h4 => numQ_all.bind fun v s5 _ h5 => .ok (.inr (.inl ⟨rfl, h3.2.2, rfl⟩))) (fun _ => ?_)
    exact locP_all.bind fun k s1 _ h1 => signP_all.bind fun _ s2 _ h2 => numQ_all.bind fun v s3 _ h3 => .ok (.inr (.inr (.inl ⟨rfl, rfl, Nat.lt_of_lt_of_le (h1.2.2.1 hn.few) (h2.1.trans h3.1).more, rfl⟩)))
theorem disj_pr (n : Nat) : PartPr c (2 * n + 2) (disjP c n) := sev_pr (kind := 4) (str := [124]) (.inr rfl) (sev_pr (kind := 3) (str := [38]) (.inl rfl) (fact_pr n))
structure QPr (q : QL) (s : PS) : Prop where
  ok : QOk q s
  ins : ∀ t ∈ q.threads, ∀ x ∈ t, PrIns s.names.length x
  cond : q.wh = 4 → ∃ h, PrC s.names.length h q.cond
theorem QPr.step {q r : QL} {s t : PS} (h : QPr q s) (ho : QOk r t) (hg : Gs c s t) (ht : r.threads = q.threads) (hw : r.wh ≠ 4) : QPr r t :=
  ⟨ho, fun l hl x hx => (h.ins l (ht ▸ hl) x hx).more hg.more, fun e => absurd e hw⟩
theorem initL_thr : ∀ (f : Nat) (q : QL) (s : PS), (initL c f q s).All fun r _ => r.threads = q.threads ∧ r.wh = 2
  | 0, q, s => .no
  | f + 1, q, s => by
    unfold initL
    cases idxOf (c.word s.pos) s.names 0 with
    | some _ => exact .no
    | none =>
      refine locP_all.bind fun k s1 _ h1 => signP_all.bind fun _ s2 _ h2 => numQ_all.bind fun v s3 _ h3 => .ite (fun _ => .ok ⟨rfl, rfl⟩) (fun _ => ?_)
      exact (initL_thr f _ s3).imp fun r t h => h
theorem lineL_pr {q : QL} {s : PS} (hq : QPr q s) (h4 : q.wh ≠ 4) : (lineL c q s).All fun r t => QPr r t := by
  intro r t hr
  obtain ⟨hg, ho⟩ := lineL_all hq.ok r t hr
  have test : testL c q s = .ok r t → QPr r t := fun h => by
    unfold testL failP at h
    split at h
    · split at h
      · cases h
      · cases h; exact hq.step ho hg rfl (show (1 : Nat) ≠ 4 by decide)
    · cases h
  have ask : ∀ k, askL c k q s = .ok r t → QPr r t := fun k h => by
    unfold askL failP at h
    split at h
    · obtain ⟨d, u, h1, h2⟩ := Rs.bind_ok h
      cases h2
      exact ⟨ho, fun l hl x hx => (hq.ins l hl x hx).more hg.more, fun _ => ⟨_, (disj_pr _).2 s.next hq.ok.nm d t h1⟩⟩
    · cases h
  unfold lineL failP at hr
  split at hr
  · exact test hr
  split at hr
  · split at hr
    · obtain ⟨h1, h2⟩ := initL_thr _ _ _ r t hr
      exact hq.step ho hg h1 (by rw [h2]; decide)
    · cases hr
  split at hr
  · unfold threadL failP at hr
    split at hr
    · split at hr
      · cases hr
      · cases hr
        refine ⟨ho, fun l hl x hx => ?_, fun e => absurd (show (3 : Nat) = 4 from e) (by decide)⟩
        rcases List.mem_append.1 hl with hl | hl
        · exact hq.ins l hl x hx
        · rw [List.mem_singleton.1 hl] at hx; exact absurd hx List.not_mem_nil
    · cases hr
  split at hr
  · exact ask _ hr
  split at hr
  · exact ask _ hr
  split at hr
  · exact ask _ hr
  unfold addL failP at hr
  split at hr
  next h3 =>
    split at hr
    · split at hr
      · cases hr
      · obtain ⟨x, u, h1, h2⟩ := Rs.bind_ok hr
        cases h2
        refine ⟨ho, fun l hl y hy => ?_, fun e => absurd (h3.symm.trans e) (by decide)⟩
        have hne := hq.ok.three (.inl h3)
        have hpos : 0 < q.threads.length := List.length_pos_iff.2 hne
        have hl : l ∈ lastAdd q.threads x := hl
        unfold lastAdd at hl
        rcases List.mem_append.1 hl with hl | hl
        · exact (hq.ins l (List.mem_of_mem_take hl) y hy).more hg.more
        · rw [List.mem_singleton.1 hl] at hy
          rcases List.mem_append.1 hy with hy | hy
          · refine (hq.ins (q.threads.getD (q.threads.length - 1) []) ?_ y hy).more hg.more
            rw [List.getD_eq_getElem?_getD, List.getElem?_eq_getElem (by omega)]
            exact List.getElem_mem _
          · rw [List.mem_singleton.1 hy]; exact ins_pr hq.ok.nm.few x t h1
    · cases hr
  · cases hr
theorem linesL_pr : ∀ (f : Nat) {q : QL} {s : PS}, QPr q s → (linesL c f q s).All fun r t => QPr r t ∧ r.wh = 4
  | 0, q, s, _ => .no
  | f + 1, q, s, hq => by
    unfold linesL
    refine .ite (fun h => .ok ⟨hq, h⟩) (fun h => (lineL_pr hq h).bind fun q' t ht hq' => endP_all.bind fun _ u _ hu => ?_)
    have e : u.names = t.names := by rw [hu.2]; rfl
    exact linesL_pr f ⟨hq'.ok.step hu.1 (.inr e), fun l hl x hx => by rw [e]; exact hq'.ins l hl x hx, fun h4 => by rw [e]; exact hq'.cond h4⟩
theorem prog_pr {p : Prg} {s : PS} (h : progP c = .ok p s) : PrPg p := by
  have hfit := progP_fit h
  unfold progP at h
  obtain ⟨q, t, h1, h2⟩ := Rs.bind_ok h
  obtain ⟨hq, h4⟩ := linesL_pr _ ⟨qok_zero, fun l hl => absurd hl List.not_mem_nil, fun e => absurd e (by decide)⟩ q t h1
  have e : p = ⟨q.name, t.names, padI q.init t.names.length, q.threads, q.ask, q.cond⟩ := by
    unfold failP at h2
    split at h2
    · cases h2
    · split at h2
      · cases h2
      · cases h2; rfl
  refine ⟨hfit.name, hfit.nm, hfit.ini, hfit.thr, fun l hl => ⟨(hfit.ins l hl).1, fun x hx => ?_⟩, ?_, ?_, hfit.deep⟩
  · subst e; exact hq.ins l hl x hx
  · have := hfit.ask
    rcases (by omega : p.ask.toNat = 1 ∨ p.ask.toNat = 2 ∨ p.ask.toNat = 3) with h | h | h
    · exact .inl (UInt8.toNat_inj.1 h)
    · exact .inr (.inl (UInt8.toNat_inj.1 h))
    · exact .inr (.inr (UInt8.toNat_inj.1 h))
  · subst e; exact hq.cond h4
end
-- PtW
def kb (l : List (Nat × List UInt8)) : List (Nat × ByteArray) := l.map fun x => (x.1, mk x.2)
theorem kb_app (a b : List (Nat × List UInt8)) : kb (a ++ b) = kb a ++ kb b := List.map_append
def Lx (w : WS) (toks : List (Nat × ByteArray)) : Prop := ∀ post : ByteArray, (w.2 = true → St post) → K (mk w.1 ++ post) false = toks ++ K post w.2
def Wt (w : List UInt8) (ts : List (Nat × List UInt8)) : Prop := ∀ post o, St post → K (mk w ++ post) o = kb ts ++ K post true
inductive Ws : List (List UInt8) → List (Nat × List UInt8) → Prop where
  | nil : Ws [] []
  | cons {w : List UInt8} {l : List (List UInt8)} {a b : List (Nat × List UInt8)} : Wt w a → Ws l b → Ws (w :: l) (a ++ b)
theorem Ws.app {l m : List (List UInt8)} {a b : List (Nat × List UInt8)} (h : Ws l a) (k : Ws m b) : Ws (l ++ m) (a ++ b) := by
  induction h with
  | nil => exact k
  | cons hw _ ih => rw [List.append_assoc]; exact .cons hw ih
theorem wt_good {kd : Nat} {t : List UInt8} (h : Good kd (mk t)) : Wt t [(kd, t)] := fun post o hs => K_tok o h hs
theorem Ws.one {kd : Nat} {t : List UInt8} {l : List (List UInt8)} {b : List (Nat × List UInt8)} (h : Good kd (mk t)) (k : Ws l b) : Ws (t :: l) ((kd, t) :: b) := .cons (wt_good h) k
theorem st_blank (post : ByteArray) : St (mk [32] ++ post) := st_32 post
theorem st_line (post : ByteArray) : St (mk [10] ++ post) := st_10 post
theorem Lx.nil : Lx ([], false) [] := fun post _ => by rw [show mk ([] : List UInt8) ++ post = post from nil_app post]; rfl
theorem Lx.word {w : WS} {toks : List (Nat × ByteArray)} {s : List UInt8} {ts : List (Nat × List UInt8)} (h : Lx w toks) (hs : Wt s ts) : Lx (wordW w s) (toks ++ kb ts) := fun post hp => by
  have hp := hp rfl
  show K (mk (w.1 ++ (if w.2 = true then [32] else []) ++ s) ++ post) false = _
  rw [mk_append, mk_append, app_assoc, app_assoc]
  cases hw : w.2 with
  | true =>
    have h1 := h (mk [32] ++ (mk s ++ post)) (fun _ => st_blank _)
    rw [hw] at h1
    show K (mk w.1 ++ (mk [32] ++ (mk s ++ post))) false = _
    rw [h1, K_sp, hs post true hp, List.append_assoc]
    rfl
  | false =>
    have h1 := h (mk s ++ post) (fun e => by rw [hw] at e; cases e)
    rw [hw] at h1
    show K (mk w.1 ++ (mk [] ++ (mk s ++ post))) false = _
    rw [nil_app, h1, hs post false hp, List.append_assoc]
    rfl
theorem Lx.words {l : List (List UInt8)} {ts : List (Nat × List UInt8)} (hs : Ws l ts) : ∀ {w : WS} {toks : List (Nat × ByteArray)}, Lx w toks → Lx (wordsW w l) (toks ++ kb ts) := by
  induction hs with
  | nil => intro w toks h; rw [show kb [] = [] from rfl, List.append_nil]; exact h
  | cons hw _ ih =>
    intro w toks h
    have := ih (h.word hw)
    rw [kb_app, ← List.append_assoc]
    exact this
theorem words_on : ∀ (l : List (List UInt8)) (w : WS), l ≠ [] → (wordsW w l).2 = true
  | [], _, h => absurd rfl h
  | [_], _, _ => rfl
  | s :: t :: l, w, _ => words_on (t :: l) (wordW w s) (List.cons_ne_nil _ _)
theorem words_keep : ∀ (l : List (List UInt8)) (w : WS), w.2 = true → (wordsW w l).2 = true
  | [], _, h => h
  | _ :: l, _, _ => words_keep l _ rfl
theorem Lx.line {w : WS} {toks : List (Nat × ByteArray)} (h : Lx w toks) (hw : w.2 = true) : Lx (lineW w) (toks ++ kb [(4, [])]) := fun post _ => by
  show K (mk (w.1 ++ [10]) ++ post) false = _
  rw [mk_append, app_assoc, h _ (fun _ => st_line _), hw, K_ln, List.append_assoc]
  rfl
def NmGood (locs : List ByteArray) : Prop := ∀ w ∈ locs, Good 1 (mk w.toList)
theorem good_loc {locs : List ByteArray} (hn : NmGood locs) {l : UInt8} (hl : l.toNat < locs.length) : Good 1 (mk (locT locs l)) := by
  obtain ⟨w, hw, e, _⟩ := loc_text hl
  rw [e]; exact hn w hw
theorem good_arg {r : Bool} {n : UInt8} (h : ArgR r n) : Good (argK r n).1 (mk (argK r n).2) := by
  cases r with
  | true => exact good_reg (h rfl)
  | false => exact good_num n
theorem arg_word (r : Bool) (n : UInt8) : argT r n = (argK r n).2 := by cases r <;> rfl
theorem ws_arg {r : Bool} {n : UInt8} (h : ArgR r n) {l : List (List UInt8)} {b : List (Nat × List UInt8)} (k : Ws l b) : Ws (argT r n :: l) (argK r n :: b) := by
  rw [arg_word]
  exact Ws.one (good_arg h) k
theorem ins_ws {locs : List ByteArray} (hn : NmGood locs) {x : Ins} (hx : PrIns locs.length x) : Ws (insT locs x) (insK locs x) := by
  cases hx with
  | load d l m hd hl hm =>
    rcases hm with rfl | rfl
    · exact .one (good_reg hd) (.one good_eq (.one (good_loc hn hl) .nil))
    · exact .one (good_reg hd) (.one good_eq (.one (good_loc hn hl) (.one good_acq .nil)))
  | store l r v m hl hr hm =>
    rcases hm with rfl | rfl
    · exact .one (good_loc hn hl) (.one good_eq (ws_arg hr .nil))
    · exact .one (good_loc hn hl) (.one good_eq (ws_arg hr (.one good_rel .nil)))
  | move d r v f q u hd hr hq hf =>
    refine .one (good_reg hd) (.one good_eq (ws_arg hr (.one ?_ (ws_arg hq .nil))))
    rcases hf with rfl | rfl | rfl
    · exact good_add
    · exact good_sub
    · exact good_xor
  | swap d l r v hd hl hr => exact .one (good_reg hd) (.one good_eq (.one good_swap (.one (good_loc hn hl) (ws_arg hr .nil))))
  | fetch d l r v hd hl hr => exact .one (good_reg hd) (.one good_eq (.one good_fetch (.one (good_loc hn hl) (ws_arg hr .nil))))
  | cas d l r v q u hd hl hr hq => exact .one (good_reg hd) (.one good_eq (.one good_cas (.one (good_loc hn hl) (ws_arg hr (ws_arg hq .nil)))))
  | fence m hm =>
    rcases hm with rfl | rfl | rfl
    · exact .one good_fence .nil
    · exact .one good_fence (.one good_loads .nil)
    · exact .one good_fence (.one good_stores .nil)
  | skip k r v f q u hr hq hf =>
    refine .one good_skip (.one (good_num k) (.one good_if (ws_arg hr (.one ?_ (ws_arg hq .nil)))))
    rcases hf with rfl | rfl | rfl
    · exact good_eqeq
    · exact good_ne
    · exact good_lt
theorem ins_some {locs : List ByteArray} {x : Ins} (hx : PrIns locs.length x) : insT locs x ≠ [] := by cases hx <;> exact List.cons_ne_nil _ _
theorem kidsT_consW (locs : List ByteArray) (and : Bool) (mid : List (List UInt8)) (first : Bool) (x : Cnd) (r : List Cnd) : condWd.kidsT locs and mid first (x :: r) = (if first then [] else mid) ++ (if x.kind = 4 ∨ and = true ∧ x.kind = 3 then [40] :: (condWd locs x ++ [[41]]) else condWd locs x) ++ condWd.kidsT locs and mid false r := by
  cases x; rfl
theorem cond_ws {locs : List ByteArray} (hn : NmGood locs) : ∀ (h : Nat) (x : Cnd), PrC locs.length h x → Ws (condWd locs x) (condTk locs x)
  | 0, _, hx => hx.elim
  | h + 1, .mk k t n v kids, hx => by
    have kid : ∀ (and : Bool) (y : Cnd), PrC locs.length h y → Ws (if y.kind = 4 ∨ and = true ∧ y.kind = 3 then [40] :: (condWd locs y ++ [[41]]) else condWd locs y) (tokG locs and y) := fun and y hy => by
      have := cond_ws hn h y hy
      unfold tokG
      split
      · exact .one good_open (this.app (.one good_close .nil))
      · exact this
    have many : ∀ (and : Bool) (mid : List (List UInt8)) (midk : List (Nat × List UInt8)), Ws mid midk → ∀ (r : List Cnd) (first : Bool), (∀ y ∈ r, PrC locs.length h y) → Ws (condWd.kidsT locs and mid first r) (condTk.kidsK locs and midk first r) := by
      intro and mid midk hm r
      induction r with
      | nil => intro first _; exact .nil
      | cons y r ih =>
        intro first hy
        rw [kidsT_consW, kidsK_cons]
        refine Ws.app (Ws.app ?_ (kid and y (hy y (by simp)))) (ih false fun z hz => hy z (by simp [hz]))
        cases first with
        | true => exact .nil
        | false => exact hm
    rcases hx with ⟨rfl, rfl, rfl, rfl, rfl⟩ | ⟨rfl, h8, rfl⟩ | ⟨rfl, rfl, hl, rfl⟩ | ⟨⟨rfl, rfl, rfl, rfl⟩, y, rfl, hy⟩ | ⟨⟨hk, rfl, rfl, rfl⟩, _, hy⟩
    · exact .one good_true .nil
    · exact .cons (show Wt (numT t ++ [58] ++ regT n) [(2, numT t), (3, [58]), (1, regT n)] from wt_three t h8) (.one good_eq (.one (good_num v) .nil))
    · exact .one (good_loc hn hl) (.one good_eq (.one (good_num v) .nil))
    · exact .one good_not (many true [] [] .nil [y] true (fun z hz => by rw [List.mem_singleton.1 hz]; exact hy))
    · rcases hk with rfl | rfl
      · exact many true [[38]] [(3, [38])] (.one good_and .nil) kids true hy
      · exact many false [[124]] [(3, [124])] (.one good_or .nil) kids true hy
theorem code_lx {locs : List ByteArray} (hn : NmGood locs) : ∀ (l : List Ins) {w : WS} {toks : List (Nat × ByteArray)}, (∀ x ∈ l, PrIns locs.length x) → w.2 = true → Lx w toks → l ≠ [] → Lx (lineW (codeW locs false w l)) (toks ++ kb ((4, []) :: codeK locs l)) ∧ True
  | [], _, _, _, _, _, hne => absurd rfl hne
  | [x], w, toks, hx, hw, h, _ => by
    have h1 := ((h.line hw).words (ins_ws hn (hx x (by simp)))).line (words_on _ _ (ins_some (hx x (by simp))))
    refine ⟨?_, trivial⟩
    show Lx (lineW (wordsW (lineW w) (insT locs x))) _
    rw [List.append_assoc, List.append_assoc, ← kb_app, ← kb_app] at h1
    exact h1
  | x :: y :: r, w, toks, hx, hw, h, _ => by
    have h1 := (h.line hw).words (ins_ws hn (hx x (by simp)))
    have h2 := (code_lx hn (y :: r) (fun z hz => hx z (by simp [hz])) (words_on _ _ (ins_some (hx x (by simp)))) h1 (List.cons_ne_nil _ _)).1
    refine ⟨?_, trivial⟩
    show Lx (lineW (codeW locs false (wordsW (lineW w) (insT locs x)) (y :: r))) _
    rw [List.append_assoc, List.append_assoc, ← kb_app, ← kb_app] at h2
    exact h2
theorem thread_lx {locs : List ByteArray} (hn : NmGood locs) (l : List Ins) (hx : ∀ x ∈ l, PrIns locs.length x) {w : WS} {toks : List (Nat × ByteArray)} (h : Lx w toks) : Lx (threadW locs w l) (toks ++ kb ((1, [116, 104, 114, 101, 97, 100]) :: (4, []) :: codeK locs l)) := by
  have h0 : Lx (wordsW w [[116, 104, 114, 101, 97, 100]]) (toks ++ kb [(1, [116, 104, 114, 101, 97, 100])]) := h.words (.one good_thread .nil)
  cases l with
  | nil =>
    have h1 := h0.line rfl
    rw [List.append_assoc, ← kb_app] at h1
    exact h1
  | cons x r =>
    have h1 := (h0.line rfl).words (ins_ws hn (hx x (by simp)))
    cases r with
    | nil =>
      have h2 := h1.line (words_on _ _ (ins_some (hx x (by simp))))
      rw [List.append_assoc, List.append_assoc, List.append_assoc, ← kb_app, ← kb_app, ← kb_app] at h2
      exact h2
    | cons y r =>
      have h2 := (code_lx hn (y :: r) (fun z hz => hx z (by simp [hz])) (words_on _ _ (ins_some (hx x (by simp)))) h1 (List.cons_ne_nil _ _)).1
      rw [List.append_assoc, List.append_assoc, List.append_assoc, ← kb_app, ← kb_app, ← kb_app] at h2
      exact h2
theorem threads_lx {locs : List ByteArray} (hn : NmGood locs) : ∀ (l : List (List Ins)), (∀ t ∈ l, ∀ x ∈ t, PrIns locs.length x) → ∀ {w : WS} {toks : List (Nat × ByteArray)}, Lx w toks → Lx (l.foldl (threadW locs) w) (toks ++ kb (threadsK locs l))
  | [], _, w, toks, h => by rw [show kb (threadsK locs []) = [] from rfl, List.append_nil]; exact h
  | t :: l, hx, w, toks, h => by
    have h1 := threads_lx hn l (fun u hu => hx u (by simp [hu])) (thread_lx hn t (hx t (by simp)) h)
    rw [List.append_assoc, ← kb_app] at h1
    exact h1
theorem init_lx {init : List UInt8} : ∀ (r : List ByteArray) (i : Nat), (∀ w ∈ r, Good 1 (mk w.toList)) → i + r.length ≤ init.length → ∀ {w : WS} {toks : List (Nat × ByteArray)}, Lx w toks → Lx (initW init i w r) (toks ++ kb (initK init i r))
  | [], i, _, _, w, toks, h => by rw [show kb (initK init i []) = [] from rfl, List.append_nil]; exact h
  | s :: r, i, hg, hl, w, toks, h => by
    rw [List.length_cons] at hl
    have e : init[i]? = some (init.getD i 0) := by rw [List.getD_eq_getElem?_getD, List.getElem?_eq_getElem (show i < init.length by omega)]; rfl
    have h1 := (h.words (Ws.one (hg s (by simp)) (.one good_eq .nil))).words (Ws.one (good_num (init.getD i 0)) .nil)
    have h2 := init_lx (init := init) r (i + 1) (fun u hu => hg u (by simp [hu])) (by omega) h1
    rw [List.append_assoc, List.append_assoc, ← kb_app, ← kb_app] at h2
    show Lx (initW init (i + 1) (match init[i]? with | some v => _ | none => _) r) _
    rw [e]
    exact h2
theorem init_on {init : List UInt8} : ∀ (r : List ByteArray) (i : Nat) (w : WS), w.2 = true → (initW init i w r).2 = true
  | [], _, _, h => h
  | s :: r, i, w, _ => by
    show (initW init (i + 1) (match init[i]? with | some v => _ | none => _) r).2 = true
    refine init_on r (i + 1) _ ?_
    cases init[i]? with
    | some v => rfl
    | none => rfl
theorem prog_lx {p : Prg} (hp : PrPg p) (hname : Good 1 (mk p.name.toList)) (hn : NmGood p.locs) : Lx (progW p) (kb (progK p)) := by
  have h0 : Lx (lineW (wordsW ([], false) [[116, 101, 115, 116], p.name.toList])) (kb [(1, [116, 101, 115, 116]), (1, p.name.toList), (4, [])]) := by
    have := (Lx.nil.words (Ws.one good_test (.one hname .nil))).line rfl
    rw [List.append_assoc, ← kb_app] at this
    exact this
  have h1 : Lx (if p.locs.length = 0 then lineW (wordsW ([], false) [[116, 101, 115, 116], p.name.toList]) else lineW (initW p.init 0 (wordsW (lineW (wordsW ([], false) [[116, 101, 115, 116], p.name.toList])) [[105, 110, 105, 116]]) p.locs)) (kb [(1, [116, 101, 115, 116]), (1, p.name.toList), (4, [])] ++ kb (midK p)) := by
    unfold midK
    split
    · rw [show kb [] = [] from rfl, List.append_nil]; exact h0
    · have := (init_lx (init := p.init) p.locs 0 hn (by have := hp.init; omega) (h0.words (Ws.one good_init .nil))).line (init_on _ _ _ rfl)
      rw [List.append_assoc, List.append_assoc, ← kb_app, ← kb_app] at this
      exact this
  have h2 := threads_lx hn p.threads (fun t ht => (hp.ins t ht).2) h1
  obtain ⟨h, hc⟩ := hp.cond
  have hask : Good 1 (mk (askT p.ask)) := by
    rcases hp.ask with e | e | e <;> rw [e]
    · exact good_some
    · exact good_none
    · exact good_all
  have h3 := ((h2.words (Ws.one hask .nil)).words (cond_ws hn h p.cond hc)).line (words_keep _ _ rfl)
  rw [List.append_assoc, List.append_assoc, List.append_assoc, List.append_assoc, ← kb_app, ← kb_app, ← kb_app, ← kb_app, ← kb_app] at h3
  exact h3
theorem print_K {p : Prg} (hp : PrPg p) (hname : Good 1 (mk p.name.toList)) (hn : NmGood p.locs) : K (mk (printT p)) false = kb (progK p) := by
  have h := prog_lx hp hname hn ByteArray.empty (fun e => by cases e)
  rw [app_nil] at h
  show K (mk (progW p).1) false = _
  rw [h, show (progW p).2 = false from rfl, K_none, List.append_nil]
-- PtX
theorem first_no : ∀ {l : List Tok}, firstBad l = none ↔ ∀ t ∈ l, faultOf t = 0
  | [] => by simp [firstBad]
  | t :: r => by
    rw [firstBad]
    constructor
    · intro h
      split at h
      · rename_i h0
        intro x hx
        rcases List.mem_cons.1 hx with rfl | hx
        · exact h0
        · exact first_no.1 h x hx
      · cases h
    · intro h
      rw [if_pos (h t (List.mem_cons_self ..))]
      exact first_no.2 fun x hx => h x (List.mem_cons_of_mem _ hx)
def Fk (l : List (Nat × List UInt8)) : Prop := ∀ q ∈ l, faultOf ⟨q.1, mk q.2, 0⟩ = 0
theorem Fk.nil : Fk [] := fun q h => absurd h List.not_mem_nil
theorem Fk.one {k : Nat} {t : List UInt8} {l : List (Nat × List UInt8)} (h : faultOf ⟨k, mk t, 0⟩ = 0) (hl : Fk l) : Fk ((k, t) :: l) := fun q hq => by
  rcases List.mem_cons.1 hq with rfl | hq
  · exact h
  · exact hl q hq
theorem Fk.app {a b : List (Nat × List UInt8)} (h : Fk a) (k : Fk b) : Fk (a ++ b) := fun q hq => by
  rcases List.mem_append.1 hq with hq | hq
  · exact h q hq
  · exact k q hq
theorem fk_word {t : List UInt8} (h : t.length ≤ 16) : faultOf ⟨1, mk t, 0⟩ = 0 := by
  unfold faultOf
  rw [if_pos rfl, if_neg (by show ¬ 16 < (mk t).size; rw [mk_size]; omega)]
theorem fk_num (n : UInt8) : faultOf ⟨2, mk (numT n), 0⟩ = 0 := by
  unfold faultOf
  rw [if_neg (show ¬ (2 : Nat) = 1 by decide), if_pos rfl, if_pos (numT_back (mk_toList _)).1]
theorem fk_end : faultOf ⟨4, mk [], 0⟩ = 0 := rfl
theorem fk_sign {t : List UInt8} (h : clsAt (mk t) 0 = 6) : faultOf ⟨3, mk t, 0⟩ = 0 := by
  unfold faultOf
  rw [if_neg (show ¬ (3 : Nat) = 1 by decide), if_neg (show ¬ (3 : Nat) = 2 by decide), if_pos rfl, if_pos h]
theorem num_short (n : UInt8) : (numT n).length ≤ 3 := by unfold numT; split <;> (try split) <;> simp
theorem fk_reg (n : UInt8) : faultOf ⟨1, mk (regT n), 0⟩ = 0 := fk_word (by have := num_short n; simp only [regT, List.length_cons]; omega)
theorem fk_arg (r : Bool) (n : UInt8) {l : List (Nat × List UInt8)} (hl : Fk l) : Fk (argK r n :: l) := by
  cases r with
  | true => exact .one (fk_reg n) hl
  | false => exact .one (fk_num n) hl
theorem fk_eq : faultOf ⟨3, mk [61], 0⟩ = 0 := fk_sign (by decide +kernel)
def NmFk (locs : List ByteArray) : Prop := ∀ w ∈ locs, w.toList.length ≤ 16
theorem fk_loc {locs : List ByteArray} (hn : NmFk locs) (l : UInt8) : faultOf ⟨1, mk (locT locs l), 0⟩ = 0 := fk_word (by
  unfold locT
  split
  next s h => exact hn s (List.mem_of_getElem? h)
  next => decide)
theorem ins_fk {locs : List ByteArray} (hn : NmFk locs) {x : Ins} (hx : PrIns locs.length x) : Fk (insK locs x) := by
  cases hx with
  | load d l m hd hl hm =>
    rcases hm with rfl | rfl
    · exact .one (fk_reg d) (.one fk_eq (.one (fk_loc hn l) .nil))
    · exact .one (fk_reg d) (.one fk_eq (.one (fk_loc hn l) (.one (fk_word (by decide)) .nil)))
  | store l r v m hl hr hm =>
    rcases hm with rfl | rfl
    · exact .one (fk_loc hn l) (.one fk_eq (fk_arg r v .nil))
    · exact .one (fk_loc hn l) (.one fk_eq (fk_arg r v (.one (fk_word (by decide)) .nil)))
  | move d r v f q u hd hr hq hf =>
    refine .one (fk_reg d) (.one fk_eq (fk_arg r v (.one (t := fnT f 1 3) ?_ (fk_arg q u .nil))))
    rcases hf with rfl | rfl | rfl <;> exact fk_sign (by decide +kernel)
  | swap d l r v hd hl hr => exact .one (fk_reg d) (.one fk_eq (.one (fk_word (by decide)) (.one (fk_loc hn l) (fk_arg r v .nil))))
  | fetch d l r v hd hl hr => exact .one (fk_reg d) (.one fk_eq (.one (fk_word (by decide)) (.one (fk_loc hn l) (fk_arg r v .nil))))
  | cas d l r v q u hd hl hr hq => exact .one (fk_reg d) (.one fk_eq (.one (fk_word (by decide)) (.one (fk_loc hn l) (fk_arg r v (fk_arg q u .nil)))))
  | fence m hm =>
    rcases hm with rfl | rfl | rfl
    · exact .one (fk_word (by decide)) .nil
    · exact .one (fk_word (by decide)) (.one (fk_word (by decide)) .nil)
    · exact .one (fk_word (by decide)) (.one (fk_word (by decide)) .nil)
  | skip k r v f q u hr hq hf =>
    refine .one (fk_word (by decide)) (.one (fk_num k) (.one (fk_word (by decide)) (fk_arg r v (.one (t := fnT f 4 6) ?_ (fk_arg q u .nil)))))
    rcases hf with rfl | rfl | rfl <;> exact fk_sign (by decide +kernel)
theorem cond_fk {locs : List ByteArray} (hn : NmFk locs) : ∀ (h : Nat) (x : Cnd), PrC locs.length h x → Fk (condTk locs x)
  | 0, _, hx => hx.elim
  | h + 1, .mk k t n v kids, hx => by
    have kid : ∀ (and : Bool) (y : Cnd), PrC locs.length h y → Fk (tokG locs and y) := fun and y hy => by
      have := cond_fk hn h y hy
      unfold tokG
      split
      · exact .one (fk_sign (by decide +kernel)) (this.app (.one (fk_sign (by decide +kernel)) .nil))
      · exact this
    have many : ∀ (and : Bool) (mid : List (Nat × List UInt8)), Fk mid → ∀ (r : List Cnd) (first : Bool), (∀ y ∈ r, PrC locs.length h y) → Fk (condTk.kidsK locs and mid first r) := by
      intro and mid hm r
      induction r with
      | nil => intro first _; exact .nil
      | cons y r ih =>
        intro first hy
        rw [kidsK_cons]
        refine Fk.app (Fk.app ?_ (kid and y (hy y (by simp)))) (ih false fun z hz => hy z (by simp [hz]))
        cases first with
        | true => exact .nil
        | false => exact hm
    rcases hx with ⟨rfl, rfl, rfl, rfl, rfl⟩ | ⟨rfl, h8, rfl⟩ | ⟨rfl, rfl, hl, rfl⟩ | ⟨⟨rfl, rfl, rfl, rfl⟩, y, rfl, hy⟩ | ⟨⟨hk, rfl, rfl, rfl⟩, _, hy⟩
    · exact .one (fk_word (by decide)) .nil
    · exact .one (fk_num t) (.one (fk_sign (by decide +kernel)) (.one (fk_reg n) (.one fk_eq (.one (fk_num v) .nil))))
    · exact .one (fk_loc hn n) (.one fk_eq (.one (fk_num v) .nil))
    · exact .one (fk_sign (by decide +kernel)) (many true [] .nil [y] true (fun z hz => by rw [List.mem_singleton.1 hz]; exact hy))
    · rcases hk with rfl | rfl
      · exact many true [(3, [38])] (.one (fk_sign (by decide +kernel)) .nil) kids true hy
      · exact many false [(3, [124])] (.one (fk_sign (by decide +kernel)) .nil) kids true hy
theorem code_fk {locs : List ByteArray} (hn : NmFk locs) : ∀ (l : List Ins), (∀ x ∈ l, PrIns locs.length x) → Fk (codeK locs l)
  | [], _ => .nil
  | x :: r, hx => Fk.app (ins_fk hn (hx x (by simp))) (.one fk_end (code_fk hn r fun y hy => hx y (by simp [hy])))
theorem threads_fk {locs : List ByteArray} (hn : NmFk locs) : ∀ (l : List (List Ins)), (∀ t ∈ l, ∀ x ∈ t, PrIns locs.length x) → Fk (threadsK locs l)
  | [], _ => .nil
  | t :: r, hx => .one (fk_word (by decide)) (.one fk_end (Fk.app (code_fk hn t (hx t (by simp))) (threads_fk hn r fun u hu => hx u (by simp [hu]))))
theorem init_fk {init : List UInt8} : ∀ (r : List ByteArray) (i : Nat), NmFk r → Fk (initK init i r)
  | [], _, _ => .nil
  | s :: r, i, h => .one (fk_word (h s (by simp))) (.one fk_eq (.one (fk_num _) (init_fk r (i + 1) fun w hw => h w (by simp [hw]))))
theorem prog_fk {p : Prg} (hp : PrPg p) (hname : p.name.toList.length ≤ 16) (hn : NmFk p.locs) : Fk (progK p) := by
  obtain ⟨h, hc⟩ := hp.cond
  refine .one (fk_word (by decide)) (.one (fk_word hname) (.one fk_end (Fk.app ?_ (Fk.app (threads_fk hn _ fun t ht => (hp.ins t ht).2) (.one ?_ (Fk.app (cond_fk hn h _ hc) (.one fk_end .nil)))))))
  · unfold midK
    split
    · exact .nil
    · exact .one (fk_word (by decide)) (Fk.app (init_fk _ _ hn) (.one fk_end .nil))
  · rcases hp.ask with e | e | e <;> rw [e] <;> exact fk_word (by decide)
theorem at_of {s : ByteArray} {fx : Bool} {l : List (Nat × List UInt8)} (h : (toks s).map kt = kb l) : At (pxOf s fx) 0 l ∧ (pxOf s fx).ts.length = l.length := by
  have hts : (pxOf s fx).ts = toks s := by unfold pxOf; rfl
  refine ⟨fun i x hx => ?_, ?_⟩
  · have h1 : ((toks s).map kt)[i]? = some (x.1, mk x.2) := by rw [h]; unfold kb; rw [List.getElem?_map, hx]; rfl
    rw [List.getElem?_map] at h1
    obtain ⟨t, ht, e⟩ := Option.map_eq_some_iff.1 h1
    have e1 : t.kind = x.1 := congrArg Prod.fst e
    have e2 : t.text = mk x.2 := congrArg Prod.snd e
    rw [Nat.zero_add]
    unfold PX.kind PX.text
    rw [hts, ht]
    exact ⟨e1, by show t.text.toList = x.2; rw [e2, mk_toList]⟩
  · rw [hts]
    have := congrArg List.length h
    unfold kb at this
    rwa [List.length_map, List.length_map] at this
theorem fair_of {s : ByteArray} {l : List (Nat × List UInt8)} (h : (toks s).map kt = kb l) (hz : s.size ≤ 16384) (hf : Fk l) : lexBad s = none := by
  unfold lexBad
  rw [if_neg (by omega), Option.map_eq_none_iff]
  refine first_no.2 fun t ht => ?_
  have h1 : kt t ∈ kb l := by rw [← h]; exact List.mem_map_of_mem ht
  obtain ⟨q, hq, e⟩ := List.mem_map.1 h1
  have := hf q hq
  have e1 : t.kind = q.1 := (congrArg Prod.fst e).symm
  have e2 : t.text = mk q.2 := (congrArg Prod.snd e).symm
  unfold faultOf at this ⊢
  rw [e1, e2]
  exact this
theorem print_parse {p : Prg} (hp : PrPg p) (hg : Good 1 (mk p.name.toList)) (hs : p.name.toList.length ≤ 16) (hl : (printT p).length ≤ 16384) : parseT (mk (printT p)) = .inr p := by
  have hnm : ∀ w ∈ p.locs, nameOk w = true := hp.nm.ok
  have hK := print_K hp hg (fun w hw => good_name (hnm w hw))
  have ht : (toks (mk (printT p))).map kt = kb (progK p) := by rw [toks_rest]; exact hK
  have hb : lexBad (mk (printT p)) = none := fair_of ht (by rw [mk_size]; exact hl) (prog_fk hp hs fun w hw => by
    have := name_size (hnm w hw)
    rw [toList_data]
    exact (Array.length_toList (xs := w.data)).symm ▸ this)
  obtain ⟨h1, h2⟩ := at_of (fx := false) ht
  obtain ⟨u, hu⟩ := prog_back hp rfl h1 h2
  exact runR_ok hb hu
theorem G_in : ∀ {l : List Tok} {o : Bool}, G o (l.map kt) → ∀ t ∈ l, t.kind = 1 → Good t.kind t.text
  | [], _, _, t, h, _ => absurd h List.not_mem_nil
  | x :: r, o, hG, t, h, h1 => by
    by_cases h4 : x.kind = 4
    · obtain ⟨_, _, h3⟩ := (if_pos h4).mp hG
      rcases List.mem_cons.1 h with rfl | h
      · rw [h1] at h4; cases h4
      · exact G_in h3 t h h1
    · obtain ⟨h2, h3⟩ := (if_neg h4).mp hG
      rcases List.mem_cons.1 h with rfl | h
      · exact h2
      · exact G_in h3 t h h1
theorem parsed_pr {s : ByteArray} {p : Prg} (h : parseT s = .inr p) : PrPg p ∧ Good 1 (mk p.name.toList) ∧ p.name.toList.length ≤ 16 := by
  obtain ⟨hl, t, ht⟩ := runR_inr h
  have hpr := prog_pr ht
  have hts : (pxOf s false).ts = toks s := by unfold pxOf; rfl
  have hfair : ∀ t ∈ toks s, faultOf t = 0 := by
    unfold lexBad at hl
    by_cases hz : 16384 < s.size
    · rw [if_pos hz] at hl; cases hl
    · rw [if_neg hz, Option.map_eq_none_iff] at hl
      exact first_no.1 hl
  rcases prog_name ht with e | ⟨i, e⟩
  · exact absurd (by rw [e, toList_data]; rfl) hpr.name
  · have hne := hpr.name
    rw [e] at hne
    unfold PX.word at e hne
    by_cases hk : (pxOf s false).kind i = 1
    · rw [if_pos hk] at e
      unfold PX.kind at hk
      unfold PX.text at e
      rw [hts] at hk e
      cases hi : (toks s)[i]? with
      | none => rw [hi] at hk; cases hk
      | some q =>
        rw [hi] at hk e
        have hk : q.kind = 1 := hk
        have e : p.name = q.text := e
        have hg := G_in (G_toks s) q (List.mem_of_getElem? hi) hk
        rw [hk] at hg
        have hf := hfair q (List.mem_of_getElem? hi)
        unfold faultOf at hf
        rw [if_pos hk] at hf
        have hz : q.text.size ≤ 16 := by
          by_cases h16 : 16 < q.text.size
          · rw [if_pos h16] at hf; cases hf
          · omega
        refine ⟨hpr, ?_, ?_⟩
        · rw [e, toList_data, mk_data]; exact hg
        · rw [e, toList_data]; exact (Array.length_toList (xs := q.text.data)).symm ▸ hz
    · rw [if_neg hk] at hne
      exact absurd (by rw [toList_data]; rfl) hne
theorem parsed_back {s : ByteArray} {p : Prg} (h : parseT s = .inr p) (hl : (printT p).length ≤ 16384) : parseT (mk (printT p)) = .inr p := by
  obtain ⟨h1, h2, h3⟩ := parsed_pr h
  exact print_parse h1 h2 h3 hl
end Go.Proofs.YtkchaoajegkadaaGreatDoor
