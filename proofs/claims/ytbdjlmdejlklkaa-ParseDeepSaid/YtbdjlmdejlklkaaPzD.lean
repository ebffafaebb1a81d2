/-
  WALK2. Package parse: Parse. Conditions: none but the source's length.
-/
import Derived.Test.YtbdjlmdejlklkaaPzC
import Derived.Test.YtbdjlmdejlklkaaPrT
set_option linter.unusedSimpArgs false
set_option linter.unusedVariables false
namespace Go.Proofs.Ytbdjlmdejlklkaa
open Go.RowKit
set_option maxRecDepth 100000
def RowsIn (S : Nat → Prop) (w : World) (A : Option Addr) (sz : Nat) (rows : List (List Value)) : Prop :=
  ∀ (j : Nat) (cs : List Value), rows[j]? = some cs → ∃ b off, A = some ⟨b, off, none⟩ ∧ S b ∧ w.rangeAt b (off + j * sz) cs
theorem RowsIn.loc {S T : Nat → Prop} {w w' : World} {A : Option Addr} {sz : Nat} {rows : List (List Value)} (hs : ∀ b, S b → w'.heap[b]? = w.heap[b]?) (hT : ∀ b, S b → T b) (h : RowsIn S w A sz rows) : RowsIn T w' A sz rows := fun j cs hj => by
  obtain ⟨b, off, h1, h2, h3⟩ := h j cs hj
  exact ⟨b, off, h1, hT b h2, range_same (hs b h2) h3⟩
theorem RowsIn.rows {S : Nat → Prop} {w : World} {A : Option Addr} {sz : Nat} {rows : List (List Value)} (h : RowsIn S w A sz rows) : RowsAt w A sz rows := fun j cs hj => by
  obtain ⟨b, off, h1, _, h3⟩ := h j cs hj
  exact ⟨b, off, h1, h3⟩
/-- The cells are a program's, its memory in the blocks S. -/
def ProgS (S : Nat → Prop) (h : Nat) (cs : List Value) (p : Prg) (w : World) : Prop :=
  ∃ (LA : Option Addr) (LC : Nat) (IA : Option Addr) (IC : Nat) (TA : Option Addr) (TC : Nat) (hrows ccs : _), cs = [.string p.name, .slice LA p.locs.length LC, .slice IA p.init.length IC, .slice TA p.threads.length TC, b8 p.ask] ++ ccs ∧
    RowsIn S w LA 1 (strC p.locs) ∧ RowsIn S w IA 1 (iniC p.init) ∧ RowsIn S w TA 1 hrows ∧ ThrIn S w hrows p.threads ∧ TreeIn S w h ccs p.cond ∧ p.locs.length ≤ LC ∧ p.init.length ≤ IC ∧ p.threads.length ≤ TC
theorem ProgS.loc {S : Nat → Prop} {h : Nat} {cs : List Value} {p : Prg} {w w' : World} (hs : ∀ b, S b → w'.heap[b]? = w.heap[b]?) (hp : ProgS S h cs p w) : ProgS S h cs p w' := by
  obtain ⟨LA, LC, IA, IC, TA, TC, hrows, ccs, h1, h2, h3, h4, h5, h6, h7⟩ := hp
  exact ⟨LA, LC, IA, IC, TA, TC, hrows, ccs, h1, h2.loc hs (fun _ h => h), h3.loc hs (fun _ h => h), h4.loc hs (fun _ h => h), h5.loc hs (fun _ h => h), h6.loc hs (fun _ h => h), h7⟩
def Res.prog (S : Nat → Prop) (h : Nat) (cs : List Value) (p : Prg) : Res := ⟨S, ProgS S h cs p, fun _ _ hb hp => hp.loc hb⟩
/-- Two parts as one. -/
def Res.both (r s : Res) : Res := ⟨fun b => r.foot b ∨ s.foot b, fun w => r.pred w ∧ s.pred w, fun w w' h hp => ⟨r.loc w w' (fun b hb => h b (.inl hb)) hp.1, s.loc w w' (fun b hb => h b (.inr hb)) hp.2⟩⟩
theorem Own.both {w0 w : World} {row : Option Nat} {r s : Res} {rs : List Res} (H : Own w0 row w (r :: s :: rs)) : Own w0 row w (Res.both r s :: rs) := H.fuse (Res.both r s) ⟨H.pred 0 r rfl, H.pred 1 s rfl⟩ (fun _ h => h)
theorem iniC_len {l : List UInt8} : ∀ r ∈ iniC l, r.length = 1 := by
  intro r hr
  obtain ⟨t, _, rfl⟩ := List.mem_map.1 hr
  rfl
/-- What the lines left is a program. -/
theorem line_prog {W w : World} {rs : List Res} {c : PX} {A : Option Addr} {C bp : Nat} {S : Nat → Prop} {q : QL} {s : PS} (hf : c.fixed = false) (hL : LineAt W w rs c A C bp S true q s) :
    ∃ (S' : Nat → Prop) (h : Nat) (x1 x2 x3 x4 x5 x6 x7 x8 x9 x10 : Value) (B : Option Addr) (D : Nat), h ≤ 2000000 ∧ [x1, x2, x3, x4, x5, x6, x7, x8, x9, x10].all (fun x => x.oneCell') = true ∧
      Own W none w (.blk bp (parC c A C s B D [x1, x2, x3, x4, x5, x6, x7, x8, x9, x10, .int .i64 (q.wh : Int), .int .i64 (q.query : Int)]) 59 :: .held S A 3 (rowsT c.ts) :: .prog S' h [x1, x2, x3, x4, x5, x6, x7, x8, x9, x10] ⟨q.name, s.names, q.init, q.threads, q.ask, q.cond⟩ :: rs) := by
  obtain ⟨B, D, IA, IC, TA, TC, hrows, LA, LC, last, ST, frows, front, T, h, b1, b2, b3, b4, b5, H, hfl, hr, hl, hth, hh⟩ := hL
  have hn : Res.nms W c.fixed B D s.names = .rws 9 1 (.slice B s.names.length D) (strC s.names) := by unfold Res.nms; rw [hf]; rfl
  rw [hn] at H
  have cB : s.names.length ≤ D := (H.rwsLen 2 rfl).2.1
  have cI : q.init.length ≤ IC := (H.rwsLen 3 rfl).2.1
  have cT : hrows.length ≤ TC := (H.rwsLen 4 rfl).2.1
  obtain ⟨S2, H2⟩ : ∃ S2, Own W none w (.thrs S2 hrows q.threads :: .blk bp (parC c A C s B D [.string q.name, locV true B s.names.length D, .slice IA q.init.length IC, .slice TA hrows.length TC, b8 q.ask, b1, b2, b3, b4, b5, .int .i64 (q.wh : Int), .int .i64 (q.query : Int)]) 59 :: .held S A 3 (rowsT c.ts) :: .rws 9 1 (.slice B s.names.length D) (strC s.names) ::
      .rws 5 1 (.slice IA q.init.length IC) (iniC q.init) :: .rws 38 1 (.slice TA hrows.length TC) hrows :: .tree T h [b1, b2, b3, b4, b5] q.cond :: rs) := by
    rcases hth with ⟨t1, rfl, rfl, rfl, rfl⟩ | ⟨t1, rfl⟩
    · rw [t1]; exact ⟨ST, H.selT 8 [6, 0, 1, 2, 3, 4, 7] rfl rfl⟩
    · rw [t1]; exact ⟨_, (H.selT 8 [5, 6, 0, 1, 2, 3, 4, 7] rfl rfl).push hfl⟩
  have H3 := (H2.selT 7 [3, 4, 5, 0, 1, 2, 6] rfl rfl).toHeld strC_len (by decide)
  have H4 := (H3.selT 7 [1, 0, 2, 3, 4, 5, 6] rfl rfl).toHeld iniC_len (by decide)
  have H5 := (H4.selT 7 [2, 1, 0, 3, 4, 5, 6] rfl rfl).toHeld hr (by decide)
  have H6 := (((H5.selT 7 [1, 2, 0, 3, 6, 4, 5] rfl rfl).both).both).both.both
  obtain ⟨⟨⟨⟨p1, p2⟩, p3⟩, p4⟩, p5⟩ := H6.pred 0 _ rfl
  refine ⟨_, h, .string q.name, .slice B s.names.length D, .slice IA q.init.length IC, .slice TA hrows.length TC, b8 q.ask, b1, b2, b3, b4, b5, B, D, hh, (by obtain ⟨_, _, _, _, _, _, _, hcs⟩ := condShape (p5 : TreeIn T w h [b1, b2, b3, b4, b5] q.cond).at; cases hcs; rfl), ((H6.seen (.prog _ h [.string q.name, .slice B s.names.length D, .slice IA q.init.length IC, .slice TA hrows.length TC, b8 q.ask, b1, b2, b3, b4, b5] ⟨q.name, s.names, q.init, q.threads, q.ask, q.cond⟩) ⟨B, D, IA, IC, TA, TC, hrows, [b1, b2, b3, b4, b5], by rw [hl]; rfl, ?_, ?_, ?_, ?_, ?_, cB, cI, by rw [← hl]; exact cT⟩ (fun b hb => hb)).selT 3 [1, 2, 0] rfl rfl)⟩
  · exact RowsIn.loc (fun _ _ => rfl) (fun b hb => .inl (.inl (.inl (.inl hb)))) p1
  · exact RowsIn.loc (fun _ _ => rfl) (fun b hb => .inl (.inl (.inl (.inr hb)))) p2
  · exact RowsIn.loc (fun _ _ => rfl) (fun b hb => .inl (.inl (.inr hb))) p3
  · exact ThrIn.loc (fun _ _ => rfl) (fun b hb => .inl (.inr hb)) p4
  · exact TreeIn.loc (fun _ _ => rfl) (fun b hb => .inr hb) p5
/-- The zero program. -/
def zPrg : Prg := ⟨⟨#[]⟩, [], [], [], 0, .mk 0 0 0 0 []⟩
def zPC : List Value := [.string ⟨#[]⟩, .slice none 0 0, .slice none 0 0, .slice none 0 0, b8 0, b8 0, b8 0, b8 0, b8 0, .slice none 0 0]
theorem own_zprog {w0 w : World} {row : Option Nat} {rs : List Res} (H : Own w0 row w rs) : Own w0 row w (.prog (fun _ => False) 1 zPC zPrg :: rs) :=
  H.void _ (show ProgS (fun _ => False) 1 zPC zPrg w from ⟨none, 0, none, 0, none, 0, [], [b8 0, b8 0, b8 0, b8 0, .slice none 0 0], rfl, (fun j cs h => by simp [strC, zPrg] at h), (fun j cs h => by simp [iniC, zPrg] at h), (fun j cs h => by simp at h), (fun j l h => by simp [zPrg] at h), ⟨none, 0, rfl, Nat.zero_le _, fun j kid h => by simp at h⟩, Nat.le_refl _, Nat.le_refl _, Nat.le_refl _⟩) (fun _ hb => hb)
theorem ten_all {x1 x2 x3 x4 x5 x6 x7 x8 x9 x10 : Value} (h : [x1, x2, x3, x4, x5, x6, x7, x8, x9, x10].all (fun x => x.oneCell') = true) : x1.oneCell' = true ∧ x2.oneCell' = true ∧ x3.oneCell' = true ∧ x4.oneCell' = true ∧ x5.oneCell' = true ∧ x6.oneCell' = true ∧ x7.oneCell' = true ∧ x8.oneCell' = true ∧ x9.oneCell' = true ∧ x10.oneCell' = true := by
  simpa only [List.all_cons, List.all_nil, Bool.and_true, Bool.and_eq_true] using h
theorem pparse1_any {W w0 : World} {rs : List Res} {c : PX} (hc : c.Ok) (hm : c.ts.length ≤ 900000) (hf : c.fixed = false) {A : Option Addr} {C bp b6 b7 bw : Nat} {S : Nat → Prop} (H : Own W none w0 (.blk bp (parC c A C ⟨0, []⟩ none 0 zX) 59 :: .held S A 3 (rowsT c.ts) :: .blk b6 [.int .i64 (0 : Int)] 3 :: .blk b7 [.int .i64 (0 : Int)] 34 :: .blk bw zPC 33 :: rs)) :
    Calls Try.prog 21 #[.pointer (some ⟨bp, 0, none⟩), .pointer (some ⟨bw, 0, none⟩)] w0 fun e w' => Ans W (.blk b6 [.int .i64 (0 : Int)] 3 :: .blk b7 [.int .i64 (0 : Int)] 34 :: .blk bw zPC 33 :: rs) (progP c) (fun v _ e w' => e = .returned (.tuple #[]) ∧
      ∃ (S' : Nat → Prop) (h : Nat) (x1 x2 x3 x4 x5 x6 x7 x8 x9 x10 : Value), h ≤ 2000000 ∧ [x1, x2, x3, x4, x5, x6, x7, x8, x9, x10].all (fun x => x.oneCell') = true ∧ Own W none w' (.blk b6 [.int .i64 (0 : Int)] 3 :: .blk b7 [.int .i64 (0 : Int)] 34 :: .blk bw [x1, x2, x3, x4, x5, x6, x7, x8, x9, x10] 33 :: .prog S' h [x1, x2, x3, x4, x5, x6, x7, x8, x9, x10] v :: rs)) e w' := by
  refine enterF Try.func21 rfl Try.ntmps21 rfl (fun a F => ?_)
  refine cSeq (fun K1 hK1 => ?_)
  refine cReg ?_
  refine sMv F rfl rfl rfl ?_;clear F a;intro a F
  refine sCallP Try.call22 F rfl rfl rfl (pprogram_any hc hm (line_start hf H)) ?_
  rintro e w hq9
  rcases hq9.cases with ⟨p9, e9, hn4, rfl, H⟩ | ⟨v4, t4, hr4, rfl, q4, rfl, hL⟩
  ·
   refine .inl ⟨_, rfl, ?_⟩
   exact And.intro F.nod (Ans.no (hn4) H)
  obtain ⟨S9, h9, x1, x2, x3, x4, x5, x6, x7, x8, x9, x10, B9, D9, hh9, hx, H⟩ := line_prog hf hL; obtain ⟨o1, o2, o3, o4, o5, o6, o7, o8, o9, o10⟩ := ten_all hx
  refine .inr ⟨_, rfl, ?_⟩
  clear F a; intro a F
  refine sNil ?_
  refine hK1 _ _ ?_; clear hK1
  refine cReg ?_
  refine sMv F rfl rfl rfl ?_;clear F a;intro a F
  refine sNc F rfl rfl rfl ?_;clear F a;intro a F
  refine sFa (f := 3) (k := 5) Try.underlying59 rfl Try.sizeOf33 rfl rfl F rfl rfl rfl ?_;clear F a;intro a F
  refine sLr Try.underlying33 rfl ?si F rfl rfl rfl (show World.rangeAt _ bp (0 + 5) [x1, x2, x3, x4, x5, x6, x7, x8, x9, x10] from H.range 0 rfl _ 10) ?_
  case si => exact info_size Try.sizeOf33
  clear F a; intro a F
  refine sSr H 5 ?si F rfl rfl rfl ?s1 rfl rfl ?_
  case si => exact info_size Try.sizeOf33
  case s1 => first | rfl | (repeat (first | exact one_nil | (apply one_cons; · first | rfl | assumption | exact one_bif rfl rfl)))
  clear H; intro w H
  refine sNil ?_
  first | refine bEnd Try.results21 F ?_ | (simp only [Exit.then, Exit.inBlock, if_true]; (repeat (first | rw [if_pos rfl] | rw [if_neg (by decide)])); refine bEnd Try.results21 F ?_)
  exact Ans.ok hr4 ⟨rfl, S9, h9, _, _, _, _, _, _, _, _, _, _, hh9, hx, H.selT 6 [3, 4, 5, 2] rfl rfl⟩
end Go.Proofs.Ytbdjlmdejlklkaa
