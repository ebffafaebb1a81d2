/-
  WALK2. Package runs: explore, over functions that move as a machine moves. Conditions: as stated.
-/
import Derived.Test.YtbgnapmaimkpkaaGreatDoorRnS1
import Derived.Test.YtbgnapmaimkpkaaGreatDoorVcU1
set_option linter.unusedSimpArgs false
set_option linter.unusedVariables false
namespace Go.Proofs.YtbgnapmaimkpkaaGreatDoor
open Go.Proofs.Tryz
open Go.RowKit
set_option maxRecDepth 100000
theorem kT43 : CkT Tryz.prog 2 43 8 true := ckArr (D := 1) (n := 1) (m := 8) underlying43 sizeOf5 isAgg5 (fun _ => rfl) (ckInt (P := Tryz.prog) underlying5)
theorem kT62 : CkT Tryz.prog 3 62 9 true := ckStruct (D := 2) underlying62 ⟨by kernel_rfl, ⟨1, false, sizeOf5, isAgg5, fun _ => rfl, by decide, ((ckInt (P := Tryz.prog) underlying5)).up 1⟩, by kernel_rfl, ⟨8, true, sizeOf43, isAgg43, fun h => (by cases h), by decide, (kT43).up 0⟩, trivial⟩
theorem kT63 : CkT Tryz.prog 4 63 36 true := ckArr (D := 3) (n := 9) (m := 4) underlying63 sizeOf62 isAgg62 (fun h => (by cases h)) kT62
theorem kT45 : CkT Tryz.prog 2 45 6 true := ckArr (D := 1) (n := 1) (m := 6) underlying45 sizeOf5 isAgg5 (fun _ => rfl) (ckInt (P := Tryz.prog) underlying5)
theorem kT65 : CkT Tryz.prog 2 65 2 true := ckStruct (D := 1) underlying65 ⟨by kernel_rfl, ⟨1, false, sizeOf5, isAgg5, fun _ => rfl, by decide, ((ckInt (P := Tryz.prog) underlying5)).up 0⟩, by kernel_rfl, ⟨1, false, sizeOf5, isAgg5, fun _ => rfl, by decide, ((ckInt (P := Tryz.prog) underlying5)).up 0⟩, trivial⟩
theorem kT66 : CkT Tryz.prog 3 66 24 true := ckArr (D := 2) (n := 2) (m := 12) underlying66 sizeOf65 isAgg65 (fun h => (by cases h)) kT65
theorem kT67 : CkT Tryz.prog 4 67 96 true := ckArr (D := 3) (n := 24) (m := 4) underlying67 sizeOf66 isAgg66 (fun h => (by cases h)) kT66
theorem kT68 : CkT Tryz.prog 2 68 4 true := ckArr (D := 1) (n := 1) (m := 4) underlying68 sizeOf5 isAgg5 (fun _ => rfl) (ckInt (P := Tryz.prog) underlying5)
theorem kT70 : CkT Tryz.prog 5 70 142 true := ckStruct (D := 4) underlying70 ⟨by kernel_rfl, ⟨36, true, sizeOf63, isAgg63, fun h => (by cases h), by decide, (kT63).up 0⟩, by kernel_rfl, ⟨6, true, sizeOf45, isAgg45, fun h => (by cases h), by decide, (kT45).up 2⟩, by kernel_rfl, ⟨96, true, sizeOf67, isAgg67, fun h => (by cases h), by decide, (kT67).up 0⟩, by kernel_rfl, ⟨4, true, sizeOf68, isAgg68, fun h => (by cases h), by decide, (kT68).up 2⟩, trivial⟩
theorem kyS : KeyS Tryz.prog 70 142 := keyS underlying70 eT70 rfl kT70 rfl
def lkC (q : Int × Pss) : List Value := [.int .i64 q.1, b8 q.2.t, .bool q.2.d, b8 q.2.l]
def enC (k : Nat) : List Value := [.int .i64 (k : Int)]
theorem Own.blkRws {w0 w : World} {row : Option Nat} {rs : List Res} (H : Own w0 row w rs) (i : Nat) {b n sz : Nat} {cs : List Value} {e : TypeId} (rows : List (List Value)) (hi : rs[i]? = some (.blk b cs e)) (hr : rows.flatten = cs) (hn : rows.length = n) (hl : cs.length = n * sz) (hm : n ≤ maxLen) :
    Own w0 row w (rs.set i (.rws e sz (.slice (some ⟨b, 0, .none⟩) n n) rows)) := by
  have hB := H.blk i hi
  refine H.turn i hi _ H.grown (Nat.le_refl _) (fun _ _ _ => rfl) ?_ (fun c hc => ?_)
  · show w.ownsRow 0 e sz _ rows.length rows.flatten
    rw [hr, hn]
    refine ⟨hl, .inr ⟨b, n, cs.toArray, rfl, Nat.zero_le _, hB, Nat.le_refl _, hm, by simpa using hl, ?_⟩⟩
    rw [← hl]; simp
  · have : b = c := by simpa [Res.rws, Res.arr, Value.ownBlock] using hc
    subst this
    exact ⟨.inl rfl, (H.foot i _ hi b rfl).2⟩
def fndRes (A1 A2 A3 : Option Addr) (c1 c2 c3 : Nat) (a : Fnd) : List Res := [.rws 70 142 (.slice A1 a.list.length c1) (a.list.map (bs 142)), .rws 162 4 (.slice A2 a.links.length c2) (a.links.map lkC), .rws 3 1 (.slice A3 a.ends.length c3) (a.ends.map enC)]
def fo (o : Option Fnd) : Fnd := o.getD ⟨[], [], []⟩
def ExpOut (o : Option Fnd) (v : Value) (w0 : World) (e : Ending) (w' : World) : Prop := ∃ A1 c1 A2 c2 A3 c3, e = .returned (.tuple #[.agg #[.slice A1 (fo o).list.length c1, .slice A2 (fo o).links.length c2, .slice A3 (fo o).ends.length c3], v]) ∧ Own w0 none w' (fndRes A1 A2 A3 c1 c2 c3 (fo o))
theorem exp_none {w0 w : World} {rs : List Res} {v : Value} (H : Own w0 none w rs) : ExpOut none v w0 (.returned (.tuple #[.agg #[.slice none 0 0, .slice none 0 0, .slice none 0 0], v])) w :=
  ⟨none, 0, none, 0, none, 0, rfl, (((H.none.nilRws 3 1).nilRws 162 4).nilRws 70 142)⟩
theorem bs_rows (l : List By) : ∀ r ∈ l.map (bs 142), r.length = 142 := fun r hr => by
  obtain ⟨s, _, rfl⟩ := List.mem_map.1 hr
  exact bs_length _ _
set_option maxHeartbeats 4000000 in
theorem explore_any (p : Prg) (mc : UInt8) (mst : Nat) (fm fs : Value) (w0 : World) (hp : rightErr p = 0) (hk : knownM mc = true) (h1 : 1 ≤ mst) (h2 : mst ≤ 65536)
    (hMv : ∀ (w : World), w0.grownBy w none → ∀ s, Fine p mc s → CallsF Tryz.prog fm [.agg (bs 142 s).toArray] w (fun e w' => ∃ A c, e = .returned (.slice A (movesM p mc s).length c) ∧ Own w none w' [.rws 86 3 (.slice A (movesM p mc s).length c) ((movesM p mc s).map Pss.cells)]))
    (hSt : ∀ (w : World), w0.grownBy w none → ∀ s x, Fine p mc s → x ∈ movesM p mc s → CallsF Tryz.prog fs [.agg (bs 142 s).toArray, .agg x.cells.toArray] w (fun e w' => e = .returned (.agg (bs 142 (stepM p mc s x)).toArray) ∧ Below w.heap.size w w')) :
    Calls Tryz.prog 94 #[.agg (bs 142 (startP p)).toArray, .int .i64 (mst : Int), fm, fs] w0 fun e w' => ExpOut (reachR p mc mst) (.bool (reachR p mc mst).isSome) w0 e w' := by
  have H := Own.start w0 none
  refine enterF func94 rfl ntmps94 rfl (fun a F => ?_);refine cSR fun K1 hK1=>?_;refine sBxB H F rfl rfl rfl ?_;clear F a H; intro b4 a w F H;refine sAl H zeroValue113 F rfl rfl ?_;clear F a H; intro b8 a w F H;refine sAs F rfl rfl rfl (qNK hK1 (qSR fun K2 hK2=>qLrB underlying70 rfl sizeOf70 rfl rfl rfl (H.whole 1 rfl) ?_));clear hK1;clear F a;intro a F;refine sBsA H underlying51 sizeOf70 zeroValue70 rfl F rfl rfl rfl rfl rfl ?_;clear F a H; intro b18 a w F H;refine sBd (cs := [.int .i64 (-1), Go.Proofs.YtbgnapmaimkpkaaGreatDoor.b8 0, .bool false, Go.Proofs.YtbgnapmaimkpkaaGreatDoor.b8 0]) (places := [(0, 1), (1, 3)]) zeroValue162 underlying162 (by kernel_rfl) F rfl rfl rfl rfl ?_;clear F a;intro a F;refine sBsA H underlying111 sizeOf162 zeroValue162 rfl F rfl rfl rfl rfl rfl ?_;clear F a H; intro b20 a w F H;refine sBd (cs := [.slice (some ⟨b18, 0, none⟩) 1 1, .slice (some ⟨b20, 0, none⟩) 1 1, .slice none 0 0]) (places := [(0, 1), (1, 1), (2, 1)]) zeroValue113 underlying113 (by kernel_rfl) F rfl rfl rfl rfl ?_;clear F a;intro a F;refine sAl H zeroValue113 F rfl rfl ?_;clear F a H; intro b10 a w F H
  refine sSr H 0 ?si F rfl rfl rfl ?s1 rfl rfl ?_
  case si => exact info_size sizeOf113
  case s1 => first | rfl | (repeat (first | exact one_nil | (apply one_cons; · first | rfl | assumption | exact one_bif rfl rfl)))
  clear H; intro w H;refine nK hK2 (cSR fun K3 hK3=>?_);clear hK2;refine sMkS 142 H F rfl rfl ?_;clear F a H; intro b22 a w F H;refine sLrB underlying70 rfl sizeOf70 F rfl rfl rfl (H.whole 5 rfl) ?_;clear F a;intro a F;refine sInsS H 0 underlying199 kyS F rfl rfl rfl rfl rfl (rfl) ?_;clear H; intro w H;refine sMv F rfl rfl rfl (qAs rfl rfl rfl (qNK hK3 ?_));clear hK3;clear F a;intro a F;refine cSeq (fun K4 hK4 => ?_);refine cSR fun K5 hK5=>sAs F rfl rfl rfl (qNK hK5 ?_);clear hK5;clear F a;intro a F;refine wp_block ?_
  replace H := (((H.blkRws 3 (n := 1) (sz := 142) [bs 142 (startP p)] rfl rfl rfl rfl (by decide)).blkRws 2 (n := 1) (sz := 4) [lkC (-1, ⟨0, false, 0⟩)] rfl rfl rfl rfl (by decide)).nilRws 3 1)
  refine cLoopR [1, 2, 3, 8, 10, 11] (fun m ups w => ∃ (k : Nat) (fd : Fnd) (A1 : Option Addr) (c1 : Nat) (A2 : Option Addr) (c2 : Nat) (A3 : Option Addr) (c3 : Nat), m = mst + 1 - k ∧ ups = [(12, .int .i64 ((k : Nat) : Int))] ∧ FndI p mc mst k fd ∧ reachR p mc mst = searchR p mc mst (mst + 1 - k) k fd ∧ Own w0 none w [.mpS b22 142 fd.list, .blk b10 [.slice A1 fd.list.length c1, .slice A2 fd.links.length c2, .slice A3 fd.ends.length c3] 113, .rws 70 142 (.slice A1 fd.list.length c1) (fd.list.map (bs 142)), .rws 162 4 (.slice A2 fd.links.length c2) (fd.links.map lkC), .rws 3 1 (.slice A3 fd.ends.length c3) (fd.ends.map enC), .blk b8 [.slice none 0 0, .slice none 0 0, .slice none 0 0] 113, .blk b4 (bs 142 (startP p)) 70]) F (mst + 1) [(12, .int .i64 ((0 : Nat) : Int))] (by repeat (first | exact SubR.nil | (apply SubR.cons; · rfl))) ?_ ?_ ?_
  · exact ⟨0, firstR p, _, _, _, _, none, 0, rfl, rfl, fnd_first hp hk h1, rfl, H.sel [0 + 1, 1 + 1, 3 + 1, 2 + 1, 0, 4 + 1, 5 + 1] rfl rfl⟩
  · repeat (first | exact trivial | refine Le.cons rfl ?_)
  clear F
  clear H
  intro m ups a w hI F
  obtain ⟨k, fd, A1, c1, A2, c2, A3, c3, rfl, rfl, hI1, hreach, H⟩ := hI
  have hmany := hI1.many
  have hkle := hI1.kle
  refine cSeq (fun K6 hK6 => ?_);refine cSR fun K7 hK7=>sMv F rfl rfl rfl (qFa (f := 0) (k := 0) underlying113 rfl sizeOf51 rfl rfl rfl rfl rfl (qLd isAgg51 rfl rfl rfl (H.cell 1 rfl rfl) (qLen underlying51 rfl rfl rfl (qBin rfl rfl rfl rfl bLss (qNK hK7 ?_)))));clear hK7;clear F a;intro a F
  refine cIf F rfl (fun h29 => ?_) (fun h29 => ?_)
  ·
   replace h29 := of_decide_eq_true h29
   have hkl : k < fd.list.length := by omega
   obtain ⟨s, hs⟩ : ∃ s, fd.list[k]? = some s := ⟨_, List.getElem?_eq_getElem hkl⟩
   have hF := hI1.fine s (List.mem_of_getElem? hs)
   obtain ⟨bS, oS, rfl, _⟩ := H.rowsAt 2 rfl (bs_rows _) (by decide) k (bs 142 s) (by rw [List.getElem?_map, hs]; rfl)
   refine wp_skip (hK6 _ _ ?_);clear hK6;refine cSeq (fun K8 hK8 => ?_);refine wp_block ?_;refine cSR fun K9 hK9=>sMv F rfl rfl rfl (qFa (f := 0) (k := 0) underlying113 rfl sizeOf51 rfl rfl rfl rfl rfl (qLd isAgg51 rfl rfl rfl (H.cell 1 rfl rfl) (qMv rfl rfl rfl ?_)));clear F a;intro a F
   refine sIx underlying51 sizeOf70 F rfl rfl rfl rfl ?_ ?_
   focus exact hkl
   clear F a; intro a F
   refine sLrB underlying70 rfl sizeOf70 F rfl rfl rfl (by obtain ⟨b', o', g1, g2⟩ := H.rowsAt 2 rfl (bs_rows _) (by decide) k (bs 142 s) (by rw [List.getElem?_map, hs]; rfl); cases g1; exact g2) ?_;clear F a;intro a F
   refine sCallV F rfl rfl rfl rfl ((hMv _ H.grown s hF)) ?_;rintro e w ⟨AM, cM, rfl, H2⟩;replace H := H.join H2; clear H2;refine ⟨_, rfl, ?_⟩;clear F a; intro a F;refine sAs F rfl rfl rfl (qNK hK9 ?_);clear hK9;clear F a;intro a F
   refine cSeqJ [1, 2, 3, 8, 10, 11, 12, 13] (fun ups w => ∃ (A4 : Option Addr) (c4 : Nat) (en : List Nat), ups = [] ∧ en = (if movesM p mc s = [] then fd.ends ++ [k] else fd.ends) ∧ Own w0 none w [.rws 86 3 (.slice AM (movesM p mc s).length cM) ((movesM p mc s).map Pss.cells), .mpS b22 142 fd.list, .blk b10 [.slice (some ⟨bS, oS, none⟩) fd.list.length c1, .slice A2 fd.links.length c2, .slice A4 en.length c4] 113, .rws 70 142 (.slice (some ⟨bS, oS, none⟩) fd.list.length c1) (fd.list.map (bs 142)), .rws 162 4 (.slice A2 fd.links.length c2) (fd.links.map lkC), .rws 3 1 (.slice A4 en.length c4) (en.map enC), .blk b8 [.slice none 0 0, .slice none 0 0, .slice none 0 0] 113, .blk b4 (bs 142 (startP p)) 70]) F (by repeat (first | exact SubR.nil | (apply SubR.cons; · rfl))) ?_ ?_
   ·
    refine cSR fun K10 hK10=>sMv F rfl rfl rfl (qLen underlying58 rfl rfl rfl (qBin rfl rfl rfl rfl bEql (qNK hK10 ?_)));clear hK10;clear F a;intro a F
    refine cIf F rfl (fun h41 => ?_) (fun h41 => ?_)
    ·
     replace h41 := beqT h41
     have he : movesM p mc s = [] := List.eq_nil_of_length_eq_zero (by omega)
     refine cReg (sFa (f := 2) (k := 2) underlying113 rfl sizeOf83 rfl rfl F rfl rfl rfl (qLd isAgg83 rfl rfl rfl (H.cell 2 rfl rfl) (qMv rfl rfl rfl ?_)));clear F a;intro a F;refine sBs1 H underlying83 sizeOf3 zeroValue3 rfl F rfl rfl rfl rfl ?_;clear F a H; intro b45 a w F H
     refine sApp1 (bytes := 8) H 6 underlying83 typeInfo3 rfl rfl rfl rfl rfl rfl F rfl rfl rfl rfl rfl (H.whole 0 rfl) rfl ?s1 ?s2 ?_
     case s1 => first | rfl | (repeat (first | exact one_nil | (apply one_cons; · first | rfl | assumption | exact one_bif rfl rfl)))
     case s2 => (rw [List.length_map]; have := hI1.ends ▸ List.length_filter_le (fun i => match fd.list[i]? with | some s => (movesM p mc s).isEmpty | none => false) (List.range k); rw [List.length_range] at this; omega)
     clear F a H; intro A46 c46 a w F H;refine sFa (f := 2) (k := 2) underlying113 rfl sizeOf83 rfl rfl F rfl rfl rfl ?_;clear F a;intro a F;refine sSt H 3 sizeOf83 F rfl rfl rfl rfl rfl rfl ?_;clear H; intro w H;refine sNil ?_
     first
     | (have e2 : fd.ends.map enC ++ [[Value.int .i64 (k : Int)]] = (fd.ends ++ [k]).map enC := by rw [List.map_append]; rfl
        have e3 : (fd.ends.map enC ++ [[Value.int .i64 (k : Int)]]).length = (fd.ends ++ [k]).length := by rw [e2, List.length_map]
        refine ⟨_, ⟨A46, c46, fd.ends ++ [k], rfl, (if_pos he).symm, ?_⟩, F.to (by repeat (first | exact trivial | refine Le.cons rfl ?_))⟩
        have H3 := H.sel [1, 2, 3, 4, 5, 6, 7, 8] rfl rfl
        rw [← e2, ← e3]
        exact H3)
     | exact ⟨_, ⟨A3, c3, fd.ends, rfl, (if_neg he).symm, H.sel [1, 2, 3, 4, 5, 6, 7, 8] rfl rfl⟩, F.to (by repeat (first | exact trivial | refine Le.cons rfl ?_))⟩
    replace h41 := beqF h41
    have he : movesM p mc s ≠ [] := fun h0 => by rw [h0] at h41; exact h41 rfl
    refine wp_skip ?_
    first
    | (have e2 : fd.ends.map enC ++ [[Value.int .i64 (k : Int)]] = (fd.ends ++ [k]).map enC := by rw [List.map_append]; rfl
       have e3 : (fd.ends.map enC ++ [[Value.int .i64 (k : Int)]]).length = (fd.ends ++ [k]).length := by rw [e2, List.length_map]
       refine ⟨_, ⟨A46, c46, fd.ends ++ [k], rfl, (if_pos he).symm, ?_⟩, F.to (by repeat (first | exact trivial | refine Le.cons rfl ?_))⟩
       have H3 := H.sel [0, 1, 2, 3, 4, 5, 6, 7] rfl rfl
       rw [← e2, ← e3]
       exact H3)
    | exact ⟨_, ⟨A3, c3, fd.ends, rfl, (if_neg he).symm, H.sel [0, 1, 2, 3, 4, 5, 6, 7] rfl rfl⟩, F.to (by repeat (first | exact trivial | refine Le.cons rfl ?_))⟩
   clear F H
   intro ups a w hI F
   obtain ⟨A4, c4, en, rfl, hen, H⟩ := hI
   refine cSR fun K11 hK11=>sMv F rfl rfl rfl (qLen underlying58 rfl rfl rfl (qMv rfl rfl rfl (qNK hK11 ?_)));clear hK11;clear F a;intro a F;refine wp_block ?_
   refine cLoopR [1, 2, 3, 8, 10, 11, 12, 48, 49] (fun m ups w => ∃ (i : Nat) (l : List By) (q : List (Int × Pss)) (A1 : Option Addr) (c1 : Nat) (A2 : Option Addr) (c2 : Nat), m = (movesM p mc s).length - i ∧ ups = [(50, .int .i64 ((i : Nat) : Int))] ∧ i ≤ (movesM p mc s).length ∧ VisI p mc mst k s fd.list ((movesM p mc s).take i) l q ∧ visitR p mc mst k s (movesM p mc s) fd.list fd.links = visitR p mc mst k s ((movesM p mc s).drop i) l q ∧ Own w0 none w [.rws 86 3 (.slice AM (movesM p mc s).length cM) ((movesM p mc s).map Pss.cells), .mpS b22 142 l, .blk b10 [.slice A1 l.length c1, .slice A2 q.length c2, .slice A4 en.length c4] 113, .rws 70 142 (.slice A1 l.length c1) (l.map (bs 142)), .rws 162 4 (.slice A2 q.length c2) (q.map lkC), .rws 3 1 (.slice A4 en.length c4) (en.map enC), .blk b8 [.slice none 0 0, .slice none 0 0, .slice none 0 0] 113, .blk b4 (bs 142 (startP p)) 70]) F ((movesM p mc s).length) [(50, .int .i64 ((0 : Nat) : Int))] (by repeat (first | exact SubR.nil | (apply SubR.cons; · rfl))) ?_ ?_ ?_
   · exact ⟨0, fd.list, fd.links, _, _, _, _, rfl, rfl, by omega, vis_start hI1 hs, rfl, H.sel [0, 1, 2, 3, 4, 5, 6, 7] rfl rfl⟩
   · repeat (first | exact trivial | refine Le.cons rfl ?_)
   clear F
   clear H
   intro m ups a w hI F
   obtain ⟨i, l, q, A5, c5, A6, c6, rfl, rfl, hi, hV, hvis, H⟩ := hI
   have hml := (H.rwsLen 0 rfl).2
   simp only [maxLen] at hml
   have hlm := hV.many
   have hll := hV.len
   refine cSR fun K12 hK12=>sBin F rfl rfl rfl rfl bLss (qNK hK12 ?_);clear hK12;clear F a;intro a F;refine cSeq (fun K13 hK13 => ?_)
   refine cIf F rfl (fun h51 => ?_) (fun h51 => ?_)
   ·
    replace h51 := of_decide_eq_true h51
    have hil : i < (movesM p mc s).length := by omega
    obtain ⟨x, hx⟩ : ∃ x, (movesM p mc s)[i]? = some x := ⟨_, List.getElem?_eq_getElem hil⟩
    have hxm : x ∈ movesM p mc s := List.mem_of_getElem? hx
    have hdr : (movesM p mc s).drop i = x :: (movesM p mc s).drop (i + 1) := by
     obtain ⟨hj, rfl⟩ := List.getElem?_eq_some_iff.1 hx
     exact List.drop_eq_getElem_cons hj
    have htk : (movesM p mc s).take (i + 1) = (movesM p mc s).take i ++ [x] := by rw [List.take_add_one, hx]; rfl
    rw [hdr] at hvis
    obtain ⟨bM, oM, rfl, _⟩ := H.rowsAt 0 rfl (rowX _) (by decide) _ _ (by rw [List.getElem?_map, hx]; rfl)
    obtain ⟨bS2, oS2, rfl, _⟩ := H.rowsAt 3 rfl (bs_rows _) (by decide) k (bs 142 s) (by rw [List.getElem?_map, hV.here]; rfl)
    have hkl2 : k < l.length := (List.getElem?_eq_some_iff.1 hV.here).1
    refine wp_skip (hK13 _ _ ?_);clear hK13;refine cSeq (fun K14 hK14 => ?_);refine wp_block ?_;refine cSR fun K15 hK15=>?_
    refine sIx underlying58 sizeOf86 F rfl rfl rfl rfl ?_ ?_
    focus (first | omega | decide | (simp; omega))
    clear F a; intro a F
    refine sLr underlying86 rfl ?si F rfl rfl rfl (by obtain ⟨b', o', g1, g2⟩ := H.rowsAt 0 rfl (rowX _) (by decide) _ _ (by rw [List.getElem?_map, hx]; rfl); cases g1; exact g2) ?_
    case si => exact info_size sizeOf86
    clear F a; intro a F;refine sAl H zeroValue86 F rfl rfl ?_;clear F a H; intro b15 a w F H
    refine sSr H 0 ?si F rfl rfl rfl ?s1 rfl rfl ?_
    case si => exact info_size sizeOf86
    case s1 => first | rfl | (repeat (first | exact one_nil | (apply one_cons; · first | rfl | assumption | exact one_bif rfl rfl)))
    clear H; intro w H;refine nK hK15 ?_;clear hK15;refine cSeq (fun K16 hK16 => ?_);refine cRegRO (by kernel_rfl) H ?_;replace H := H.drew;refine eTF 0 rfl (by kernel_rfl) F rfl rfl rfl (fun w=>rMv F rfl) H qq0 (qTF 1 rfl (by kernel_rfl) rfl rfl rfl (fun a F w=>rFa (f := 0) (k := 0) underlying113 rfl sizeOf51 rfl rfl F rfl) H qq0 (qT 2 rfl (by kernel_rfl) rfl rfl rfl rfl (fun a F w H=>rLd isAgg51 F rfl (H.cell 3 rfl rfl)) H qq0 (qTF 3 rfl (by kernel_rfl) rfl rfl rfl (fun a F w=>rMv F rfl) H qq0 ?_)));clear F a;intro a F
    refine eTakeF (k := 4) (i := 4) rfl (by kernel_rfl) F rfl rfl rfl (fun w => rIx underlying51 sizeOf70 F rfl rfl ?_) (H.sel [0, 1, 2, 3, 4, 5, 6, 7, 8] rfl rfl) (fun _ _ _ h => h) ?_
    focus exact hkl2
    clear F a; intro a F
    refine eTake (k := 5) (i := 5) rfl (by kernel_rfl) F rfl rfl rfl rfl (fun w H => rLrB underlying70 rfl sizeOf70 F rfl (by obtain ⟨b', o', g1, g2⟩ := H.rowsAt 4 rfl (bs_rows _) (by decide) k (bs 142 s) (by rw [List.getElem?_map, hV.here]; rfl); cases g1; exact g2)) (H.sel [0, 1, 2, 3, 4, 5, 6, 7, 8] rfl rfl) (fun _ _ _ h => h) ?_;clear F a;intro a F
    refine eTake (k := 6) (i := 6) rfl (by kernel_rfl) F rfl rfl rfl rfl (fun w H => rLr underlying86 rfl ?si F rfl (H.whole 0 rfl)) (H.sel [0, 1, 2, 3, 4, 5, 6, 7, 8] rfl rfl) (fun _ _ _ h => h) ?_
    case si => exact info_size sizeOf86
    clear F a; intro a F
    refine eJoin F H [1, 2, 3, 8, 10, 11, 12, 15, 48, 49, 50] 9 [true, true, true, true, true, true, true, true, true, false] (fun rs ups w => ∃ b16, ups = [(61, .agg (bs 142 (stepM p mc s x)).toArray), (16, .pointer (some ⟨b16, 0, none⟩))] ∧ Own w0 none w ((.blk b16 (bs 142 zb) 70) :: rs)) (by repeat (first | exact SubR.nil | (apply SubR.cons; · rfl))) ?_ (fun hJ => ?_)
    rotate_left
    ·
     refine eTwo (k := 7) (i := 7) (j := 8) (by kernel_rfl) F rfl rfl rfl rfl ?_ ?_
     ·
      refine oCallV F rfl rfl rfl ((hSt _ H.grown s x hF hxm)) ?_;rintro e w ⟨rfl, hb⟩;replace H := H.grow hb; clear hb;refine ⟨_, rfl, ?_⟩;clear F a; intro a F;refine eKeep (H.sel [0, 1, 2, 3, 4, 5, 6, 7, 8] rfl rfl) ?_;refine eOne (k := 8) (i := 8) rfl (by kernel_rfl) F rfl (oAlB H zB70 F rfl ?_);clear F a H; intro b16 a w F H;refine eKeep (H.sel [1, 2, 3, 4, 5, 6, 7, 8, 9] rfl rfl) ?_
      exact eGo hJ (by kernel_rfl) _ ⟨b16, rfl, H.sel [0, 1, 2, 3, 4, 5, 6, 7, 8, 9] rfl rfl⟩ (F.to (by repeat (first | exact trivial | refine Le.cons rfl ?_)))
     refine oAlB H zB70 F rfl ?_;clear F a H; intro b16 a w F H;refine eKeep (H.sel [1, 2, 3, 4, 5, 6, 7, 8, 9] rfl rfl) ?_;refine eOne (k := 8) (i := 7) rfl (by kernel_rfl) F rfl (oCallV F rfl rfl rfl ((hSt _ H.grown s x hF hxm)) ?_);rintro e w ⟨rfl, hb⟩;replace H := H.grow hb; clear hb;refine ⟨_, rfl, ?_⟩;clear F a; intro a F;refine eKeep (H.sel [1, 2, 3, 4, 5, 6, 7, 8, 9] rfl rfl) ?_
     exact eGo hJ (by kernel_rfl) _ ⟨b16, rfl, H.sel [0, 1, 2, 3, 4, 5, 6, 7, 8, 9] rfl rfl⟩ (F.to (by repeat (first | exact trivial | refine Le.cons rfl ?_)))
    clear F H; intro ups a w hI F
    obtain ⟨b16, rfl, H⟩ := hI
    refine eOne (k := 9) (i := 9) rfl (by kernel_rfl) F rfl (oSrB H 0 sizeOf70 F rfl rfl rfl (by omega) ?_);clear H; intro w H;rw [lay_all] at H;refine ePartO (by kernel_rfl) H ?_;refine eNil (k := 10) (by kernel_rfl) ?_;refine hK16 _ _ ?_;clear hK16;refine cSeq (fun K17 hK17 => ?_);refine cSR fun K18 hK18=>sMv F rfl rfl rfl (qLrB underlying70 rfl sizeOf70 rfl rfl rfl (H.whole 0 rfl) (qLkS H 3 underlying199 kyS (fun w => rfl) rfl rfl rfl rfl rfl (qNK hK18 ?_)));clear hK18;clear F a;intro a F
    refine cIf F rfl (fun h64 => ?_) (fun h64 => ?_)
    ·
     refine wp_exit ?_;refine hK14 _ _ (cReg ?_);clear hK14
     refine sBin F rfl rfl rfl rfl (bAddN (j := 1) ?_) ?_
     focus omega
     clear F a; intro a F;refine sMv F rfl rfl rfl ?_;clear F a;intro a F;refine sNil ?_
     first
     | exact ⟨_, by omega, _, ⟨i + 1, l, q, _, _, _, _, rfl, rfl, by omega, htk ▸ vis_in hV hxm h64, hvis.trans (visit_inR h64), H.sel [2, 3, 4, 5, 6, 7, 8, 9] rfl rfl⟩, F.to (by repeat (first | exact trivial | refine Le.cons rfl ?_))⟩
     | (have e2 : l.map (bs 142) ++ [bs 142 (stepM p mc s x)] = (l ++ [stepM p mc s x]).map (bs 142) := by rw [List.map_append]; rfl
        have e3 : (l.map (bs 142) ++ [bs 142 (stepM p mc s x)]).length = (l ++ [stepM p mc s x]).length := by rw [e2, List.length_map]
        have e4 : q.map lkC ++ [[Value.int .i64 (k : Int), Go.Proofs.YtbgnapmaimkpkaaGreatDoor.b8 x.t, .bool x.d, Go.Proofs.YtbgnapmaimkpkaaGreatDoor.b8 x.l]] = (q ++ [((k : Int), x)]).map lkC := by rw [List.map_append]; rfl
        have e5 : (q.map lkC ++ [[Value.int .i64 (k : Int), Go.Proofs.YtbgnapmaimkpkaaGreatDoor.b8 x.t, .bool x.d, Go.Proofs.YtbgnapmaimkpkaaGreatDoor.b8 x.l]]).length = (q ++ [((k : Int), x)]).length := by rw [e4, List.length_map]
        refine ⟨_, by omega, _, ⟨i + 1, l ++ [stepM p mc s x], q ++ [((k : Int), x)], A77, c77, A85, c85, rfl, rfl, by omega, htk ▸ vis_new hV hxm h64 (by omega), hvis.trans (visit_newR h64 (by omega)), ?_⟩, F.to (by repeat (first | exact trivial | refine Le.cons rfl ?_))⟩
        have H3 := H.sel [2, 3, 4, 5, 6, 7, 8, 9] rfl rfl
        rw [← e2, ← e3, ← e4, ← e5]
        exact H3)
    refine wp_skip (hK17 _ _ ?_);clear hK17;refine cSeq (fun K19 hK19 => ?_);refine cSR fun K20 hK20=>sFa (f := 0) (k := 0) underlying113 rfl sizeOf51 rfl rfl F rfl rfl rfl (qLd isAgg51 rfl rfl rfl (H.cell 4 rfl rfl) (qLen underlying51 rfl rfl rfl (qMv rfl rfl rfl (qBin rfl rfl rfl rfl bGeq (qNK hK20 ?_)))));clear hK20;clear F a;intro a F
    refine cIf F rfl (fun h69 => ?_) (fun h69 => ?_)
    ·
     replace h69 := of_decide_eq_true h69
     have hno : reachR p mc mst = none := by
      rw [hreach, show mst + 1 - k = (mst - k) + 1 by omega]
      exact search_no hs (hvis.trans (visit_fullR h64 (by omega)))
     refine cSR fun K21 hK21=>sBd (cs := [.slice none 0 0, .slice none 0 0, .slice none 0 0]) (places := [(0, 1), (1, 1), (2, 1)]) zeroValue113 underlying113 (by kernel_rfl) F rfl rfl rfl rfl ?_;clear F a;intro a F
     refine sSr H 8 ?si F rfl rfl rfl ?s1 rfl rfl ?_
     case si => exact info_size sizeOf113
     case s1 => first | rfl | (repeat (first | exact one_nil | (apply one_cons; · first | rfl | assumption | exact one_bif rfl rfl)))
     clear H; intro w H;refine sAs F rfl rfl rfl (qNK hK21 ?_);clear hK21;clear F a;intro a F;refine wp_ret ?_;simp only [Exit.inBlock, Exit.then];refine bRetD1 results94 F rfl rfl underlying113 rfl H 8 rfl sizeOf113 rfl ?_
     first
     | (rw [hno]
        exact exp_none H)
     | (rw [hreach, search_end (by omega)]
        exact ⟨_, _, _, _, _, _, rfl, H.sel [5, 6, 7] rfl rfl⟩)
    replace h69 := of_decide_eq_false h69;refine wp_skip (hK19 _ _ (cSR fun K22 hK22=>sMv F rfl rfl rfl (qLrB underlying70 rfl sizeOf70 rfl rfl rfl (H.whole 0 rfl) ?_)));clear hK19;clear F a;intro a F;refine sUpdS H 3 underlying199 kyS F rfl rfl rfl rfl rfl (h64) ?_;clear H; intro w H;refine nK hK22 (cSR fun K23 hK23=>sFa (f := 0) (k := 0) underlying113 rfl sizeOf51 rfl rfl F rfl rfl rfl (qLd isAgg51 rfl rfl rfl (H.cell 4 rfl rfl) (qLrB underlying70 rfl sizeOf70 rfl rfl rfl (H.whole 0 rfl) ?_)));clear hK22;clear F a;intro a F;refine sBsA H underlying51 sizeOf70 zeroValue70 rfl F rfl rfl rfl rfl rfl ?_;clear F a H; intro b76 a w F H
    refine sApp1 (bytes := 142) H 6 underlying51 typeInfo70 rfl rfl rfl rfl rfl rfl F rfl rfl rfl rfl rfl (H.whole 0 rfl) rfl ?s1 ?s2 ?_
    case s1 => first | rfl | (repeat (first | exact one_nil | (apply one_cons; · first | rfl | assumption | exact one_bif rfl rfl)))
    case s2 => (rw [List.length_map]; omega)
    clear F a H; intro A77 c77 a w F H;refine sFa (f := 0) (k := 0) underlying113 rfl sizeOf51 rfl rfl F rfl rfl rfl ?_;clear F a;intro a F;refine sSt H 5 sizeOf51 F rfl rfl rfl rfl rfl rfl ?_;clear H; intro w H;refine nK hK23 (cReg (sFa (f := 1) (k := 1) underlying113 rfl sizeOf111 rfl rfl F rfl rfl rfl (qLd isAgg111 rfl rfl rfl (H.cell 5 rfl rfl) (qMv rfl rfl rfl ?_))));clear hK23;clear F a;intro a F
    refine sLr underlying86 rfl ?si F rfl rfl rfl (H.whole 2 rfl) ?_
    case si => exact info_size sizeOf86
    clear F a; intro a F;refine sBd (cs := [.int .i64 (k : Int), Go.Proofs.YtbgnapmaimkpkaaGreatDoor.b8 x.t, .bool x.d, Go.Proofs.YtbgnapmaimkpkaaGreatDoor.b8 x.l]) (places := [(0, 1), (1, 3)]) zeroValue162 underlying162 (by kernel_rfl) F rfl rfl rfl rfl ?_;clear F a;intro a F;refine sBsA H underlying111 sizeOf162 zeroValue162 rfl F rfl rfl rfl rfl rfl ?_;clear F a H; intro b84 a w F H
    refine sApp1 (bytes := 16) H 8 underlying111 typeInfo162 rfl rfl rfl rfl rfl rfl F rfl rfl rfl rfl rfl (H.whole 0 rfl) rfl ?s1 ?s2 ?_
    case s1 => first | rfl | (repeat (first | exact one_nil | (apply one_cons; · first | rfl | assumption | exact one_bif rfl rfl)))
    case s2 => (rw [List.length_map]; omega)
    clear F a H; intro A85 c85 a w F H;refine sFa (f := 1) (k := 1) underlying113 rfl sizeOf111 rfl rfl F rfl rfl rfl ?_;clear F a;intro a F;refine sSt H 6 sizeOf111 F rfl rfl rfl rfl rfl rfl ?_;clear H; intro w H;refine nK hK14 (cReg ?_);clear hK14
    refine sBin F rfl rfl rfl rfl (bAddN (j := 1) ?_) ?_
    focus omega
    clear F a; intro a F;refine sMv F rfl rfl rfl ?_;clear F a;intro a F;refine sNil ?_
    first
    | exact ⟨_, by omega, _, ⟨i + 1, l, q, _, _, _, _, rfl, rfl, by omega, htk ▸ vis_in hV hxm h64, hvis.trans (visit_inR h64), H.sel [4, 5, 6, 7, 8, 9, 10, 11] rfl rfl⟩, F.to (by repeat (first | exact trivial | refine Le.cons rfl ?_))⟩
    | (have e2 : l.map (bs 142) ++ [bs 142 (stepM p mc s x)] = (l ++ [stepM p mc s x]).map (bs 142) := by rw [List.map_append]; rfl
       have e3 : (l.map (bs 142) ++ [bs 142 (stepM p mc s x)]).length = (l ++ [stepM p mc s x]).length := by rw [e2, List.length_map]
       have e4 : q.map lkC ++ [[Value.int .i64 (k : Int), Go.Proofs.YtbgnapmaimkpkaaGreatDoor.b8 x.t, .bool x.d, Go.Proofs.YtbgnapmaimkpkaaGreatDoor.b8 x.l]] = (q ++ [((k : Int), x)]).map lkC := by rw [List.map_append]; rfl
       have e5 : (q.map lkC ++ [[Value.int .i64 (k : Int), Go.Proofs.YtbgnapmaimkpkaaGreatDoor.b8 x.t, .bool x.d, Go.Proofs.YtbgnapmaimkpkaaGreatDoor.b8 x.l]]).length = (q ++ [((k : Int), x)]).length := by rw [e4, List.length_map]
       refine ⟨_, by omega, _, ⟨i + 1, l ++ [stepM p mc s x], q ++ [((k : Int), x)], A77, c77, A85, c85, rfl, rfl, by omega, htk ▸ vis_new hV hxm h64 (by omega), hvis.trans (visit_newR h64 (by omega)), ?_⟩, F.to (by repeat (first | exact trivial | refine Le.cons rfl ?_))⟩
       have H3 := H.sel [4, 5, 6, 7, 8, 9, 10, 11] rfl rfl
       rw [← e2, ← e3, ← e4, ← e5]
       exact H3)
   replace h51 := of_decide_eq_false h51
   obtain rfl : i = (movesM p mc s).length := by omega
   rw [List.drop_length] at hvis
   have hvis : visitR p mc mst k s (movesM p mc s) fd.list fd.links = some (l, q) := hvis
   refine wp_exit ?_;refine hK8 _ _ (cReg (sMv F rfl rfl rfl ?_));clear hK8;clear F a;intro a F
   refine sBin F rfl rfl rfl rfl (bAddN (j := 1) ?_) ?_
   focus omega
   clear F a; intro a F;refine sAs F rfl rfl rfl ?_;clear F a;intro a F;refine sNil ?_;subst hen
   exact ⟨_, by omega, _, ⟨k + 1, ⟨l, q, _⟩, A5, c5, A6, c6, A4, c4, rfl, rfl, search_step hI1 hs hvis, hreach.trans (by rw [show mst + 1 - k = (mst + 1 - (k + 1)) + 1 by omega]; exact search_go hs hvis), H.sel [1, 2, 3, 4, 5, 6, 7] rfl rfl⟩, F.to (by repeat (first | exact trivial | refine Le.cons rfl ?_))⟩
  replace h29 := of_decide_eq_false h29;refine wp_exit ?_;refine hK4 _ _ (cSR fun K24 hK24=>?_);clear hK4
  refine sLr underlying113 rfl ?si F rfl rfl rfl (H.whole 1 rfl) ?_
  case si => exact info_size sizeOf113
  clear F a; intro a F
  refine sSr H 5 ?si F rfl rfl rfl ?s1 rfl rfl ?_
  case si => exact info_size sizeOf113
  case s1 => first | rfl | (repeat (first | exact one_nil | (apply one_cons; · first | rfl | assumption | exact one_bif rfl rfl)))
  clear H; intro w H;refine sAs F rfl rfl rfl (qNK hK24 ?_);clear hK24;clear F a;intro a F;refine wp_ret ?_;refine bRetD1 results94 F rfl rfl underlying113 rfl H 5 rfl sizeOf113 rfl ?_
  first
  | (rw [hno]
     exact exp_none H)
  | (rw [hreach, search_end (by omega)]
     exact ⟨_, _, _, _, _, _, rfl, H.sel [2, 3, 4] rfl rfl⟩)
end Go.Proofs.YtbgnapmaimkpkaaGreatDoor
