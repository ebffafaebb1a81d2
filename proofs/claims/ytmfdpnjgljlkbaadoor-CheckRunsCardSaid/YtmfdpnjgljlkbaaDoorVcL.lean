/-
  Structs and arrays of plain cells against each other. Conditions: none.
 
  Regions that draw their order, walked in an order of the text's choice: values first, calls and stores where nothing else may come up. Conditions: none.
 
  Structs and arrays of bytes alone, by place: bs n s are the n cells of s. Conditions: none.
 
  Slices of the function's own that grow, by rows; array's slices, copy; byte structs that are built. Conditions: none.
 
  Results that are byte structs; remainder, min; maps from bytes. Conditions: none.
 
  Regions that draw: several operations that change the memory may come up; their orders meet again. Conditions: none.
 
  WALK2. The types of bytes alone: their zero values, and how two values of them are compared. Conditions: none.
-/
import Derived.Test.YtmfdpnjgljlkbaaDoorVcK
import Derived.ChangeKeysEq
import Derived.Laws.IdiomCopy
import Derived.Carry
import Derived.MapKept
set_option linter.unusedSimpArgs false
set_option linter.unusedVariables false
namespace Go.Proofs.YtmfdpnjgljlkbaaDoor
open Go.RowKit

variable {P : Program}
inductive CK where
  | u8 | bool | int | str
deriving DecidableEq
def CK.ok : CK → Value → Prop
  | .u8, v => ∃ n, v = .int .u8 n
  | .bool, v => ∃ b, v = .bool b
  | .int, v => ∃ n, v = .int .i64 n
  | .str, v => ∃ s, v = .string s
def Fits : List CK → List Value → Prop
  | [], [] => True
  | k :: ks, v :: vs => k.ok v ∧ Fits ks vs
  | _, _ => False
def cellEq : Value → Value → Bool
  | .int _ a, .int _ b => a == b
  | .bool a, .bool b => a == b
  | .string a, .string b => a.toList == b.toList
  | _, _ => false
def ceq : List Value → List Value → Bool
  | [], [] => true
  | x :: r, y :: s => cellEq x y && ceq r s
  | _, _ => false
theorem Fits.len : ∀ {ks : List CK} {vs : List Value}, Fits ks vs → vs.length = ks.length
  | [], [], _ => rfl
  | _ :: _, _ :: _, h => by simp [Fits.len h.2]
  | [], _ :: _, h => h.elim
  | _ :: _, [], h => h.elim
theorem Fits.split : ∀ {k1 k2 : List CK} {vs : List Value}, Fits (k1 ++ k2) vs → Fits k1 (vs.take k1.length) ∧ Fits k2 (vs.drop k1.length)
  | [], _, _, h => ⟨trivial, h⟩
  | _ :: _, _, [], h => h.elim
  | _ :: _, _, _ :: _, h => ⟨⟨h.1, (Fits.split h.2).1⟩, (Fits.split h.2).2⟩
theorem ceq_append : ∀ {a b c d : List Value}, a.length = c.length → ceq (a ++ b) (c ++ d) = (ceq a c && ceq b d)
  | [], _, [], _, _ => by simp [ceq]
  | [], _, _ :: _, _, h => by simp at h
  | _ :: _, _, [], _, h => by simp at h
  | _ :: _, _, _ :: _, _, h => by
    simp only [List.cons_append, ceq]
    rw [ceq_append (by simpa using h), Bool.and_assoc]
theorem ceq_cut (n : Nat) {x y : List Value} (hx : n ≤ x.length) (hy : n ≤ y.length) : ceq x y = (ceq (x.take n) (y.take n) && ceq (x.drop n) (y.drop n)) := by
  have h := ceq_append (a := x.take n) (b := x.drop n) (c := y.take n) (d := y.drop n) (by rw [List.length_take, List.length_take]; omega)
  rw [List.take_append_drop, List.take_append_drop] at h
  exact h
/-- Cells as a value. -/
def pk : Bool → List Value → Value
  | true, vs => .agg vs.toArray
  | false, [v] => v
  | false, _ => undef
/-- Values of type t, of such cells, are compared cell by cell. -/
def EqT (P : Program) (D : Nat) (t : TypeId) (ks : List CK) (ag : Bool) : Prop :=
  ∀ d w xs ys, Fits ks xs → Fits ks ys → (Op.equalIn (d + D) t (pk ag xs) (pk ag ys)).run P w = .ok (ceq xs ys) w
theorem EqT.up {D : Nat} {t : TypeId} {ks : List CK} {ag : Bool} (h : EqT P D t ks ag) (n : Nat) : EqT P (D + n) t ks ag := fun d w xs ys hx hy => by
  have := h (d + n) w xs ys hx hy
  rwa [show d + (D + n) = d + n + D by omega]
theorem eqInt {t : TypeId} {k : IntKind} {c : CK} (hu : P.underlying t = some (.int k)) (hc : c = .u8 ∨ c = .int) : EqT P 1 t [c] false := by
  intro d w xs ys hx hy
  match xs, ys, hx, hy with
  | [x], [y], hx, hy =>
    rcases hc with rfl | rfl
    · obtain ⟨⟨a, rfl⟩, _⟩ := hx
      obtain ⟨⟨b, rfl⟩, _⟩ := hy
      simp [pk, run_equalIn_int w d t .u8 k a b hu, ceq, cellEq]
    · obtain ⟨⟨a, rfl⟩, _⟩ := hx
      obtain ⟨⟨b, rfl⟩, _⟩ := hy
      simp [pk, run_equalIn_int w d t .i64 k a b hu, ceq, cellEq]
theorem eqBool {t : TypeId} (hu : P.underlying t = some .bool) : EqT P 1 t [.bool] false := by
  intro d w xs ys hx hy
  match xs, ys, hx, hy with
  | [x], [y], hx, hy =>
    obtain ⟨⟨a, rfl⟩, _⟩ := hx
    obtain ⟨⟨b, rfl⟩, _⟩ := hy
    simp [pk, run_equalIn_bool w d t a b hu, ceq, cellEq]
theorem part_pk {e : TypeId} {n off : Nat} {ag : Bool} {vs : List Value} (w : World) (hs : ∀ w, (sizeOf e).run P w = .ok n w) (ha : ∀ w, (isAgg e).run P w = .ok ag w) (h1 : ag = false → n = 1) (hl : off + n ≤ vs.length) :
    (part e vs.toArray off).run P w = .ok (pk ag ((vs.drop off).take n)) w := by
  unfold part
  simp only [Sem.run_bind, ha, Result.andThen_ok]
  cases ag
  · obtain rfl := h1 rfl
    have hlt : off < vs.length := by omega
    have e1 : (vs.drop off).take 1 = [vs[off]] := by rw [List.drop_eq_getElem_cons hlt]; rfl
    simp [e1, pk, hlt]
  · simp [hs, pk, List.extract_eq_take_drop]
theorem cellsOf_size {e : TypeId} {n : Nat} (hs : ∀ w, (sizeOf e).run P w = .ok n w) : P.cellsOf e = n ∧ ∃ i, P.info? e = some i := by
  have := hs default
  unfold sizeOf typeInfo at this
  cases hi : P.info? e with
  | none => simp [hi, go_sem] at this
  | some i => simp [hi, go_sem] at this; exact ⟨by simp [Program.cellsOf, hi, this], i, rfl⟩
def repK : Nat → List CK → List CK
  | 0, _ => []
  | n + 1, ks => ks ++ repK n ks
theorem repK_length (ks : List CK) : ∀ n, (repK n ks).length = n * ks.length
  | 0 => by simp [repK]
  | n + 1 => by simp only [repK, List.length_append, repK_length ks n, Nat.add_mul]; omega
theorem eqArr {D : Nat} {t e : TypeId} {len : Nat} {ks : List CK} {ag : Bool} (hu : P.underlying t = some (.array len e)) (hs : ∀ w, (sizeOf e).run P w = .ok ks.length w) (ha : ∀ w, (isAgg e).run P w = .ok ag w) (h1 : ag = false → ks.length = 1) (h : EqT P D e ks ag) :
    EqT P (D + 1) t (repK len ks) true := by
  intro d w xs ys hx hy
  obtain ⟨hce, i, hi⟩ := cellsOf_size hs
  have hr := run_equalIn_array w (d + D) (P := P) xs.toArray ys.toArray hu hi
  rw [hce] at hr
  show (Op.equalIn (d + (D + 1)) t (.agg xs.toArray) (.agg ys.toArray)).run P w = _
  rw [show d + (D + 1) = d + D + 1 by omega, hr]
  have key : ∀ (m s : Nat), Fits (repK m ks) (xs.drop (s * ks.length)) → Fits (repK m ks) (ys.drop (s * ks.length)) →
      (Op.eqItems (d + D) e ks.length xs.toArray ys.toArray (List.range' s m)).run P w = .ok (ceq (xs.drop (s * ks.length)) (ys.drop (s * ks.length))) w := by
    intro m
    induction m with
    | zero =>
      intro s fx fy
      have e1 : xs.drop (s * ks.length) = [] := List.eq_nil_of_length_eq_zero fx.len
      have e2 : ys.drop (s * ks.length) = [] := List.eq_nil_of_length_eq_zero fy.len
      rw [e1, e2]
      simp [Op.eqItems, ceq]
    | succ m ih =>
      intro s fx fy
      have lx := fx.len
      have ly := fy.len
      simp only [repK, List.length_append, List.length_drop] at lx ly
      obtain ⟨fx1, fx2⟩ := Fits.split (k1 := ks) fx
      obtain ⟨fy1, fy2⟩ := Fits.split (k1 := ks) fy
      rw [List.drop_drop] at fx2 fy2
      have es : s * ks.length + ks.length = (s + 1) * ks.length := by rw [Nat.add_mul]; omega
      rw [es] at fx2 fy2
      have hih := ih (s + 1) fx2 fy2
      rcases Nat.eq_zero_or_pos ks.length with h0 | h0
      · have p1 := part_pk (P := P) (vs := xs) (off := s * ks.length) w hs ha h1 (by rw [h0]; simp)
        have p2 := part_pk (P := P) (vs := ys) (off := s * ks.length) w hs ha h1 (by rw [h0]; simp)
        simp only [List.range'_succ, Op.eqItems, Sem.run_bind, p1, p2, Result.andThen_ok, h d w _ _ fx1 fy1]
        rw [ceq_cut (x := xs.drop (s * ks.length)) (y := ys.drop (s * ks.length)) ks.length (by rw [h0]; simp) (by rw [h0]; simp), List.drop_drop, List.drop_drop, es]
        cases ceq ((xs.drop (s * ks.length)).take ks.length) ((ys.drop (s * ks.length)).take ks.length)
        · simp
        · simpa using hih
      · have p1 := part_pk (P := P) (vs := xs) (off := s * ks.length) w hs ha h1 (by omega)
        have p2 := part_pk (P := P) (vs := ys) (off := s * ks.length) w hs ha h1 (by omega)
        simp only [List.range'_succ, Op.eqItems, Sem.run_bind, p1, p2, Result.andThen_ok, h d w _ _ fx1 fy1]
        rw [ceq_cut (x := xs.drop (s * ks.length)) (y := ys.drop (s * ks.length)) ks.length (by rw [List.length_drop]; omega) (by rw [List.length_drop]; omega), List.drop_drop, List.drop_drop, es]
        cases ceq ((xs.drop (s * ks.length)).take ks.length) ((ys.drop (s * ks.length)).take ks.length)
        · simp
        · simpa using hih
  have := key len 0 (by simpa using hx) (by simpa using hy)
  rw [List.range_eq_range']
  simpa using this
/-- A struct's fields, one behind the other. -/
def FieldsT (P : Program) (D : Nat) : Nat → List Field → List (List CK × Bool) → Prop
  | _, [], [] => True
  | off, f :: fs, (ks, ag) :: r => f.offset = off ∧ f.name ≠ "_" ∧ (∀ w, (sizeOf f.type).run P w = .ok ks.length w) ∧ (∀ w, (isAgg f.type).run P w = .ok ag w) ∧ (ag = false → ks.length = 1) ∧ EqT P D f.type ks ag ∧ FieldsT P D (off + ks.length) fs r
  | _, _, _ => False
theorem eqStruct {D : Nat} {t : TypeId} {fs : Array Field} {kss : List (List CK × Bool)} (hu : P.underlying t = some (.struct fs)) (hp : P.stoodInHeld t = false) (hf : FieldsT P D 0 fs.toList kss) :
    EqT P (D + 1) t (kss.flatMap (·.1)) true := by
  intro d w xs ys hx hy
  have hfs : P.fieldsOf t = fs := by simp [Program.fieldsOf, hu]
  have hr := run_equalIn_struct (P := P) w (d + D) t xs.toArray ys.toArray (by rw [hfs]; exact hu) hp
  rw [hfs] at hr
  show (Op.equalIn (d + (D + 1)) t (.agg xs.toArray) (.agg ys.toArray)).run P w = _
  rw [show d + (D + 1) = d + D + 1 by omega, hr]
  have key : ∀ (l : List Field) (kss : List (List CK × Bool)) (off : Nat), FieldsT P D off l kss → Fits (kss.flatMap (·.1)) (xs.drop off) → Fits (kss.flatMap (·.1)) (ys.drop off) →
      (Op.eqFields (d + D) xs.toArray ys.toArray l).run P w = .ok (ceq (xs.drop off) (ys.drop off)) w := by
    intro l
    induction l with
    | nil =>
      intro kss off hf fx fy
      cases kss with
      | cons _ _ => exact hf.elim
      | nil =>
        have e1 : xs.drop off = [] := List.eq_nil_of_length_eq_zero fx.len
        have e2 : ys.drop off = [] := List.eq_nil_of_length_eq_zero fy.len
        rw [e1, e2]
        simp [Op.eqFields, ceq]
    | cons f fs ih =>
      intro kss off hf fx fy
      match kss, hf with
      | (ks, ag) :: r, hf =>
        obtain ⟨h1, h2, h3, h4, h5, h6, h7⟩ := hf
        have lx := fx.len
        have ly := fy.len
        simp only [List.flatMap_cons, List.length_append, List.length_drop] at lx ly
        simp only [List.flatMap_cons] at fx fy
        obtain ⟨fx1, fx2⟩ := Fits.split fx
        obtain ⟨fy1, fy2⟩ := Fits.split fy
        rw [List.drop_drop] at fx2 fy2
        have hih := ih r _ h7 fx2 fy2
        have hb : ks.length = 0 ∨ off + ks.length ≤ xs.length := by omega
        have hb2 : ks.length = 0 ∨ off + ks.length ≤ ys.length := by omega
        by_cases hz : off + ks.length ≤ xs.length ∧ off + ks.length ≤ ys.length
        · have p1 := part_pk (P := P) (vs := xs) (off := off) w h3 h4 h5 hz.1
          have p2 := part_pk (P := P) (vs := ys) (off := off) w h3 h4 h5 hz.2
          simp only [Op.eqFields, h1, h2, ne_eq, not_false_eq_true, if_true, Sem.run_bind, p1, p2, Result.andThen_ok, h6 d w _ _ fx1 fy1]
          rw [ceq_cut (x := xs.drop off) (y := ys.drop off) ks.length (by rw [List.length_drop]; omega) (by rw [List.length_drop]; omega), List.drop_drop, List.drop_drop]
          cases ceq ((xs.drop off).take ks.length) ((ys.drop off).take ks.length)
          · simp
          · simpa using hih
        · have hk0 : ks.length = 0 := by omega
          have hag : ag = true := by cases ag; exact absurd (h5 rfl) (by omega); rfl
          subst hag
          have hks : ks = [] := List.eq_nil_of_length_eq_zero hk0
          subst hks
          have p : ∀ (vs : List Value), (part f.type vs.toArray off).run P w = .ok (.agg #[]) w := by
            intro vs
            unfold part
            simp only [Sem.run_bind, h4, Result.andThen_ok, if_true, h3, Sem.run_pure, List.length_nil, Nat.add_zero]
            simp
          have h8 := h6 d w [] [] trivial trivial
          simp only [Op.eqFields, h1, h2, ne_eq, not_false_eq_true, if_true, Sem.run_bind, p, Result.andThen_ok]
          have h9 : (Op.equalIn (d + D) f.type (.agg #[]) (.agg #[])).run P w = .ok true w := h8
          simp only [h9, Result.andThen_ok]
          simpa using hih
  have := key fs.toList kss 0 hf (by simpa using hx) (by simpa using hy)
  simpa using this
theorem bEqT {D : Nat} {t : TypeId} {ks : List CK} {x' y' : Operand} {xs ys : List Value} (h : EqT P D t ks true) (hg : P.eqGuardType P.depth t = false) (hD : Nat.ble D 10000 = true) (hx : Fits ks xs) (hy : Fits ks ys) :
    BinR P .eql t x' y' (.agg xs.toArray) (.agg ys.toArray) (.bool (ceq xs ys)) := fun w => by
  have hl := Nat.le_of_ble_eq_true hD
  have h1 := h (10000 - D) w xs ys hx hy
  rw [show 10000 - D + D = 10000 by omega] at h1
  simp only [Sem.run_bind, run_eqGuard_agg w .eql t x' y' _ _ hg, Result.andThen_ok, run_eql_struct, show (Op.equalIn 10000 t (.agg xs.toArray) (.agg ys.toArray)).run P w = _ from h1]
theorem bNeT {D : Nat} {t : TypeId} {ks : List CK} {x' y' : Operand} {xs ys : List Value} (h : EqT P D t ks true) (hg : P.eqGuardType P.depth t = false) (hD : Nat.ble D 10000 = true) (hx : Fits ks xs) (hy : Fits ks ys) :
    BinR P .neq t x' y' (.agg xs.toArray) (.agg ys.toArray) (.bool (!ceq xs ys)) := fun w => by
  have hl := Nat.le_of_ble_eq_true hD
  have h1 := h (10000 - D) w xs ys hx hy
  rw [show 10000 - D + D = 10000 by omega] at h1
  simp only [Sem.run_bind, run_eqGuard_agg w .neq t x' y' _ _ hg, Result.andThen_ok, run_neq_struct, show (Op.equalIn 10000 t (.agg xs.toArray) (.agg ys.toArray)).run P w = _ from h1]
/-- Bytes alone. -/
theorem fits_bytes : ∀ (S : List UInt8), Fits (List.replicate S.length .u8) (S.map b8)
  | [] => trivial
  | _ :: r => ⟨⟨_, rfl⟩, fits_bytes r⟩
theorem ceq_bytes : ∀ (S T : List UInt8), ceq (S.map b8) (T.map b8) = (S == T)
  | [], [] => rfl
  | [], _ :: _ => rfl
  | _ :: _, [] => rfl
  | x :: r, y :: s => by
    simp only [List.map_cons, ceq, cellEq, ceq_bytes r s, toNat_inj8]
    rfl
theorem repK_u8 (m n : Nat) : repK m (List.replicate n .u8) = List.replicate (m * n) .u8 := by
  induction m with
  | zero => simp [repK]
  | succ m ih => rw [repK, ih, List.replicate_append_replicate, Nat.add_mul, Nat.one_mul, Nat.add_comm]
theorem bEqS {D n : Nat} {t : TypeId} {x' y' : Operand} {S T : List UInt8} (h : EqT P D t (List.replicate n .u8) true) (hg : P.eqGuardType P.depth t = false) (hD : Nat.ble D 10000 = true) (hS : S.length = n) (hT : T.length = n) :
    BinR P .eql t x' y' (.agg (S.map b8).toArray) (.agg (T.map b8).toArray) (.bool (S == T)) := by
  rw [← ceq_bytes]
  exact bEqT h hg hD (by subst hS; exact fits_bytes S) (by rw [← hT]; exact fits_bytes T)
theorem bNeS {D n : Nat} {t : TypeId} {x' y' : Operand} {S T : List UInt8} (h : EqT P D t (List.replicate n .u8) true) (hg : P.eqGuardType P.depth t = false) (hD : Nat.ble D 10000 = true) (hS : S.length = n) (hT : T.length = n) :
    BinR P .neq t x' y' (.agg (S.map b8).toArray) (.agg (T.map b8).toArray) (.bool (!(S == T))) := by
  rw [← ceq_bytes]
  exact bNeT h hg hD (by subst hS; exact fits_bytes S) (by rw [← hT]; exact fits_bytes T)
end Go.Proofs.YtmfdpnjgljlkbaaDoor

namespace Go.Proofs.YtmfdpnjgljlkbaaDoor
open Go.RowKit

variable {P : Program} {l : List Oper} {Q : Exit → Act → World → Prop} {S : World → Prop} {N : Nat} {a : Act} {env : List (Nat × Value)} {w : World}
/-- Operations that look at their operands alone. -/
def freeOp (o : Oper) : Bool := match o.op with
  | .move _ => true
  | .assign _ => true
  | .extract .. => true
  | .pick .. => true
  | .binOp .. => true
  | .unOp .. => true
  | .convert .. => true
  | .fieldAddr .. => true
  | .indexAddr .. => true
  | .index .. => true
  | _ => false
/-- Every other operation that looks at the memory comes ahead of j, or behind it, in every order. -/
def barr2 (l : List Oper) (j : Nat) : Bool := (List.range l.length).all fun i => i == j || (match l[i]? with | some o => freeOp o | none => true) || reach l l.length i j || reach l l.length j i
/-- Whatever order is picked; S holds behind each operation up to one that parts the region. -/
def wpT (P : Program) (l : List Oper) (Q : Exit → Act → World → Prop) : Nat → (World → Prop) → Array Bool → Act → World → Prop
  | 0, _, listed, a, w => Region.ready .any l.toArray listed = [] ∧ Q .normal a w
  | fuel + 1, S, listed, a, w =>
    (Region.ready .any l.toArray listed = [] → Q .normal a w) ∧
    ∀ i ∈ Region.ready .any l.toArray listed, wpOp P l.toArray Q i (fun a' w' => (barr2 l i = true ∧ ∃ S' : World → Prop, S' w' ∧ wpT P l Q fuel S' (listed.setIfInBounds i true) a' w') ∨ (S w' ∧ wpT P l Q fuel S (listed.setIfInBounds i true) a' w')) a w
theorem any_of_wpT : ∀ (fuel : Nat) (S : World → Prop) (listed : Array Bool) (a : Act) (w : World), wpT P l Q fuel S listed a w → wpAny P .any l.toArray Q fuel listed a w
  | 0, _, _, _, _, h => h
  | fuel + 1, _, _, _, _, h => ⟨h.1, fun i hi => wpOp_mono (fun _ _ h' => by
      rcases h' with ⟨_, S', _, h'⟩ | ⟨_, h'⟩
      · exact any_of_wpT fuel S' _ _ _ h'
      · exact any_of_wpT fuel _ _ _ _ h') (h.2 i hi)⟩
theorem wpT_mono {S S' : World → Prop} (hS : ∀ w, S' w → S w) : ∀ (fuel : Nat) (listed : Array Bool) (a : Act) (w : World), wpT P l Q fuel S' listed a w → wpT P l Q fuel S listed a w
  | 0, _, _, _, h => h
  | fuel + 1, _, _, _, h => ⟨h.1, fun i hi => wpOp_mono (fun _ _ h' => by
      rcases h' with h' | ⟨h1, h2⟩
      · exact .inl h'
      · exact .inr ⟨hS _ h1, wpT_mono hS fuel _ _ _ h2⟩) (h.2 i hi)⟩
theorem not_barr2 {listed : Array Bool} (hc : Closed l listed) {i j : Nat} {oi : Oper} (hoi : l[i]? = some oi) (hf : freeOp oi = false) (hi : i ∈ Region.ready .any l.toArray listed) (hj : j ∈ Region.ready .any l.toArray listed) (hne : j ≠ i) : barr2 l j = false := by
  cases hb : barr2 l j with
  | false => rfl
  | true =>
    exfalso
    obtain ⟨hi0, oi', hoi', hia⟩ := mem_ready.1 hi
    obtain ⟨hj0, oj, hoj, hja⟩ := mem_ready.1 hj
    have hil : i < l.length := (List.getElem?_eq_some_iff.1 hoi).1
    have h1 := (List.all_eq_true.1 hb) i (List.mem_range.2 hil)
    simp only [hoi, hf, Bool.or_false, Bool.or_eq_true, beq_iff_eq] at h1
    have flip : ∀ k, listed.getD k true = false → listed.getD k false = true → False := fun k h0 h1 => by
      rcases Nat.lt_or_ge k listed.size with h | h
      · simp [h] at h0 h1; rw [h0] at h1; cases h1
      · simp [Array.getElem?_eq_none h] at h1
    rcases h1 with (h1 | h1) | h1
    · exact hne h1.symm
    · exact flip i hi0 (reach_listed hc _ j oj (by simpa using hoj) hja h1)
    · exact flip j hj0 (reach_listed hc _ i oi' (by simpa using hoi') hia h1)
/-- An operation that yields its value wherever it stands may be taken first. -/
theorem wpT_first {S0 : World → Prop} {i : Nat} {oi : Oper} {v : Value} (hi : l.toArray[i]? = some oi) (hsel : ∀ (j : Nat) (o : Oper) cs b, l.toArray[j]? = some o → o.op ≠ .select cs b)
    (hQ : ∀ c a w, Q (.panic c) (a.put oi.dst v) w → Q (.panic c) a w) (hfree : freeOp oi = false ∨ ∀ w, S0 w) :
    ∀ (fuel : Nat) (S : World → Prop) (listed : Array Bool) (a : Act) (w : World), (freeOp oi = false → ∀ w, S w → S0 w) → Closed l listed →
      (∀ j oj, l.toArray[j]? = some oj → j ≠ i → listed.getD j true = false → (∀ e ∈ oj.after, Region.binds .any e = true → e.on ≠ i) → oi.apart l.toArray oj = true) →
      i ∈ Region.ready .any l.toArray listed → YieldsIf P l.toArray S0 oi v a → S w →
      wpT P l Q fuel S (listed.setIfInBounds i true) (a.put oi.dst v) w → wpT P l Q (fuel + 1) S listed a w := by
  intro fuel
  induction fuel with
  | zero =>
    intro S listed a w hSS hc hfr hr hy hS H
    have hS0 : S0 w := by rcases hfree with h | h; exact hSS h w hS; exact h w
    refine ⟨fun h => (by rw [h] at hr; cases hr), fun j hj => ?_⟩
    by_cases hji : j = i
    · subst hji; exact hy.wpOp hi hS0 (.inr ⟨hS, H⟩)
    · have := ready_mono hj hji
      rw [H.1] at this
      cases this
  | succ fuel ih =>
    intro S listed a w hSS hc hfr hr hy hS H
    have hS0 : S0 w := by rcases hfree with h | h; exact hSS h w hS; exact h w
    refine ⟨fun h => (by rw [h] at hr; cases hr), fun j hj => ?_⟩
    by_cases hji : j = i
    · subst hji; exact hy.wpOp hi hS0 (.inr ⟨hS, H⟩)
    · have h1 := H.2 j (ready_mono hj hji)
      obtain ⟨hjun, oj, hoj, hall⟩ := mem_ready.1 hj
      have hnot : ∀ e ∈ oj.after, Region.binds .any e = true → e.on ≠ i := fun e he hb heq => by
        have h1 := hall e he hb
        have h0 := (mem_ready.1 hr).1
        rw [heq] at h1
        rcases Nat.lt_or_ge i listed.size with h' | h'
        · simp [h'] at h0 h1; rw [h0] at h1; cases h1
        · simp [Array.getElem?_eq_none h'] at h1
      have h2 := wpOp_putIf hoj (hfr j oj hoj hji hjun hnot) (fun cs b => hsel i oi cs b hi) (fun cs b => hsel j oj cs b hoj) hQ hy h1
      have hfr' : ∀ k ok, l.toArray[k]? = some ok → k ≠ i → (listed.setIfInBounds j true).getD k true = false →
          (∀ e ∈ ok.after, Region.binds .any e = true → e.on ≠ i) → oi.apart l.toArray ok = true := fun k ok hk hki hun hno => by
        refine hfr k ok hk hki ?_ hno
        by_cases hjk : j = k
        · subst hjk; exact hjun
        · rw [getD_set_ne true hjk] at hun; exact hun
      refine wpOp_mono (fun a' w' h3 => ?_) h2
      obtain ⟨h3y, h3s⟩ := h3
      rcases h3s with ⟨hb, S', hS', h3w⟩ | ⟨h3S, h3w⟩
      · have hff : freeOp oi = true := by
          cases hq : freeOp oi with
          | true => rfl
          | false =>
            have hb2 := not_barr2 hc (by simpa using hi) hq hr hj hji
            rw [hb2] at hb; cases hb
        exact .inl ⟨hb, S', hS', ih S' (listed.setIfInBounds j true) a' w' (fun h => by rw [hff] at h; cases h) (hc.list hj) hfr' (ready_mono hr (Ne.symm hji)) h3y hS' (by
          rw [Array.setIfInBounds_comm _ _ hji]
          exact h3w)⟩
      · exact .inr ⟨h3S, ih S (listed.setIfInBounds j true) a' w' hSS (hc.list hj) hfr' (ready_mono hr (Ne.symm hji)) h3y h3S (by
          rw [Array.setIfInBounds_comm _ _ hji]
          exact h3w)⟩

/-- The goal with k operations listed: those that m marks. -/
def wpR (P : Program) (l : List Oper) (Q : Exit → Act → World → Prop) (S : World → Prop) (k : Nat) (m : List Bool) (a : Act) (w : World) : Prop :=
  Closed l m.toArray → k ≤ l.length → wpT P l Q (l.length - k) S m.toArray a w
def takeR (l : List Oper) (m : List Bool) (k i : Nat) : Bool := Nat.blt k l.length && Region.noSelect l.toArray && (Region.ready .any l.toArray m.toArray).contains i && Region.free .any l.toArray m.toArray i
def loneR (l : List Oper) (m : List Bool) (k i : Nat) : Bool := Nat.blt k l.length && match Region.ready .any l.toArray m.toArray with | [j] => Nat.beq j i | _ => false
/-- The i-th operation. -/
def opAt : List Oper → Nat → Option Oper
  | [], _ => none
  | o :: _, 0 => some o
  | _ :: r, i + 1 => opAt r i
theorem opAt_get : ∀ {l : List Oper} {i : Nat} {o : Oper}, opAt l i = some o → l[i]? = some o
  | [], _, _, h => by cases h
  | _ :: _, 0, _, h => by simpa [opAt] using h
  | _ :: r, i + 1, _, h => by simpa using opAt_get (l := r) h
theorem set_arr (m : List Bool) (i : Nat) : m.toArray.setIfInBounds i true = (m.set i true).toArray := by simp
theorem cRegR {id : Nat} (hm : P.follows .mixedOrders = true) (S : World → Prop) (h : wpR P l Q S 0 (List.replicate l.length false) a w.drew) : (Code.region id l.toArray true).wp P Q a w := by
  refine wp_region_any hm ?_
  have hc : Closed l (List.replicate l.length false).toArray := fun j o hj hl e he hb => by
    exfalso
    simp only [Array.getD_eq_getD_getElem?, List.getElem?_toArray, List.getElem?_replicate] at hl
    split at hl <;> simp at hl
  have := any_of_wpT _ _ _ _ _ (h hc (Nat.zero_le _))
  rw [List.size_toArray, show Array.replicate l.length false = (List.replicate l.length false).toArray by simp]
  exact this
theorem eTake {k i : Nat} {m : List Bool} {o : Oper} {d : Tmp} {v : Value} (hi : opAt l i = some o) (ht : takeR l m k i = true) (F : Has N a env) (hg : wants l env o.guard = true) (hd : o.dst = some d) (hN : Nat.blt d N = true)
    (hfo : freeOp o = false) (hr : ∀ w, S w → (execOp a.eval o).run P w = .ok (.value v) w) (hS : S w) (hQ : ∀ c a w, Q (.panic c) (a.put (some d) v) w → Q (.panic c) a w)
    (K : ∀ a, Has N a ((d, v) :: env) → wpR P l Q S (k + 1) (m.set i true) a w) : wpR P l Q S k m a w := by
  intro hc hk
  simp only [takeR, Bool.and_eq_true] at ht
  obtain ⟨⟨⟨hlt, hs⟩, hr1⟩, hf⟩ := ht
  have hlt := Nat.blt_eq.mp hlt
  have hr1 : i ∈ Region.ready .any l.toArray m.toArray := by simpa using hr1
  have hK := K _ (F.put hN)
  unfold wpR at hK
  rw [← set_arr] at hK
  have e : l.length - k = (l.length - (k + 1)) + 1 := by omega
  rw [e]
  have ho : l.toArray[i]? = some o := by simpa using opAt_get hi
  refine wpT_first ho (Region.noSelect_spec hs) (by rw [hd]; exact hQ) (.inl hfo) _ _ _ _ _ (fun _ _ h => h) hc (Region.free_spec ho hf) hr1 (.inl ⟨wanted_of F hg, hr⟩) hS (by rw [hd]; exact hK (hc.list hr1) hlt)
theorem eTakeF {k i : Nat} {m : List Bool} {o : Oper} {d : Tmp} {v : Value} (hi : opAt l i = some o) (ht : takeR l m k i = true) (F : Has N a env) (hg : wants l env o.guard = true) (hd : o.dst = some d) (hN : Nat.blt d N = true)
    (hr : ∀ w, (execOp a.eval o).run P w = .ok (.value v) w) (hS : S w) (hQ : ∀ c a w, Q (.panic c) (a.put (some d) v) w → Q (.panic c) a w)
    (K : ∀ a, Has N a ((d, v) :: env) → wpR P l Q S (k + 1) (m.set i true) a w) : wpR P l Q S k m a w := by
  intro hc hk
  simp only [takeR, Bool.and_eq_true] at ht
  obtain ⟨⟨⟨hlt, hs⟩, hr1⟩, hf⟩ := ht
  have hlt := Nat.blt_eq.mp hlt
  have hr1 : i ∈ Region.ready .any l.toArray m.toArray := by simpa using hr1
  have hK := K _ (F.put hN)
  unfold wpR at hK
  rw [← set_arr] at hK
  have e : l.length - k = (l.length - (k + 1)) + 1 := by omega
  rw [e]
  have ho : l.toArray[i]? = some o := by simpa using opAt_get hi
  refine wpT_first (S0 := fun _ => True) ho (Region.noSelect_spec hs) (by rw [hd]; exact hQ) (.inr fun _ => trivial) _ _ _ _ _ (fun _ _ _ => trivial) hc (Region.free_spec ho hf) hr1 (.inl ⟨wanted_of F hg, fun w _ => hr w⟩) hS (by rw [hd]; exact hK (hc.list hr1) hlt)
theorem eSkip {k i : Nat} {m : List Bool} {o : Oper} {d : Tmp} (hi : opAt l i = some o) (ht : takeR l m k i = true) (F : Has N a env) (hg : shuns l env o.guard = true) (hd : o.dst = some d) (hN : Nat.blt d N = true)
    (hS : S w) (hQ : ∀ c a w, Q (.panic c) (a.put (some d) undef) w → Q (.panic c) a w)
    (K : ∀ a, Has N a ((d, undef) :: env) → wpR P l Q S (k + 1) (m.set i true) a w) : wpR P l Q S k m a w := by
  intro hc hk
  simp only [takeR, Bool.and_eq_true] at ht
  obtain ⟨⟨⟨hlt, hs⟩, hr1⟩, hf⟩ := ht
  have hlt := Nat.blt_eq.mp hlt
  have hr1 : i ∈ Region.ready .any l.toArray m.toArray := by simpa using hr1
  have hK := K _ (F.put hN)
  unfold wpR at hK
  rw [← set_arr] at hK
  have e : l.length - k = (l.length - (k + 1)) + 1 := by omega
  rw [e]
  have ho : l.toArray[i]? = some o := by simpa using opAt_get hi
  refine wpT_first (S0 := fun _ => True) ho (Region.noSelect_spec hs) (by rw [hd]; exact hQ) (.inr fun _ => trivial) _ _ _ _ _ (fun _ _ _ => trivial) hc (Region.free_spec ho hf) hr1 (.inr ⟨shunned_of F hg, rfl⟩) hS (by rw [hd]; exact hK (hc.list hr1) hlt)
/-- Behind operation i. -/
def Ke (P : Program) (l : List Oper) (Q : Exit → Act → World → Prop) (S : World → Prop) (k : Nat) (m : List Bool) (i : Nat) (a : Act) (w : World) : Prop :=
  Closed l (m.set i true).toArray → k < l.length → (barr2 l i = true ∧ ∃ S' : World → Prop, S' w ∧ wpT P l Q (l.length - (k + 1)) S' (m.set i true).toArray a w) ∨ (S w ∧ wpT P l Q (l.length - (k + 1)) S (m.set i true).toArray a w)
theorem eOne {k i : Nat} {m : List Bool} {o : Oper} (hi : opAt l i = some o) (ht : loneR l m k i = true) (F : Has N a env) (hg : wants l env o.guard = true)
    (h : o.wp P a w (Ke P l Q S k m i) Q) : wpR P l Q S k m a w := by
  intro hc hk
  simp only [loneR, Bool.and_eq_true] at ht
  obtain ⟨hlt, ht⟩ := ht
  have hlt := Nat.blt_eq.mp hlt
  have e : l.length - k = (l.length - (k + 1)) + 1 := by omega
  rw [e]
  have hr : Region.ready .any l.toArray m.toArray = [i] := by
    split at ht
    · rename_i j hj; rw [hj, Nat.eq_of_beq_eq_true ht]
    · cases ht
  have hc2 := hc.list (i := i) (by rw [hr]; simp)
  rw [set_arr] at hc2
  refine ⟨fun h0 => (by rw [hr] at h0; cases h0), fun j hj => ?_⟩
  rw [hr] at hj
  have hik : j = i := by simpa using hj
  subst hik
  have ho : l.toArray[j]? = some o := by simpa using opAt_get hi
  unfold wpOp
  simp only [ho, wanted_of F hg, if_true]
  refine .inl (Oper.wp_mono (fun a' w' h' => ?_) h)
  rw [set_arr]
  exact h' hc2 hlt
theorem eNil {k : Nat} {m : List Bool} (ht : (Nat.beq k l.length && (Region.ready .any l.toArray m.toArray).isEmpty) = true) (K : Q .normal a w) : wpR P l Q S k m a w := by
  intro _ _
  obtain ⟨h1, h2⟩ := Bool.and_eq_true_iff.1 ht
  have hkl := Nat.eq_of_beq_eq_true h1
  subst hkl
  rw [Nat.sub_self]
  exact ⟨List.isEmpty_iff.1 h2, K⟩
variable {w0 : World} {row : Option Nat} {rs : List Res}
theorem cRegRO {id : Nat} (hm : P.follows .mixedOrders = true) (_H : Own w0 row w rs) (h : wpR P l Q (fun w => Own w0 row w rs) 0 (List.replicate l.length false) a w.drew) : (Code.region id l.toArray true).wp P Q a w := cRegR hm _ h
theorem ePartO {k i : Nat} {m : List Bool} (hb : barr2 l i = true) (_H : Own w0 row w rs) (h : wpR P l Q (fun w => Own w0 row w rs) (k + 1) (m.set i true) a w) :
    Ke P l Q S k m i a w := fun hc hk => .inl ⟨hb, _, _H, h hc hk⟩
theorem eOnO {k i : Nat} {m : List Bool} (_H : Own w0 row w rs) (hS : S w) (hSS : ∀ w, Own w0 row w rs → S w) (h : wpR P l Q (fun w => Own w0 row w rs) (k + 1) (m.set i true) a w) :
    Ke P l Q S k m i a w := fun hc hk => .inr ⟨hS, wpT_mono hSS _ _ _ _ (h hc hk)⟩
end Go.Proofs.YtmfdpnjgljlkbaaDoor

namespace Go.Proofs.YtmfdpnjgljlkbaaDoor
open Go.RowKit

/-- Bytes by place. -/
abbrev By := Nat → UInt8
def bs (n : Nat) (s : By) : List Value := (List.range n).map fun i => b8 (s i)
def zb : By := fun _ => 0
def cut (s : By) (o : Nat) : By := fun i => s (o + i)
def put (s : By) (j : Nat) (v : UInt8) : By := fun i => if i = j then v else s i
def lay (s : By) (o m : Nat) (x : By) : By := fun i => if o ≤ i ∧ i < o + m then x (i - o) else s i
/-- Alike in the first n places. -/
def same (n : Nat) (a b : By) : Bool := (List.range n).map a == (List.range n).map b
theorem same_iff {n : Nat} {a b : By} : same n a b = true ↔ ∀ i, i < n → a i = b i := by
  simp [same]
theorem same_not {n : Nat} {a b : By} : same n a b = false ↔ ∃ i, i < n ∧ a i ≠ b i := by
  rw [← Bool.not_eq_true, same_iff]
  simp
theorem bs_ext {n : Nat} {a b : By} (h : ∀ i, i < n → a i = b i) : bs n a = bs n b := List.map_congr_left fun i hi => by rw [h i (List.mem_range.1 hi)]
theorem bs_same {n : Nat} {a b : By} (h : same n a b = true) : bs n a = bs n b := bs_ext (same_iff.1 h)
@[simp] theorem bs_length (n : Nat) (s : By) : (bs n s).length = n := by simp [bs]
theorem bs_get {n : Nat} {s : By} {i : Nat} (h : i < n) : (bs n s)[i]? = some (b8 (s i)) := by simp [bs, h]
theorem bs_none {n : Nat} {s : By} {i : Nat} (h : n ≤ i) : (bs n s)[i]? = none := by simp [bs, h]
theorem bs_sub {n : Nat} {s : By} {o m : Nat} (h : o + m ≤ n) : ((bs n s).drop o).take m = bs m (cut s o) := by
  refine List.ext_getElem? fun i => ?_
  rw [List.getElem?_take, List.getElem?_drop]
  split
  · rename_i h1; rw [bs_get (by omega), bs_get h1]; rfl
  · rename_i h1; rw [bs_none (by omega)]
theorem bs_set (n : Nat) (s : By) (j : Nat) (v : UInt8) : (bs n s).set j (b8 v) = bs n (put s j v) := by
  refine List.ext_getElem? fun i => ?_
  rw [List.getElem?_set]
  rcases Nat.lt_or_ge i n with h | h
  · rw [bs_get h, bs_get h, bs_length]
    unfold put
    split
    · rename_i e; subst e; simp [h]
    · rename_i e; rw [if_neg (fun x => e x.symm)]
  · rw [bs_none h, bs_length, bs_none h]
    split
    · rw [if_neg (by omega)]
    · rfl
theorem splice_get : ∀ (vs cs : List Value) (o i : Nat), o + vs.length ≤ cs.length → (splice cs o vs)[i]? = if o ≤ i ∧ i < o + vs.length then vs[i - o]? else cs[i]?
  | [], cs, o, i, _ => by rw [splice, if_neg (by simp only [List.length_nil]; omega)]
  | v :: r, cs, o, i, h => by
    simp only [List.length_cons] at h
    rw [splice, splice_get r _ _ _ (by rw [List.length_set]; omega)]
    by_cases h1 : o + 1 ≤ i ∧ i < o + 1 + r.length
    · rw [if_pos h1, if_pos (by simp only [List.length_cons]; omega), show i - o = (i - (o + 1)) + 1 by omega, List.getElem?_cons_succ]
    · rw [if_neg h1, List.getElem?_set]
      by_cases h2 : o = i
      · subst h2; rw [if_pos rfl, if_pos (by omega), if_pos (by simp only [List.length_cons]; omega), Nat.sub_self]; rfl
      · rw [if_neg h2, if_neg (by simp only [List.length_cons]; omega)]
theorem bs_splice {n : Nat} {s : By} {o m : Nat} {x : By} (h : o + m ≤ n) : splice (bs n s) o (bs m x) = bs n (lay s o m x) := by
  refine List.ext_getElem? fun i => ?_
  rw [splice_get _ _ _ _ (by rw [bs_length, bs_length]; exact h), bs_length]
  split
  · rename_i h1; rw [bs_get (by omega), bs_get (by omega)]; unfold lay; rw [if_pos h1]
  · rename_i h1
    rcases Nat.lt_or_ge i n with h2 | h2
    · rw [bs_get h2, bs_get h2]; unfold lay; rw [if_neg h1]
    · rw [bs_none h2, bs_none h2]
theorem bs_one (n : Nat) (s : By) : (bs n s).all (·.oneCell') = true := by
  rw [List.all_eq_true]
  intro v hv
  obtain ⟨i, _, rfl⟩ := List.mem_map.1 hv
  rfl
theorem bs_map (n : Nat) (s : By) : bs n s = ((List.range n).map s).map b8 := by simp [bs]
/-- Cells that are known, by place. -/
def ofL (l : List UInt8) : By := fun i => l.getD i 0
theorem bs_ofL (l : List UInt8) : bs l.length (ofL l) = l.map b8 := by
  refine List.ext_getElem? fun i => ?_
  rcases Nat.lt_or_ge i l.length with h | h
  · rw [bs_get h]; simp [ofL, h]
  · rw [bs_none h]; simp [h]

variable {P : Program} {l : List Oper} {Q : Exit → Act → World → Prop} {N : Nat} {a : Act} {env : List (Nat × Value)} {rest : List Oper} {d : Tmp} {ty : TypeId} {pos : String} {af : Array Edge} {g : Option (Nat × Bool)}
  {w0 w : World} {row : Option Nat} {rs : List Res} {Kt : Act → World → Prop}
theorem Own.cellB (H : Own w0 row w rs) (i : Nat) {b n : Nat} {s : By} {t : TypeId} {j : Nat} (hi : rs[i]? = some (.blk b (bs n s) t)) (hj : j < n) : w.cell? ⟨b, j, none⟩ = some (b8 (s j)) := H.cell i hi (bs_get hj)
theorem Own.rangeB (H : Own w0 row w rs) (i : Nat) {b n : Nat} {s : By} {t : TypeId} (o m : Nat) (hi : rs[i]? = some (.blk b (bs n s) t)) (h : o + m ≤ n) : w.rangeAt b o (bs m (cut s o)) := by
  rw [← bs_sub h]; exact H.range i hi o m
theorem Own.rangeB0 (H : Own w0 row w rs) (i : Nat) {b n : Nat} {s : By} {t : TypeId} (m : Nat) (hi : rs[i]? = some (.blk b (bs n s) t)) (h : m ≤ n) : w.rangeAt b 0 (bs m s) := by
  have := H.rangeB i 0 m hi (by omega)
  rwa [show cut s 0 = s from funext fun i => by simp [cut]] at this
theorem subRB {b o k' n : Nat} {s : By} (h : w.rangeAt b o (bs n s)) (k m : Nat) (hk : k + m ≤ n) (ho : o + k = k' := by rfl) : w.rangeAt b k' (bs m (cut s k)) := by
  rw [← bs_sub hk]; exact subRS h k m ho
theorem rLrB {t : TypeId} {x : Operand} {b o m : Nat} {s : By} {dd : TypeDesc} (hu : P.underlying t = some dd) (hdd : dd.isRow = true) (hz : ∀ w, (sizeOf t).run P w = .ok m w)
    (F : Has N a env) (hx : ev env x = some (.pointer (some ⟨b, o, none⟩))) (hc : w.rangeAt b o (bs m s)) : (execOp a.eval ⟨some d, .load t x, ty, pos, af, g⟩).run P w = .ok (.value (.agg (bs m s).toArray)) w :=
  rLr hu hdd (by rw [bs_length]; exact info_size hz) F hx hc
theorem sLrB {t : TypeId} {x : Operand} {b o m : Nat} {s : By} {dd : TypeDesc} (hu : P.underlying t = some dd) (hdd : dd.isRow = true) (hz : ∀ w, (sizeOf t).run P w = .ok m w)
    (F : Has N a env) (hg : wants l env g = true) (hN : Nat.blt d N = true) (hx : ev env x = some (.pointer (some ⟨b, o, none⟩))) (hc : w.rangeAt b o (bs m s))
    (K : ∀ a, Has N a ((d, .agg (bs m s).toArray) :: env) → wpList P l.toArray Q rest a w) : wpList P l.toArray Q (⟨some d, .load t x, ty, pos, af, g⟩ :: rest) a w :=
  stepV F hg rfl hN (rLrB hu hdd hz F hx hc) K
/-- A store of one byte. -/
theorem oU {o : Oper} {w' : World} (hd : o.dst = none) (hr : (execOp a.eval o).run P w = .ok .skip w') (K : Kt a w') : o.wp P a w Kt Q := by
  unfold Oper.wp
  rw [hr, Oper.upon_skip, hd]
  exact K
theorem oSt {t : TypeId} {x y : Operand} {b j : Nat} {cs : List Value} {u v : Value} {bt : TypeId} (H : Own w0 row w rs) (i : Nat) (hz : ∀ w, (sizeOf t).run P w = .ok 1 w) (F : Has N a env)
    (hx : ev env x = some (.pointer (some ⟨b, j, none⟩))) (hy : ev env y = some v) (h1 : v.oneCell' = true) (hi : rs[i]? = some (.blk b cs bt)) (hu : cs[j]? = some u)
    (K : ∀ w, Own w0 row w (rs.set i (.blk b (cs.set j v) bt)) → Kt a w) : (Oper.mk none (.store t x y) ty pos af g).wp P a w Kt Q :=
  oU rfl (w' := w.setCell ⟨b, j, none⟩ v) (by
    simp only [execOp, F.eval hx, F.eval hy]
    have hc := H.cell i hi hu
    have hf := (H.blk i hi).frozen j
    have h2 : v.cells = #[v] := by cases v <;> simp_all [Value.oneCell', Value.cells]
    have h3 := run_storeCells_cells (P := P) b j [v] 0 w (fun q hq => by simp at hq; subst hq; simp [hc]) (fun q hq => by simp at hq; subst hq; simpa using hf) (fun q hq => by simp at hq; subst hq; exact h1)
    simp only [Nat.add_zero] at h3
    have h4 : (storeCells ⟨b, j, none⟩ [v]).run P w = .ok () (w.setCell ⟨b, j, none⟩ v) := h3
    simp only [Instr.storeAt, Instr.sureAddr, storeVar, h2, Sem.run_bind, Sem.run_pure, Result.andThen_ok, hz, List.size_toArray, List.length_cons, List.length_nil, ne_eq, not_true_eq_false, ↓reduceIte, Nat.zero_add, h4]) (K _ (H.set i hi j v))
theorem oSr {t : TypeId} {x y : Operand} {b o : Nat} {cs vs : List Value} {bt : TypeId} (H : Own w0 row w rs) (i : Nat) (hs : (P.info? t).map (·.size) = some vs.length) (F : Has N a env)
    (hx : ev env x = some (.pointer (some ⟨b, o, none⟩))) (hy : ev env y = some (.agg vs.toArray)) (h1 : vs.all (·.oneCell') = true) (hi : rs[i]? = some (.blk b cs bt)) (hl : Nat.ble (o + vs.length) cs.length = true)
    (K : ∀ w, Own w0 row w (rs.set i (.blk b (splice cs o vs) bt)) → Kt a w) : (Oper.mk none (.store t x y) ty pos af g).wp P a w Kt Q :=
  oU rfl (w' := w.setCells b o vs) (by
    simp only [execOp, F.eval hx, F.eval hy]
    have h2 := run_storeAt_mid (P := P) w b o t vs.toArray (by simpa using H.there i hi o vs.length hl) (by simpa using hs) (by simpa using h1)
    simp only [Sem.run_bind, h2, Result.andThen_ok, Sem.run_pure]) (K _ (Own.setCells i vs o w rs cs H hi))
theorem sStB {t : TypeId} {x y : Operand} {b j n : Nat} {s : By} {v : UInt8} {bt : TypeId} (H : Own w0 row w rs) (i : Nat) (hz : ∀ w, (sizeOf t).run P w = .ok 1 w) (F : Has N a env) (hg : wants l env g = true)
    (hx : ev env x = some (.pointer (some ⟨b, j, none⟩))) (hy : ev env y = some (b8 v)) (hi : rs[i]? = some (.blk b (bs n s) bt)) (hj : j < n)
    (K : ∀ w, Own w0 row w (rs.set i (.blk b (bs n (put s j v)) bt)) → wpList P l.toArray Q rest a w) : wpList P l.toArray Q (⟨none, .store t x y, ty, pos, af, g⟩ :: rest) a w :=
  sSt H i hz F hg hx hy rfl hi (bs_get hj) (fun w H' => K w (by rw [bs_set] at H'; exact H'))
theorem oStB {t : TypeId} {x y : Operand} {b j n : Nat} {s : By} {v : UInt8} {bt : TypeId} (H : Own w0 row w rs) (i : Nat) (hz : ∀ w, (sizeOf t).run P w = .ok 1 w) (F : Has N a env)
    (hx : ev env x = some (.pointer (some ⟨b, j, none⟩))) (hy : ev env y = some (b8 v)) (hi : rs[i]? = some (.blk b (bs n s) bt)) (hj : j < n)
    (K : ∀ w, Own w0 row w (rs.set i (.blk b (bs n (put s j v)) bt)) → Kt a w) : (Oper.mk none (.store t x y) ty pos af g).wp P a w Kt Q :=
  oSt H i hz F hx hy rfl hi (bs_get hj) (fun w H' => K w (by rw [bs_set] at H'; exact H'))
theorem sSrB {t : TypeId} {x y : Operand} {b o n m : Nat} {s v : By} {bt : TypeId} (H : Own w0 row w rs) (i : Nat) (hz : ∀ w, (sizeOf t).run P w = .ok m w) (F : Has N a env) (hg : wants l env g = true)
    (hx : ev env x = some (.pointer (some ⟨b, o, none⟩))) (hy : ev env y = some (.agg (bs m v).toArray)) (hi : rs[i]? = some (.blk b (bs n s) bt)) (hl : o + m ≤ n)
    (K : ∀ w, Own w0 row w (rs.set i (.blk b (bs n (lay s o m v)) bt)) → wpList P l.toArray Q rest a w) : wpList P l.toArray Q (⟨none, .store t x y, ty, pos, af, g⟩ :: rest) a w :=
  sSr H i (by rw [bs_length]; exact info_size hz) F hg hx hy (bs_one _ _) hi (Nat.ble_eq_true_of_le (by rw [bs_length, bs_length]; exact hl)) (fun w H' => K w (by rw [bs_splice hl] at H'; exact H'))
theorem oSrB {t : TypeId} {x y : Operand} {b o n m : Nat} {s v : By} {bt : TypeId} (H : Own w0 row w rs) (i : Nat) (hz : ∀ w, (sizeOf t).run P w = .ok m w) (F : Has N a env)
    (hx : ev env x = some (.pointer (some ⟨b, o, none⟩))) (hy : ev env y = some (.agg (bs m v).toArray)) (hi : rs[i]? = some (.blk b (bs n s) bt)) (hl : o + m ≤ n)
    (K : ∀ w, Own w0 row w (rs.set i (.blk b (bs n (lay s o m v)) bt)) → Kt a w) : (Oper.mk none (.store t x y) ty pos af g).wp P a w Kt Q :=
  oSr H i (by rw [bs_length]; exact info_size hz) F hx hy (bs_one _ _) hi (Nat.ble_eq_true_of_le (by rw [bs_length, bs_length]; exact hl)) (fun w H' => K w (by rw [bs_splice hl] at H'; exact H'))
/-- A variable's whole value. -/
theorem lay_all {n : Nat} {s v : By} : bs n (lay s 0 n v) = bs n v := bs_ext fun i hi => by simp [lay, hi]
theorem cut_zero (s : By) : cut s 0 = s := funext fun i => by simp [cut]
theorem sAlB {t : TypeId} {n : Nat} (H : Own w0 row w rs) (hz : ∀ w, (zeroValue t).run P w = .ok (.agg (bs n zb).toArray) w) (F : Has N a env) (hg : wants l env g = true) (hN : Nat.blt d N = true)
    (K : ∀ b a w, Has N a ((d, .pointer (some ⟨b, 0, none⟩)) :: env) → Own w0 row w (.blk b (bs n zb) t :: rs) → wpList P l.toArray Q rest a w) : wpList P l.toArray Q (⟨some d, .alloc t, ty, pos, af, g⟩ :: rest) a w :=
  sAl H hz F hg hN (fun b a w F H' => K b a w F (by simpa [Value.cells] using H'))
theorem oAlB {t : TypeId} {n : Nat} (H : Own w0 row w rs) (hz : ∀ w, (zeroValue t).run P w = .ok (.agg (bs n zb).toArray) w) (F : Has N a env) (hN : Nat.blt d N = true)
    (K : ∀ b a w, Has N a ((d, .pointer (some ⟨b, 0, none⟩)) :: env) → Own w0 row w (.blk b (bs n zb) t :: rs) → Kt a w) : (Oper.mk (some d) (.alloc t) ty pos af g).wp P a w Kt Q :=
  oAl H hz F hN (fun b a w F H' => K b a w F (by simpa [Value.cells] using H'))
theorem sBxB {t : TypeId} {x : Operand} {n : Nat} {s : By} (H : Own w0 row w rs) (F : Has N a env) (hg : wants l env g = true) (hN : Nat.blt d N = true) (hx : ev env x = some (.agg (bs n s).toArray))
    (K : ∀ b a w, Has N a ((d, .pointer (some ⟨b, 0, none⟩)) :: env) → Own w0 row w (.blk b (bs n s) t :: rs) → wpList P l.toArray Q rest a w) : wpList P l.toArray Q (⟨some d, .box t x, ty, pos, af, g⟩ :: rest) a w :=
  sBx H F hg hN hx (fun b a w F H' => K b a w F (by simpa [Value.cells] using H'))
/-- An element of an array that is a value. -/
theorem rIdA {t e : TypeId} {x i : Operand} {n len j m : Nat} {s : By} {k : IntKind} (ht : P.underlying t = some (.array len e)) (hz : ∀ w, (sizeOf e).run P w = .ok m w) (ha : ∀ w, (isAgg e).run P w = .ok true w)
    (F : Has N a env) (hx : ev env x = some (.agg (bs n s).toArray)) (hi : ev env i = some (.int k (j : Int))) (hj : j < len) (hl : j * m + m ≤ n) :
    (execOp a.eval ⟨some d, .index t x i, ty, pos, af, g⟩).run P w = .ok (.value (.agg (bs m (cut s (j * m))).toArray)) w := by
  have h1 := part_pk (P := P) (e := e) (n := m) (off := j * m) (vs := bs n s) w hz ha (by simp) (by rw [bs_length]; exact hl)
  rw [bs_sub hl] at h1
  simp only [execOp, F.eval hx, F.eval hi, Instr.index, asIntOf, Sem.run_bind, Sem.run_pure, Result.andThen_ok, run_underlying ht, hz]
  rw [if_pos (by omega)]
  simp only [Sem.run_bind, hz, Result.andThen_ok, Int.toNat_natCast, h1, pk, Sem.run_pure]
theorem sIdA {t e : TypeId} {x i : Operand} {n len j m : Nat} {s : By} {k : IntKind} (ht : P.underlying t = some (.array len e)) (hz : ∀ w, (sizeOf e).run P w = .ok m w) (ha : ∀ w, (isAgg e).run P w = .ok true w)
    (F : Has N a env) (hg : wants l env g = true) (hN : Nat.blt d N = true) (hx : ev env x = some (.agg (bs n s).toArray)) (hi : ev env i = some (.int k (j : Int))) (hj : j < len) (hl : j * m + m ≤ n)
    (K : ∀ a, Has N a ((d, .agg (bs m (cut s (j * m))).toArray) :: env) → wpList P l.toArray Q rest a w) : wpList P l.toArray Q (⟨some d, .index t x i, ty, pos, af, g⟩ :: rest) a w :=
  stepV F hg rfl hN (rIdA ht hz ha F hx hi hj hl) K
theorem rIdV {t e : TypeId} {x i : Operand} {n len j : Nat} {s : By} {k : IntKind} (ht : P.underlying t = some (.array len e)) (hz : ∀ w, (sizeOf e).run P w = .ok 1 w) (ha : ∀ w, (isAgg e).run P w = .ok false w)
    (F : Has N a env) (hx : ev env x = some (.agg (bs n s).toArray)) (hi : ev env i = some (.int k (j : Int))) (hj : j < len) (hl : j < n) :
    (execOp a.eval ⟨some d, .index t x i, ty, pos, af, g⟩).run P w = .ok (.value (b8 (s j))) w := by
  have h1 := part_pk (P := P) (e := e) (n := 1) (off := j * 1) (vs := bs n s) w hz ha (fun _ => rfl) (by rw [bs_length]; omega)
  rw [bs_sub (by omega)] at h1
  simp only [execOp, F.eval hx, F.eval hi, Instr.index, asIntOf, Sem.run_bind, Sem.run_pure, Result.andThen_ok, run_underlying ht, hz]
  rw [if_pos (by omega)]
  simp only [Sem.run_bind, hz, Result.andThen_ok, Int.toNat_natCast, h1, Sem.run_pure]
  simp [pk, bs, cut, List.range_succ]
theorem sIdV {t e : TypeId} {x i : Operand} {n len j : Nat} {s : By} {k : IntKind} (ht : P.underlying t = some (.array len e)) (hz : ∀ w, (sizeOf e).run P w = .ok 1 w) (ha : ∀ w, (isAgg e).run P w = .ok false w)
    (F : Has N a env) (hg : wants l env g = true) (hN : Nat.blt d N = true) (hx : ev env x = some (.agg (bs n s).toArray)) (hi : ev env i = some (.int k (j : Int))) (hj : j < len) (hl : j < n)
    (K : ∀ a, Has N a ((d, b8 (s j)) :: env) → wpList P l.toArray Q rest a w) : wpList P l.toArray Q (⟨some d, .index t x i, ty, pos, af, g⟩ :: rest) a w :=
  stepV F hg rfl hN (rIdV ht hz ha F hx hi hj hl) K
/-- Two of them against each other. -/
theorem bEqY {D n : Nat} {t : TypeId} {x' y' : Operand} {u v : By} (h : EqT P D t (List.replicate n .u8) true) (hg : P.eqGuardType P.depth t = false) (hD : Nat.ble D 10000 = true) :
    BinR P .eql t x' y' (.agg (bs n u).toArray) (.agg (bs n v).toArray) (.bool (same n u v)) := by
  rw [bs_map, bs_map]; exact bEqS h hg hD (by simp) (by simp)
theorem bNeY {D n : Nat} {t : TypeId} {x' y' : Operand} {u v : By} (h : EqT P D t (List.replicate n .u8) true) (hg : P.eqGuardType P.depth t = false) (hD : Nat.ble D 10000 = true) :
    BinR P .neq t x' y' (.agg (bs n u).toArray) (.agg (bs n v).toArray) (.bool (!(same n u v))) := by
  rw [bs_map, bs_map]; exact bNeS h hg hD (by simp) (by simp)
end Go.Proofs.YtmfdpnjgljlkbaaDoor

namespace Go.Proofs.YtmfdpnjgljlkbaaDoor
open Go.RowKit

variable {P : Program} {l : List Oper} {Q : Exit → Act → World → Prop} {N : Nat} {a : Act} {env : List (Nat × Value)} {rest : List Oper} {d : Tmp} {ty : TypeId} {pos : String} {af : Array Edge} {g : Option (Nat × Bool)}
  {w0 w : World} {row : Option Nat} {rs : List Res} {Kt : Act → World → Prop}
/-- A slice of the function's own: its rows, sz cells each. -/
def Res.rws (e : TypeId) (sz : Nat) (v : Value) (rows : List (List Value)) : Res := .arr e sz v rows.length rows.flatten
theorem Own.nilRws (H : Own w0 row w rs) (e : TypeId) (sz : Nat) : Own w0 row w (.rws e sz (.slice none 0 0) [] :: rs) := H.nilArr e sz
theorem Own.pick (H : Own w0 row w rs) (i : Nat) {r : Res} (hi : rs[i]? = some r) : Own w0 row w [r] where
  grown := H.grown
  pred := fun j s hj => by
    cases j with
    | zero => cases hj; exact H.pred i r hi
    | succ j => simp at hj
  foot := fun j s hj => by
    cases j with
    | zero => cases hj; exact H.foot i r hi
    | succ j => simp at hj
  apart := fun j k s u hj hk hjk => by
    cases j with
    | succ j => simp at hj
    | zero => cases k with
      | zero => exact absurd rfl hjk
      | succ k => simp at hk
/-- Some of the parts, in another order. -/
def pickL (rs : List Res) : List Nat → Option (List Res)
  | [] => some []
  | i :: r => match rs[i]?, pickL rs r with
    | some x, some q => some (x :: q)
    | _, _ => none
def apartL : List Nat → Bool
  | [] => true
  | i :: r => r.all (fun j => !Nat.beq i j) && apartL r
theorem pickL_at {rs : List Res} : ∀ {is : List Nat} {qs : List Res}, pickL rs is = some qs → ∀ (j : Nat) (r : Res), qs[j]? = some r → ∃ i, is[j]? = some i ∧ rs[i]? = some r
  | [], qs, h, j, r, hj => by cases h; simp at hj
  | i :: is, qs, h, j, r, hj => by
    unfold pickL at h
    split at h
    · rename_i x q h1 h2
      cases h
      cases j with
      | zero => simp at hj; subst hj; exact ⟨i, rfl, h1⟩
      | succ j => obtain ⟨i', h3, h4⟩ := pickL_at h2 j r (by simpa using hj); exact ⟨i', by simpa using h3, h4⟩
    · cases h
theorem apartL_at : ∀ {is : List Nat}, apartL is = true → ∀ {j k i : Nat}, is[j]? = some i → is[k]? = some i → j = k
  | [], _, j, _, _, hj, _ => by simp at hj
  | x :: r, h, j, k, i, hj, hk => by
    simp only [apartL, Bool.and_eq_true, List.all_eq_true, Bool.not_eq_true'] at h
    cases j with
    | zero =>
      cases k with
      | zero => rfl
      | succ k =>
        simp only [List.getElem?_cons_zero, Option.some.injEq] at hj
        subst hj
        have := h.1 x (List.mem_of_getElem? (by simpa using hk))
        rw [Nat.beq_refl] at this; cases this
    | succ j =>
      cases k with
      | zero =>
        simp only [List.getElem?_cons_zero, Option.some.injEq] at hk
        subst hk
        have := h.1 x (List.mem_of_getElem? (by simpa using hj))
        rw [Nat.beq_refl] at this; cases this
      | succ k => exact congrArg (· + 1) (apartL_at h.2 (j := j) (k := k) (i := i) (by simpa using hj) (by simpa using hk))
theorem Own.sel (H : Own w0 row w rs) (is : List Nat) {qs : List Res} (hs : pickL rs is = some qs) (hn : apartL is = true) : Own w0 row w qs where
  grown := H.grown
  pred := fun j r hj => by obtain ⟨i, _, h2⟩ := pickL_at hs j r hj; exact H.pred i r h2
  foot := fun j r hj => by obtain ⟨i, _, h2⟩ := pickL_at hs j r hj; exact H.foot i r h2
  apart := fun j k r u hj hk hjk => by
    obtain ⟨i, h1, h2⟩ := pickL_at hs j r hj
    obtain ⟨i', h3, h4⟩ := pickL_at hs k u hk
    refine H.apart i i' r u h2 h4 (fun e => hjk ?_)
    subst e
    exact apartL_at hn h1 h3
theorem Own.none (H : Own w0 row w rs) : Own w0 row w [] :=
  ⟨H.grown, fun i r h => by simp at h, fun i r h => by simp at h, fun i j r s h => by simp at h⟩
theorem Own.rowsAt (H : Own w0 row w rs) (i : Nat) {e : TypeId} {sz n c : Nat} {A : Option Addr} {rows : List (List Value)} (hi : rs[i]? = some (.rws e sz (.slice A n c) rows)) (hr : ∀ r ∈ rows, r.length = sz) (hsz : 0 < sz) : RowsAt w A sz rows := by
  have h := H.arr i hi
  rcases h.2 with ⟨h1, h2⟩ | ⟨g, cap, cur, h1, _⟩
  · have : rows = [] := List.eq_nil_of_length_eq_zero h2
    subst this
    intro j cs hj
    simp at hj
  · have hn : n = rows.length := by cases h1; rfl
    subst hn
    exact RowsAt.ofArr h hr hsz
theorem Own.rwsLen (H : Own w0 row w rs) (i : Nat) {e : TypeId} {sz n c : Nat} {A : Option Addr} {rows : List (List Value)} (hi : rs[i]? = some (.rws e sz (.slice A n c) rows)) : n = rows.length ∧ n ≤ c ∧ c ≤ maxLen := by
  have h := H.arr i hi
  rcases h.2 with ⟨h1, h2⟩ | ⟨g, cap, cur, h1, _, _, h3, h4, _⟩
  · cases h1; exact ⟨h2.symm, Nat.le_refl _, Nat.zero_le _⟩
  · cases h1; exact ⟨rfl, h3, h4⟩
theorem app_run {t e : TypeId} {v : Value} {rows news : List (List Value)} {bx ox m c : Nat} {ti : TypeInfo} {z : Value} {sz bytes : Nat} (H : Own w0 row w rs) (i : Nat) (ht : P.underlying t = some (.slice e))
    (hi : ∀ w, (typeInfo e).run P w = .ok ti w) (hz : ti.zero = some z) (hsize : ti.size = sz) (hby : ti.bytes = bytes) (hzs : z.cells.size = sz) (hsz : Nat.blt 0 sz = true) (hb1 : Nat.blt 0 bytes = true)
    (hr : rs[i]? = some (.rws e sz v rows)) (hm : news.length = m) (hnews : w.rangeAt bx ox news.flatten) (hl : ∀ r ∈ news, r.length = sz) (h1 : ∀ r ∈ news, r.all (·.oneCell') = true) (hpos : 0 < m) (hb : (rows.length + m) * bytes ≤ 140737488355328) (ty : TypeId) :
    ∃ A c' w', (Builtin.append_ #[t, t] ty #[v, .slice (some ⟨bx, ox, .none⟩) m c]).run P w = .ok (.slice A (rows ++ news).length c') w' ∧ Own w0 row w' (rs.set i (.rws e sz (.slice A (rows ++ news).length c') (rows ++ news))) := by
  have hsz' := Nat.blt_eq.mp hsz
  have hb1' := Nat.blt_eq.mp hb1
  have hfl : ∀ (q : List (List Value)), (∀ r ∈ q, r.length = sz) → q.flatten.length = q.length * sz := by
    intro q hq
    induction q with
    | nil => simp
    | cons r0 rest ih => rw [List.flatten_cons, List.length_append, ih (fun r hm => hq r (by simp [hm])), hq r0 (by simp), List.length_cons, Nat.add_mul]; omega
  have hlen : rows.length + m ≤ 140737488355328 := Nat.le_trans (Nat.le_mul_of_pos_right _ hb1') hb
  obtain ⟨g, cap, w', hrun, hown, hgr, hat, hlt⟩ := run_append_lies (P := P) w t ty 0 e ti z sz bytes ht (info_of hi) hz hsize hby hzs hsz' v rows.length rows.flatten (H.arr i hr) ⟨bx, ox, .none⟩ m c news.flatten (by rw [hfl news hl, hm])
    (fun j u hu => by simpa [Addr.add_mid] using hnews j u hu) (fun u hu => by
      obtain ⟨r, hr1, hr2⟩ := List.mem_flatten.1 hu
      exact (List.all_eq_true.1 (h1 r hr1)) u hr2) hpos (by simp only [maxLen]; omega) hb (Nat.zero_le _) w.heap.size rfl
  have e1 : (rows ++ news).length = rows.length + m := by rw [List.length_append, hm]
  refine ⟨some ⟨g, 0, .none⟩, cap, w', by rw [e1]; exact hrun, ?_⟩
  have hfoot : v.ownBlock = some g ∨ w.heap.size ≤ g := by
    rcases hat with h | h
    · exact .inl h
    · exact .inr (by omega)
  refine H.turn i hr _ ?_ hgr.size (fun b hb hnb => hgr.block b hb (fun e => hnb (show v.ownBlock = some b from e.symm))) ?_ ?_
  · refine ⟨hgr.os.trans H.grown.os, hgr.tape.trans H.grown.tape, hgr.output.trans H.grown.output, Nat.le_trans H.grown.size hgr.size, fun k hk hne => ?_⟩
    refine (hgr.block k (Nat.lt_of_lt_of_le hk H.grown.size) (fun e => ?_)).trans (H.grown.block k hk hne)
    rcases (H.foot i _ hr k (show v.ownBlock = some k from e.symm)).1 with h | h
    · exact absurd hk (by omega)
    · exact hne h
  · show w'.ownsRow 0 e sz _ (rows ++ news).length (rows ++ news).flatten
    rw [e1, List.flatten_append]
    exact hown
  · intro b hb
    have : g = b := by simpa [Res.rws, Res.arr, Value.ownBlock] using hb
    subst this
    rcases hfoot with h | h
    · exact ⟨.inl h, hlt⟩
    · exact ⟨.inr h, hlt⟩
theorem app_exec {t ty' : TypeId} {s x : Operand} {v u v' : Value} {w' : World} (F : Has N a env) (hs : ev env s = some v) (hx : ev env x = some u) (hr : (Builtin.append_ #[t, t] ty #[v, u]).run P w = .ok v' w') :
    (execOp a.eval ⟨some d, .call ⟨.builtin .append, #[s, x], #[t, t]⟩, ty, pos, af, g⟩).run P w = .ok (.value v') w' := by
  simp only [execOp, resolve, invoke, builtin, Sem.run_bind, Sem.run_pure, Result.andThen_ok, List.map_toArray, List.map_cons, List.map_nil, F.eval hs, F.eval hx, hr]
theorem sApp {t e : TypeId} {s x : Operand} {v : Value} {rows news : List (List Value)} {bx ox m c : Nat} {ti : TypeInfo} {z : Value} {sz bytes : Nat} (H : Own w0 row w rs) (i : Nat) (ht : P.underlying t = some (.slice e))
    (hi : ∀ w, (typeInfo e).run P w = .ok ti w) (hz : ti.zero = some z) (hsize : ti.size = sz) (hby : ti.bytes = bytes) (hzs : z.cells.size = sz) (hsz : Nat.blt 0 sz = true) (hb1 : Nat.blt 0 bytes = true)
    (F : Has N a env) (hg : wants l env g = true) (hN : Nat.blt d N = true) (hs : ev env s = some v) (hx : ev env x = some (.slice (some ⟨bx, ox, none⟩) m c))
    (hr : rs[i]? = some (.rws e sz v rows)) (hm : news.length = m) (hnews : w.rangeAt bx ox news.flatten) (hl : ∀ r ∈ news, r.length = sz) (h1 : ∀ r ∈ news, r.all (·.oneCell') = true) (hpos : 0 < m) (hb : (rows.length + m) * bytes ≤ 140737488355328)
    (K : ∀ A c a w, Has N a ((d, .slice A (rows ++ news).length c) :: env) → Own w0 row w (rs.set i (.rws e sz (.slice A (rows ++ news).length c) (rows ++ news))) → wpList P l.toArray Q rest a w) :
    wpList P l.toArray Q (⟨some d, .call ⟨.builtin .append, #[s, x], #[t, t]⟩, ty, pos, af, g⟩ :: rest) a w := by
  obtain ⟨A, c', w', h2, h3⟩ := app_run (P := P) (c := c) H i ht hi hz hsize hby hzs hsz hb1 hr hm hnews hl h1 hpos hb ty
  exact stepV F hg rfl hN (app_exec (ty' := ty) F hs hx h2) (fun a F' => K A c' a w' F' h3)
theorem oApp {t e : TypeId} {s x : Operand} {v : Value} {rows news : List (List Value)} {bx ox m c : Nat} {ti : TypeInfo} {z : Value} {sz bytes : Nat} (H : Own w0 row w rs) (i : Nat) (ht : P.underlying t = some (.slice e))
    (hi : ∀ w, (typeInfo e).run P w = .ok ti w) (hz : ti.zero = some z) (hsize : ti.size = sz) (hby : ti.bytes = bytes) (hzs : z.cells.size = sz) (hsz : Nat.blt 0 sz = true) (hb1 : Nat.blt 0 bytes = true)
    (F : Has N a env) (hN : Nat.blt d N = true) (hs : ev env s = some v) (hx : ev env x = some (.slice (some ⟨bx, ox, none⟩) m c))
    (hr : rs[i]? = some (.rws e sz v rows)) (hm : news.length = m) (hnews : w.rangeAt bx ox news.flatten) (hl : ∀ r ∈ news, r.length = sz) (h1 : ∀ r ∈ news, r.all (·.oneCell') = true) (hpos : 0 < m) (hb : (rows.length + m) * bytes ≤ 140737488355328)
    (K : ∀ A c a w, Has N a ((d, .slice A (rows ++ news).length c) :: env) → Own w0 row w (rs.set i (.rws e sz (.slice A (rows ++ news).length c) (rows ++ news))) → Kt a w) :
    (Oper.mk (some d) (.call ⟨.builtin .append, #[s, x], #[t, t]⟩) ty pos af g).wp P a w Kt Q := by
  obtain ⟨A, c', w', h2, h3⟩ := app_run (P := P) (c := c) H i ht hi hz hsize hby hzs hsz hb1 hr hm hnews hl h1 hpos hb ty
  exact oV F rfl hN (app_exec (ty' := ty) F hs hx h2) (fun a F' => K A c' a w' F' h3)
/-- One row more. -/
theorem sApp1 {t e : TypeId} {s x : Operand} {v : Value} {rows : List (List Value)} {cs : List Value} {bx ox c : Nat} {ti : TypeInfo} {z : Value} {sz bytes : Nat} (H : Own w0 row w rs) (i : Nat) (ht : P.underlying t = some (.slice e))
    (hi : ∀ w, (typeInfo e).run P w = .ok ti w) (hz : ti.zero = some z) (hsize : ti.size = sz) (hby : ti.bytes = bytes) (hzs : z.cells.size = sz) (hsz : Nat.blt 0 sz = true) (hb1 : Nat.blt 0 bytes = true)
    (F : Has N a env) (hg : wants l env g = true) (hN : Nat.blt d N = true) (hs : ev env s = some v) (hx : ev env x = some (.slice (some ⟨bx, ox, none⟩) 1 c))
    (hr : rs[i]? = some (.rws e sz v rows)) (hnews : w.rangeAt bx ox cs) (hl : cs.length = sz) (h1 : cs.all (·.oneCell') = true) (hb : (rows.length + 1) * bytes ≤ 140737488355328)
    (K : ∀ A c a w, Has N a ((d, .slice A (rows ++ [cs]).length c) :: env) → Own w0 row w (rs.set i (.rws e sz (.slice A (rows ++ [cs]).length c) (rows ++ [cs]))) → wpList P l.toArray Q rest a w) :
    wpList P l.toArray Q (⟨some d, .call ⟨.builtin .append, #[s, x], #[t, t]⟩, ty, pos, af, g⟩ :: rest) a w :=
  sApp H i ht hi hz hsize hby hzs hsz hb1 F hg hN hs hx hr (news := [cs]) rfl (by simpa using hnews) (by simpa using hl) (by simpa using h1) (by omega) hb K
theorem oApp1 {t e : TypeId} {s x : Operand} {v : Value} {rows : List (List Value)} {cs : List Value} {bx ox c : Nat} {ti : TypeInfo} {z : Value} {sz bytes : Nat} (H : Own w0 row w rs) (i : Nat) (ht : P.underlying t = some (.slice e))
    (hi : ∀ w, (typeInfo e).run P w = .ok ti w) (hz : ti.zero = some z) (hsize : ti.size = sz) (hby : ti.bytes = bytes) (hzs : z.cells.size = sz) (hsz : Nat.blt 0 sz = true) (hb1 : Nat.blt 0 bytes = true)
    (F : Has N a env) (hN : Nat.blt d N = true) (hs : ev env s = some v) (hx : ev env x = some (.slice (some ⟨bx, ox, none⟩) 1 c))
    (hr : rs[i]? = some (.rws e sz v rows)) (hnews : w.rangeAt bx ox cs) (hl : cs.length = sz) (h1 : cs.all (·.oneCell') = true) (hb : (rows.length + 1) * bytes ≤ 140737488355328)
    (K : ∀ A c a w, Has N a ((d, .slice A (rows ++ [cs]).length c) :: env) → Own w0 row w (rs.set i (.rws e sz (.slice A (rows ++ [cs]).length c) (rows ++ [cs]))) → Kt a w) :
    (Oper.mk (some d) (.call ⟨.builtin .append, #[s, x], #[t, t]⟩) ty pos af g).wp P a w Kt Q :=
  oApp H i ht hi hz hsize hby hzs hsz hb1 F hN hs hx hr (news := [cs]) rfl (by simpa using hnews) (by simpa using hl) (by simpa using h1) (by omega) hb K
/-- An array's slice, x[:]. -/
theorem rSlA {t e : TypeId} {x : Operand} {b o n sz : Nat} (ht : P.underlying t = some (.array n e)) (hz : ∀ w, (sizeOf e).run P w = .ok sz w) (F : Has N a env) (hx : ev env x = some (.pointer (some ⟨b, o, none⟩))) :
    (execOp a.eval ⟨some d, .slice t x none none none, ty, pos, af, g⟩).run P w = .ok (.value (.slice (some ⟨b, o, none⟩) n n)) w := by
  have he : P.elem t = e := by simp [Program.elem, ht]
  have hn : P.arrayLen t = n := by simp [Program.arrayLen, ht]
  have h1 := run_sliceAt_array_all (P := P) w t ⟨b, o, none⟩ (by rw [he, hn]; exact ht)
  rw [he, hz, hn] at h1
  simp only [execOp, Option.map_none, F.eval hx, Sem.run_bind, h1, Result.andThen_ok, slicedAt, Nat.zero_mul, Nat.sub_zero, Sem.run_pure]
  split <;> simp [Addr.add]
theorem sSlA {t e : TypeId} {x : Operand} {b o n sz : Nat} (ht : P.underlying t = some (.array n e)) (hz : ∀ w, (sizeOf e).run P w = .ok sz w) (F : Has N a env) (hg : wants l env g = true) (hN : Nat.blt d N = true) (hx : ev env x = some (.pointer (some ⟨b, o, none⟩)))
    (K : ∀ a, Has N a ((d, .slice (some ⟨b, o, none⟩) n n) :: env) → wpList P l.toArray Q rest a w) : wpList P l.toArray Q (⟨some d, .slice t x none none none, ty, pos, af, g⟩ :: rest) a w :=
  stepV F hg rfl hN (rSlA ht hz F hx) K
/-- Bytes of a slice copied over bytes of an own block. -/
theorem cpB_run {t e : TypeId} {b o n dLen dCap sLen sCap i : Nat} {s : By} {bt : TypeId} {A : Option Addr} {xs : List UInt8} (H : Own w0 row w rs) (ht : P.underlying t = some (.slice e)) (hz : ∀ w, (sizeOf e).run P w = .ok 1 w)
    (hr : rs[i]? = some (.blk b (bs n s) bt)) (hA : RowsAt w A 1 (xs.map fun x => [b8 x])) (hx : xs.length = sLen) (hl : o + dLen ≤ n) (ty : TypeId) :
    ∃ w', (Builtin.copy_ #[t, t] ty #[.slice (some ⟨b, o, none⟩) dLen dCap, .slice A sLen sCap]).run P w = .ok (goInt ((min sLen dLen : Nat) : Int)) w' ∧ Own w0 row w' (rs.set i (.blk b (bs n (lay s o (min sLen dLen) (ofL xs))) bt)) := by
  have hs := info_size (P := P) hz
  by_cases h0 : min sLen dLen = 0
  · refine ⟨w, by rw [h0]; exact run_copy_none (P := P) w t t ty e _ _ _ _ _ _ ht hs (by simpa using h0), ?_⟩
    have e1 : lay s o (min sLen dLen) (ofL xs) = s := funext fun k => by unfold lay; rw [if_neg (by omega)]
    rw [e1]
    have : rs.set i (.blk b (bs n s) bt) = rs := by
      refine List.ext_getElem? fun k => ?_
      rw [List.getElem?_set]
      split
      · rename_i e
        subst e
        split
        · exact hr.symm
        · rename_i h; rw [List.getElem?_eq_none (by omega)]
      · rfl
    rw [this]
    exact H
  · obtain ⟨b2, o2, rfl, _⟩ := hA 0 [b8 (xs[0]'(by omega))] (by simp [show 0 < xs.length by omega])
    have hcs : bs (min sLen dLen) (ofL xs) = (xs.take (min sLen dLen)).map b8 := by
      have := bs_ofL (xs.take (min sLen dLen))
      rw [List.length_take, hx, show min (min sLen dLen) sLen = min sLen dLen by omega] at this
      rw [← this]
      refine bs_ext fun k hk => ?_
      simp [ofL, List.getElem?_take, hk]
    have hrun := run_copy_cells (P := P) w t t ty e b o dLen dCap ⟨b2, o2, none⟩ sLen sCap (bs (min sLen dLen) (ofL xs)) ht hs (bs_length _ _)
      (fun j v hv => by
        rcases Nat.lt_or_ge j (min sLen dLen) with hj | hj
        · rw [bs_get hj] at hv
          cases hv
          obtain ⟨b3, o3, h3, h4⟩ := hA j [b8 (xs[j]'(by omega))] (by simp [show j < xs.length by omega])
          cases h3
          have := h4 0 _ rfl
          simp only [Nat.mul_one, Nat.add_zero] at this
          simpa [Addr.add_mid, ofL, show j < xs.length by omega] using this
        · rw [bs_none hj] at hv; cases hv)
      (fun j hj => by rw [bs_length] at hj; rw [H.cellB i hr (by omega)]; rfl) (fun j hj => (H.blk i hr).frozen _) (fun v hv => (List.all_eq_true.1 (bs_one _ _)) v hv)
    rw [bs_length] at hrun
    refine ⟨_, hrun, ?_⟩
    have := Own.setCells i (bs (min sLen dLen) (ofL xs)) o w rs _ H hr
    rw [bs_splice (by omega)] at this
    exact this
theorem cp_exec {t : TypeId} {x y : Operand} {u v r : Value} {w' : World} (F : Has N a env) (hx : ev env x = some u) (hy : ev env y = some v) (hr : (Builtin.copy_ #[t, t] ty #[u, v]).run P w = .ok r w') :
    (execOp a.eval ⟨some d, .call ⟨.builtin .copy, #[x, y], #[t, t]⟩, ty, pos, af, g⟩).run P w = .ok (.value r) w' := by
  simp only [execOp, resolve, invoke, builtin, Sem.run_bind, Sem.run_pure, Result.andThen_ok, List.map_toArray, List.map_cons, List.map_nil, F.eval hx, F.eval hy, hr]
theorem sCpB {t e : TypeId} {x y : Operand} {b o n dLen dCap sLen sCap : Nat} {s : By} {bt : TypeId} {A : Option Addr} {xs : List UInt8} (H : Own w0 row w rs) (i : Nat) (ht : P.underlying t = some (.slice e)) (hz : ∀ w, (sizeOf e).run P w = .ok 1 w)
    (F : Has N a env) (hg : wants l env g = true) (hN : Nat.blt d N = true) (hx : ev env x = some (.slice (some ⟨b, o, none⟩) dLen dCap)) (hy : ev env y = some (.slice A sLen sCap))
    (hr : rs[i]? = some (.blk b (bs n s) bt)) (hA : RowsAt w A 1 (xs.map fun x => [b8 x])) (hxs : xs.length = sLen) (hl : o + dLen ≤ n)
    (K : ∀ a w, Has N a ((d, goInt ((min sLen dLen : Nat) : Int)) :: env) → Own w0 row w (rs.set i (.blk b (bs n (lay s o (min sLen dLen) (ofL xs))) bt)) → wpList P l.toArray Q rest a w) :
    wpList P l.toArray Q (⟨some d, .call ⟨.builtin .copy, #[x, y], #[t, t]⟩, ty, pos, af, g⟩ :: rest) a w := by
  obtain ⟨w', h2, h3⟩ := cpB_run (P := P) (dCap := dCap) (sCap := sCap) H ht hz hr hA hxs hl ty
  exact stepV F hg rfl hN (cp_exec F hx hy h2) (fun a F' => K a w' F' h3)
theorem oCpB {t e : TypeId} {x y : Operand} {b o n dLen dCap sLen sCap : Nat} {s : By} {bt : TypeId} {A : Option Addr} {xs : List UInt8} (H : Own w0 row w rs) (i : Nat) (ht : P.underlying t = some (.slice e)) (hz : ∀ w, (sizeOf e).run P w = .ok 1 w)
    (F : Has N a env) (hN : Nat.blt d N = true) (hx : ev env x = some (.slice (some ⟨b, o, none⟩) dLen dCap)) (hy : ev env y = some (.slice A sLen sCap))
    (hr : rs[i]? = some (.blk b (bs n s) bt)) (hA : RowsAt w A 1 (xs.map fun x => [b8 x])) (hxs : xs.length = sLen) (hl : o + dLen ≤ n)
    (K : ∀ a w, Has N a ((d, goInt ((min sLen dLen : Nat) : Int)) :: env) → Own w0 row w (rs.set i (.blk b (bs n (lay s o (min sLen dLen) (ofL xs))) bt)) → Kt a w) :
    (Oper.mk (some d) (.call ⟨.builtin .copy, #[x, y], #[t, t]⟩) ty pos af g).wp P a w Kt Q := by
  obtain ⟨w', h2, h3⟩ := cpB_run (P := P) (dCap := dCap) (sCap := sCap) H ht hz hr hA hxs hl ty
  exact oV F rfl hN (cp_exec F hx hy h2) (fun a F' => K a w' F' h3)
/-- Bytes laid over bytes, part by part. -/
inductive FillB (place : Nat → Option (Nat × Nat)) (n : Nat) : By → List (Nat × Value) → By → Prop where
  | nil {s : By} : FillB place n s [] s
  | one {s s' : By} {i o : Nat} {v : UInt8} {ps : List (Nat × Value)} (hp : place i = some (o, 1)) (h : Nat.blt o n = true) (r : FillB place n (put s o v) ps s') : FillB place n s ((i, b8 v) :: ps) s'
  | row {s s' x : By} {i o m : Nat} {ps : List (Nat × Value)} (hp : place i = some (o, m)) (h : Nat.ble (o + m) n = true) (r : FillB place n (lay s o m x) ps s') : FillB place n s ((i, .agg (bs m x).toArray) :: ps) s'
theorem FillB.to {place : Nat → Option (Nat × Nat)} {n : Nat} {s s' : By} {ps : List (Nat × Value)} (h : FillB place n s ps s') : fillL place (bs n s) ps = some (bs n s') := by
  induction h with
  | nil => rfl
  | @one s s' i o v ps hp h _ ih =>
    have h := Nat.blt_eq.mp h
    unfold fillL
    simp only [hp]
    have e1 : (Value.cells (b8 v)).toList = [b8 v] := rfl
    rw [e1]
    have e2 : (Nat.beq [b8 v].length 1 && Nat.ble (o + [b8 v].length) (bs n s).length) = true := by
      rw [bs_length, Bool.and_eq_true]; exact ⟨rfl, Nat.ble_eq_true_of_le h⟩
    rw [e2]
    simp only [cond_true, splice, bs_set]
    exact ih
  | @row s s' x i o m ps hp h _ ih =>
    have h := Nat.le_of_ble_eq_true h
    unfold fillL
    simp only [hp]
    have e1 : (Value.cells (.agg (bs m x).toArray)).toList = bs m x := rfl
    rw [e1, bs_length, bs_length]
    have e2 : (Nat.beq m m && Nat.ble (o + m) n) = true := by
      rw [Bool.and_eq_true]; exact ⟨Nat.beq_refl _, Nat.ble_eq_true_of_le h⟩
    rw [e2]
    simp only [cond_true]
    rw [bs_splice h]
    exact ih
theorem rBdB {t : TypeId} {n : Nat} {parts : List (Nat × Operand)} {ps : List (Nat × Value)} {fs : Array Field} {places : List (Nat × Nat)} {s : By} (hz : ∀ w, (zeroValue t).run P w = .ok (.agg (bs n zb).toArray) w) (hu : P.underlying t = some (.struct fs))
    (hp : fs.toList.mapM (fun f => (P.info? f.type).map fun i => (f.offset, i.size)) = some places) (F : Has N a env) (he : evP env parts = some ps) (hf : FillB (fun i => places[i]?) n zb ps s) :
    (execOp a.eval ⟨some d, .build t parts.toArray, ty, pos, af, g⟩).run P w = .ok (.value (.agg (bs n s).toArray)) w :=
  rBd hz hu hp F he hf.to
theorem sBdB {t : TypeId} {n : Nat} {parts : List (Nat × Operand)} {ps : List (Nat × Value)} {fs : Array Field} {places : List (Nat × Nat)} {s : By} (hz : ∀ w, (zeroValue t).run P w = .ok (.agg (bs n zb).toArray) w) (hu : P.underlying t = some (.struct fs))
    (hp : fs.toList.mapM (fun f => (P.info? f.type).map fun i => (f.offset, i.size)) = some places) (F : Has N a env) (hg : wants l env g = true) (hN : Nat.blt d N = true) (he : evP env parts = some ps) (hf : FillB (fun i => places[i]?) n zb ps s)
    (K : ∀ a, Has N a ((d, .agg (bs n s).toArray) :: env) → wpList P l.toArray Q rest a w) : wpList P l.toArray Q (⟨some d, .build t parts.toArray, ty, pos, af, g⟩ :: rest) a w :=
  stepV F hg rfl hN (rBdB hz hu hp F he hf) K
end Go.Proofs.YtmfdpnjgljlkbaaDoor

namespace Go.Proofs.YtmfdpnjgljlkbaaDoor
open Go.RowKit

variable {P : Program} {l : List Oper} {Q : Exit → Act → World → Prop} {N : Nat} {a : Act} {env : List (Nat × Value)} {rest : List Oper} {d : Tmp} {ty : TypeId} {pos : String} {af : Array Edge} {g : Option (Nat × Bool)}
  {w0 w : World} {row : Option Nat} {rs : List Res} {Kt : Act → World → Prop}
theorem cell_run {st : TypeId} {b n : Nat} {s : By} {bt : TypeId} {dd : TypeDesc} {i : Nat} (H : Own w0 row w rs) (hu : P.underlying st = some dd) (hdd : dd.isRow = true) (hz : ∀ w, (sizeOf st).run P w = .ok n w) (hi : rs[i]? = some (.blk b (bs n s) bt)) :
    (loadVar st ⟨b, 0, none⟩).run P w = .ok (.agg (bs n s).toArray) w :=
  run_loadVar_mid (P := P) w b 0 st (bs n s) dd (H.whole i hi) hu hdd (by rw [bs_length]; exact info_size hz)
theorem getD_as {a : Act} {t : Nat} {v : Value} (h : a.tmps.getD t undef = v) : a.tmps[t]?.getD undef = v := by simpa using h
theorem cell_addr (b : Nat) : (asAddr (.pointer (some ⟨b, 0, none⟩))).run P w = .ok ⟨b, 0, none⟩ w := rfl
theorem bRetB {fn : Func} {R : Ending → World → Prop} {t  : Tmp} {st : TypeId} {b n : Nat} {s : By} {bt : TypeId} {dd : TypeDesc} (hres : fn.results = #[.cell t st]) (F : Has N a env) (hv : lk env t = some (.pointer (some ⟨b, 0, none⟩)))
    (hu : P.underlying st = some dd) (hdd : dd.isRow = true) (hz : ∀ w, (sizeOf st).run P w = .ok n w) (H : Own w0 row w rs) (i : Nat) (hi : rs[i]? = some (.blk b (bs n s) bt)) (h : R (.returned (.agg (bs n s).toArray)) w) : bodyPost P fn R .ret a w := by
  refine bodyPost_ret (v := .agg (bs n s).toArray) ?_ F.nod h
  have h1 := cell_run (P := P) H hu hdd hz hi
  unfold results
  rw [hres, Array.mapM_eq_mapM_toList]
  simp [h1, getD_as (F.get t _ hv), cell_addr, Sem.run_bind]
theorem bRetB1 {fn : Func} {R : Ending → World → Prop} {t u : Tmp} {st : TypeId} {b n : Nat} {s : By} {bt : TypeId} {dd : TypeDesc} {y : Value} (hres : fn.results = #[.cell t st, .tmp u]) (F : Has N a env) (hv : lk env t = some (.pointer (some ⟨b, 0, none⟩))) (hy : lk env u = some y)
    (hu : P.underlying st = some dd) (hdd : dd.isRow = true) (hz : ∀ w, (sizeOf st).run P w = .ok n w) (H : Own w0 row w rs) (i : Nat) (hi : rs[i]? = some (.blk b (bs n s) bt)) (h : R (.returned (.tuple #[.agg (bs n s).toArray, y])) w) : bodyPost P fn R .ret a w := by
  refine bodyPost_ret (v := .tuple #[.agg (bs n s).toArray, y]) ?_ F.nod h
  have h1 := cell_run (P := P) H hu hdd hz hi
  unfold results
  rw [hres, Array.mapM_eq_mapM_toList]
  simp [h1, getD_as (F.get t _ hv), cell_addr, getD_as (F.get u _ hy), Sem.run_bind]
theorem bRetB2 {fn : Func} {R : Ending → World → Prop} {t u u2 : Tmp} {st : TypeId} {b n : Nat} {s : By} {bt : TypeId} {dd : TypeDesc} {y y2 : Value} (hres : fn.results = #[.cell t st, .tmp u, .tmp u2]) (F : Has N a env) (hv : lk env t = some (.pointer (some ⟨b, 0, none⟩))) (hy : lk env u = some y) (hy2 : lk env u2 = some y2)
    (hu : P.underlying st = some dd) (hdd : dd.isRow = true) (hz : ∀ w, (sizeOf st).run P w = .ok n w) (H : Own w0 row w rs) (i : Nat) (hi : rs[i]? = some (.blk b (bs n s) bt)) (h : R (.returned (.tuple #[.agg (bs n s).toArray, y, y2])) w) : bodyPost P fn R .ret a w := by
  refine bodyPost_ret (v := .tuple #[.agg (bs n s).toArray, y, y2]) ?_ F.nod h
  have h1 := cell_run (P := P) H hu hdd hz hi
  unfold results
  rw [hres, Array.mapM_eq_mapM_toList]
  simp [h1, getD_as (F.get t _ hv), cell_addr, getD_as (F.get u _ hy), getD_as (F.get u2 _ hy2), Sem.run_bind]
theorem bRetC {fn : Func} {R : Ending → World → Prop} {t : Tmp} {st : TypeId} {b n : Nat} {cs : List Value} {bt : TypeId} {dd : TypeDesc} (hres : fn.results = #[.cell t st]) (F : Has N a env) (hv : lk env t = some (.pointer (some ⟨b, 0, none⟩)))
    (hu : P.underlying st = some dd) (hdd : dd.isRow = true) (H : Own w0 row w rs) (i : Nat) (hi : rs[i]? = some (.blk b cs bt)) (hz : ∀ w, (sizeOf st).run P w = .ok n w) (hn : Nat.beq cs.length n = true) (h : R (.returned (.agg cs.toArray)) w) : bodyPost P fn R .ret a w :=
  bodyPost_ret (results_own hres F hv hu hdd (by rw [Nat.eq_of_beq_eq_true hn]; exact info_size hz) (H.blk i hi)) F.nod h
theorem bRemN {x y : Operand} {i j : Nat} {t : TypeId} {k : IntKind} (h : 0 < j) : BinR P .rem t x y (.int k (i : Int)) (.int k (j : Int)) (.int k ((i % j : Nat) : Int)) := fun w => by
  simp [eqGuard, go_sem, Op.intDiv, show j ≠ 0 by omega]
  exact Int.tmod_eq_emod_of_nonneg (by omega)
theorem bRemB {x' y' : Operand} {x y : UInt8} {t : TypeId} (h : y ≠ 0) : BinR P .rem t x' y' (b8 x) (b8 y) (b8 (x % y)) := fun w => by
  have h1 : y.toNat ≠ 0 := fun e => h (UInt8.toNat_inj.1 e)
  have := bRemN (P := P) (x := x') (y := y') (i := x.toNat) (j := y.toNat) (t := t) (k := .u8) (by omega) w
  unfold b8
  rw [this, UInt8.toNat_mod]
theorem rMaxB {x' y' : Operand} {ts : Array TypeId} {x y : UInt8} (F : Has N a env) (hx : ev env x' = some (b8 x)) (hy : ev env y' = some (b8 y)) :
    (execOp a.eval ⟨some d, .call ⟨.builtin .max, #[x', y'], ts⟩, ty, pos, af, g⟩).run P w = .ok (.value (b8 (if x < y then y else x))) w := by
  simp only [execOp, resolve, invoke, builtin, Sem.run_bind, Sem.run_pure, Result.andThen_ok, List.map_toArray, List.map_cons, List.map_nil, F.eval hx, F.eval hy, Builtin.max_, List.foldlM, Builtin.max2, b8]
  congr 3
  by_cases h : x < y
  · have := UInt8.lt_iff_toNat_lt.1 h
    rw [if_pos h]; split <;> omega
  · have : ¬ x.toNat < y.toNat := fun q => h (UInt8.lt_iff_toNat_lt.2 q)
    rw [if_neg h]; split <;> omega
theorem sMaxB {x' y' : Operand} {ts : Array TypeId} {x y : UInt8} (F : Has N a env) (hg : wants l env g = true) (hN : Nat.blt d N = true) (hx : ev env x' = some (b8 x)) (hy : ev env y' = some (b8 y))
    (K : ∀ a, Has N a ((d, b8 (if x < y then y else x)) :: env) → wpList P l.toArray Q rest a w) : wpList P l.toArray Q (⟨some d, .call ⟨.builtin .max, #[x', y'], ts⟩, ty, pos, af, g⟩ :: rest) a w :=
  stepV F hg rfl hN (rMaxB F hx hy) K
theorem rMinN {x y : Operand} {ts : Array TypeId} {i j : Nat} {k k' : IntKind} (F : Has N a env) (hx : ev env x = some (.int k (i : Int))) (hy : ev env y = some (.int k' (j : Int))) :
    (execOp a.eval ⟨some d, .call ⟨.builtin .min, #[x, y], ts⟩, ty, pos, af, g⟩).run P w = .ok (.value (.int k ((min i j : Nat) : Int))) w := by
  simp only [execOp, resolve, invoke, builtin, Sem.run_bind, Sem.run_pure, Result.andThen_ok, List.map_toArray, List.map_cons, List.map_nil, F.eval hx, F.eval hy, Builtin.min_, List.foldlM, Builtin.min2]
  congr 4
  split <;> omega
theorem sMinN {x y : Operand} {ts : Array TypeId} {i j : Nat} {k k' : IntKind} (F : Has N a env) (hg : wants l env g = true) (hN : Nat.blt d N = true) (hx : ev env x = some (.int k (i : Int))) (hy : ev env y = some (.int k' (j : Int)))
    (K : ∀ a, Has N a ((d, .int k ((min i j : Nat) : Int)) :: env) → wpList P l.toArray Q rest a w) : wpList P l.toArray Q (⟨some d, .call ⟨.builtin .min, #[x, y], ts⟩, ty, pos, af, g⟩ :: rest) a w :=
  stepV F hg rfl hN (rMinN F hx hy) K
theorem oCallV {x : Operand} {xs : List Operand} {ts : Array TypeId} {vs : List Value} {v : Value} {R : Ending → World → Prop} (F : Has N a env) (hN : Nat.blt d N = true)
    (hx : ev env x = some v) (hv : evL env xs = some vs) (hc : CallsF P v vs w R)
    (K : ∀ e w, R e w → ∃ v, e = .returned v ∧ ∀ a, Has N a ((d, v) :: env) → Kt a w) : (Oper.mk (some d) (.call ⟨.value x, xs.toArray, ts⟩) ty pos af g).wp P a w Kt Q := by
  obtain ⟨f, fi, ca, rfl, h1, h2⟩ := hc
  exact oCallF F hN hx h1 hv h2 K
/-! ### An array's element, by simpler places -/
theorem rIaZ {t e : TypeId} {x i : Operand} {b n j sz : Nat} {k : IntKind} (ht : P.underlying t = some (.array n e)) (hz : ∀ w, (sizeOf e).run P w = .ok sz w)
    (F : Has N a env) (hx : ev env x = some (.pointer (some ⟨b, 0, none⟩))) (hi : ev env i = some (.int k (j : Int))) (hj : j < n) : (execOp a.eval ⟨some d, .indexAddr t x i, ty, pos, af, g⟩).run P w = .ok (.value (.pointer (some ⟨b, j * sz, none⟩))) w := by
  have h := rIa (P := P) (d := d) (ty := ty) (pos := pos) (af := af) (g := g) (w := w) ht hz F hx hi hj
  simpa only [Nat.zero_add, Nat.mul_one] using h
theorem sIaZ {t e : TypeId} {x i : Operand} {b n j sz : Nat} {k : IntKind} (ht : P.underlying t = some (.array n e)) (hz : ∀ w, (sizeOf e).run P w = .ok sz w)
    (F : Has N a env) (hg : wants l env g = true) (hN : Nat.blt d N = true) (hx : ev env x = some (.pointer (some ⟨b, 0, none⟩))) (hi : ev env i = some (.int k (j : Int))) (hj : j < n)
    (K : ∀ a, Has N a ((d, .pointer (some ⟨b, j * sz, none⟩)) :: env) → wpList P l.toArray Q rest a w) : wpList P l.toArray Q (⟨some d, .indexAddr t x i, ty, pos, af, g⟩ :: rest) a w :=
  stepV F hg rfl hN (rIaZ ht hz F hx hi hj) K
theorem rIaZ1 {t e : TypeId} {x i : Operand} {b n j : Nat} {k : IntKind} (ht : P.underlying t = some (.array n e)) (hz : ∀ w, (sizeOf e).run P w = .ok 1 w)
    (F : Has N a env) (hx : ev env x = some (.pointer (some ⟨b, 0, none⟩))) (hi : ev env i = some (.int k (j : Int))) (hj : j < n) : (execOp a.eval ⟨some d, .indexAddr t x i, ty, pos, af, g⟩).run P w = .ok (.value (.pointer (some ⟨b, j, none⟩))) w := by
  have h := rIa (P := P) (d := d) (ty := ty) (pos := pos) (af := af) (g := g) (w := w) ht hz F hx hi hj
  simpa only [Nat.zero_add, Nat.mul_one] using h
theorem sIaZ1 {t e : TypeId} {x i : Operand} {b n j : Nat} {k : IntKind} (ht : P.underlying t = some (.array n e)) (hz : ∀ w, (sizeOf e).run P w = .ok 1 w)
    (F : Has N a env) (hg : wants l env g = true) (hN : Nat.blt d N = true) (hx : ev env x = some (.pointer (some ⟨b, 0, none⟩))) (hi : ev env i = some (.int k (j : Int))) (hj : j < n)
    (K : ∀ a, Has N a ((d, .pointer (some ⟨b, j, none⟩)) :: env) → wpList P l.toArray Q rest a w) : wpList P l.toArray Q (⟨some d, .indexAddr t x i, ty, pos, af, g⟩ :: rest) a w :=
  stepV F hg rfl hN (rIaZ1 ht hz F hx hi hj) K
theorem rIa1 {t e : TypeId} {x i : Operand} {b o n j : Nat} {k : IntKind} (ht : P.underlying t = some (.array n e)) (hz : ∀ w, (sizeOf e).run P w = .ok 1 w)
    (F : Has N a env) (hx : ev env x = some (.pointer (some ⟨b, o, none⟩))) (hi : ev env i = some (.int k (j : Int))) (hj : j < n) : (execOp a.eval ⟨some d, .indexAddr t x i, ty, pos, af, g⟩).run P w = .ok (.value (.pointer (some ⟨b, o + j, none⟩))) w := by
  have h := rIa (P := P) (d := d) (ty := ty) (pos := pos) (af := af) (g := g) (w := w) ht hz F hx hi hj
  simpa only [Nat.zero_add, Nat.mul_one] using h
theorem sIa1 {t e : TypeId} {x i : Operand} {b o n j : Nat} {k : IntKind} (ht : P.underlying t = some (.array n e)) (hz : ∀ w, (sizeOf e).run P w = .ok 1 w)
    (F : Has N a env) (hg : wants l env g = true) (hN : Nat.blt d N = true) (hx : ev env x = some (.pointer (some ⟨b, o, none⟩))) (hi : ev env i = some (.int k (j : Int))) (hj : j < n)
    (K : ∀ a, Has N a ((d, .pointer (some ⟨b, o + j, none⟩)) :: env) → wpList P l.toArray Q rest a w) : wpList P l.toArray Q (⟨some d, .indexAddr t x i, ty, pos, af, g⟩ :: rest) a w :=
  stepV F hg rfl hN (rIa1 ht hz F hx hi hj) K
/-- The first field's address. -/
theorem rFaZ {s : TypeId} {x : Operand} {f b o : Nat} {fs : Array Field} {fd : Field} {sz : Nat} (hs : P.underlying s = some (.struct fs)) (hf : fs[f]? = some fd) (hz : ∀ w, (sizeOf fd.type).run P w = .ok sz w) (hnz : Nat.beq sz 0 = false) (hk : fd.offset = 0)
    (F : Has N a env) (hx : ev env x = some (.pointer (some ⟨b, o, none⟩))) : (execOp a.eval ⟨some d, .fieldAddr s x f, ty, pos, af, g⟩).run P w = .ok (.value (.pointer (some ⟨b, o, none⟩))) w :=
  rFa hs hf hz hnz (by rw [hk, Nat.add_zero]) F hx
theorem sFaZ {s : TypeId} {x : Operand} {f b o : Nat} {fs : Array Field} {fd : Field} {sz : Nat} (hs : P.underlying s = some (.struct fs)) (hf : fs[f]? = some fd) (hz : ∀ w, (sizeOf fd.type).run P w = .ok sz w) (hnz : Nat.beq sz 0 = false) (hk : fd.offset = 0)
    (F : Has N a env) (hg : wants l env g = true) (hN : Nat.blt d N = true) (hx : ev env x = some (.pointer (some ⟨b, o, none⟩)))
    (K : ∀ a, Has N a ((d, .pointer (some ⟨b, o, none⟩)) :: env) → wpList P l.toArray Q rest a w) : wpList P l.toArray Q (⟨some d, .fieldAddr s x f, ty, pos, af, g⟩ :: rest) a w :=
  stepV F hg rfl hN (rFaZ hs hf hz hnz hk F hx) K
/-! ### A slice of one element -/
theorem splice_whole {zs cs : List Value} (h : cs.length = zs.length) : splice zs 0 cs = cs := by
  refine List.ext_getElem? fun i => ?_
  rw [splice_get _ _ _ _ (by omega), Nat.sub_zero, Nat.zero_add]
  split
  · rfl
  · rename_i h1; rw [List.getElem?_eq_none (by omega), List.getElem?_eq_none (by omega)]
theorem fill_one {size : Nat} {z v : Value} (hzs : z.cells.toList.length = size) (hv : v.cells.toList.length = size) : fillL (fun i => some (i * size, size)) (rep 1 z.cells.toList) [(0, v)] = some v.cells.toList := by
  have e1 : rep 1 z.cells.toList = z.cells.toList := by simp [rep]
  rw [e1]
  unfold fillL
  simp only [Nat.zero_mul, Nat.zero_add]
  have e2 : (Nat.beq v.cells.toList.length size && Nat.ble v.cells.toList.length z.cells.toList.length) = true := by
    rw [hv, hzs, Bool.and_eq_true]; exact ⟨Nat.beq_refl _, Nat.ble_eq_true_of_le (Nat.le_refl _)⟩
  rw [e2]
  simp only [cond_true, fillL]
  rw [splice_whole (by rw [hv, hzs])]
theorem sBs1 {t e : TypeId} {x : Operand} {v z : Value} (H : Own w0 row w rs) (ht : P.underlying t = some (.slice e)) (hs : ∀ w, (sizeOf e).run P w = .ok 1 w) (hz : ∀ w, (zeroValue e).run P w = .ok z w) (hzs : z.cells.toList.length = 1)
    (F : Has N a env) (hg : wants l env g = true) (hN : Nat.blt d N = true) (hx : ev env x = some v) (hv : v.oneCell' = true)
    (K : ∀ b a w, Has N a ((d, .slice (some ⟨b, 0, none⟩) 1 1) :: env) → Own w0 row w (.blk b [v] e :: rs) → wpList P l.toArray Q rest a w) : wpList P l.toArray Q (⟨some d, .buildSlice t 1 #[(0, x)], ty, pos, af, g⟩ :: rest) a w := by
  have hc : v.cells.toList = [v] := by cases v <;> simp_all [Value.oneCell', Value.cells]
  refine sBs (parts := [(0, x)]) H ht hs hz hzs F hg hN (ps := [(0, v)]) (by simp [evP, hx]) rfl (fill_one hzs (by rw [hc]; rfl)) ?_
  rw [hc]
  exact K
theorem oBs1 {t e : TypeId} {x : Operand} {v z : Value} (H : Own w0 row w rs) (ht : P.underlying t = some (.slice e)) (hs : ∀ w, (sizeOf e).run P w = .ok 1 w) (hz : ∀ w, (zeroValue e).run P w = .ok z w) (hzs : z.cells.toList.length = 1)
    (F : Has N a env) (hN : Nat.blt d N = true) (hx : ev env x = some v) (hv : v.oneCell' = true)
    (K : ∀ b a w, Has N a ((d, .slice (some ⟨b, 0, none⟩) 1 1) :: env) → Own w0 row w (.blk b [v] e :: rs) → Kt a w) : (Oper.mk (some d) (.buildSlice t 1 #[(0, x)]) ty pos af g).wp P a w Kt Q := by
  have hc : v.cells.toList = [v] := by cases v <;> simp_all [Value.oneCell', Value.cells]
  refine oBs (parts := [(0, x)]) H ht hs hz hzs F hN (ps := [(0, v)]) (by simp [evP, hx]) rfl (fill_one hzs (by rw [hc]; rfl)) ?_
  rw [hc]
  exact K
theorem sBsA {t e : TypeId} {x : Operand} {cs : List Value} {z : Value} {sz : Nat} (H : Own w0 row w rs) (ht : P.underlying t = some (.slice e)) (hs : ∀ w, (sizeOf e).run P w = .ok sz w) (hz : ∀ w, (zeroValue e).run P w = .ok z w) (hzs : z.cells.toList.length = sz)
    (F : Has N a env) (hg : wants l env g = true) (hN : Nat.blt d N = true) (hx : ev env x = some (.agg cs.toArray)) (hv : cs.length = sz) (hl : Nat.ble (1 * sz) 16777216 = true)
    (K : ∀ b a w, Has N a ((d, .slice (some ⟨b, 0, none⟩) 1 1) :: env) → Own w0 row w (.blk b cs e :: rs) → wpList P l.toArray Q rest a w) : wpList P l.toArray Q (⟨some d, .buildSlice t 1 #[(0, x)], ty, pos, af, g⟩ :: rest) a w := by
  have hc : (Value.agg cs.toArray).cells.toList = cs := rfl
  refine sBs (parts := [(0, x)]) H ht hs hz hzs F hg hN (ps := [(0, .agg cs.toArray)]) (by simp [evP, hx]) hl (fill_one hzs (by rw [hc, hv])) ?_
  exact K
theorem oBsA {t e : TypeId} {x : Operand} {cs : List Value} {z : Value} {sz : Nat} (H : Own w0 row w rs) (ht : P.underlying t = some (.slice e)) (hs : ∀ w, (sizeOf e).run P w = .ok sz w) (hz : ∀ w, (zeroValue e).run P w = .ok z w) (hzs : z.cells.toList.length = sz)
    (F : Has N a env) (hN : Nat.blt d N = true) (hx : ev env x = some (.agg cs.toArray)) (hv : cs.length = sz) (hl : Nat.ble (1 * sz) 16777216 = true)
    (K : ∀ b a w, Has N a ((d, .slice (some ⟨b, 0, none⟩) 1 1) :: env) → Own w0 row w (.blk b cs e :: rs) → Kt a w) : (Oper.mk (some d) (.buildSlice t 1 #[(0, x)]) ty pos af g).wp P a w Kt Q := by
  have hc : (Value.agg cs.toArray).cells.toList = cs := rfl
  refine oBs (parts := [(0, x)]) H ht hs hz hzs F hN (ps := [(0, .agg cs.toArray)]) (by simp [evP, hx]) hl (fill_one hzs (by rw [hc, hv])) ?_
  exact K
/-! ### Maps from bytes, by their entries -/
def Res.mpB (b : Nat) (kv : List (UInt8 × Value)) : Res where
  foot := (· = b)
  pred := fun w => ∃ es clock, w.heap[b]? = some (.map es clock) ∧ es.toList.map (fun e => (e.key, e.val)) = kv.map fun p => (b8 p.1, p.2)
  loc := fun _ _ h hp => by
    obtain ⟨es, c, h1, h2⟩ := hp
    exact ⟨es, c, (h b rfl).trans h1, h2⟩
def findB (k : UInt8) (kv : List (UInt8 × Value)) : Option (UInt8 × Value) := kv.find? fun p => k == p.1
theorem findNow_B (k : UInt8) {q : IntKind} : ∀ (es : List MapEntry) (kv : List (UInt8 × Value)) (i : Nat), es.map (fun e => (e.key, e.val)) = kv.map (fun p => (b8 p.1, p.2)) →
    ∃ j, Instr.findNow (.int q) (b8 k) es i = some ((findB k kv).map fun p => (j, p.2))
  | [], [], i, _ => ⟨0, rfl⟩
  | e :: es, p :: kv, i, h => by
    simp only [List.map_cons, List.cons.injEq, Prod.mk.injEq] at h
    obtain ⟨⟨h1, h2⟩, h3⟩ := h
    unfold Instr.findNow
    have hs : Instr.sameNow (.int q) (b8 k) e.key = some (k == p.1) := by
      rw [h1]; unfold b8 Instr.sameNow; simp only [if_true]; rw [toNat_inj8]
    rw [hs]
    cases hk : k == p.1 with
    | true => exact ⟨i, by simp [findB, hk, h2]⟩
    | false =>
      obtain ⟨j, hj⟩ := findNow_B k es kv (i + 1) h3
      refine ⟨j, ?_⟩
      simp only [findB, List.find?_cons, hk]
      exact hj
  | [], _ :: _, _, h => by simp at h
  | _ :: _, [], _, h => by simp at h
theorem checkKey_B {t : TypeId} {q : IntKind} (ht : P.underlying t = some (.int q)) (e : Bool) (n : Nat) (v : Value) (w : World) : (Instr.checkKey e (n + 1) t v).run P w = .ok () w := by
  unfold Instr.checkKey
  simp [run_underlying ht]
theorem findKey_B {t : TypeId} {q : IntKind} (ht : P.underlying t = some (.int q)) {k : UInt8} {es : List MapEntry} {kv : List (UInt8 × Value)} (h : es.map (fun e => (e.key, e.val)) = kv.map (fun p => (b8 p.1, p.2))) (w : World) :
    ∃ j, (Instr.findKey t (b8 k) es).run P w = .ok ((findB k kv).map fun p => (j, p.2)) w := by
  obtain ⟨j, hj⟩ := findNow_B (q := q) k es kv 0 h
  exact ⟨j, by unfold Instr.findKey; simp [run_underlying ht, hj]⟩
theorem sMkM {t : TypeId} (H : Own w0 row w rs) (F : Has N a env) (hg : wants l env g = true) (hN : Nat.blt d N = true)
    (K : ∀ b a w, Has N a ((d, .map (some b)) :: env) → Own w0 row w (.mpB b [] :: rs) → wpList P l.toArray Q rest a w) : wpList P l.toArray Q (⟨some d, .makeMap t none, ty, pos, af, g⟩ :: rest) a w :=
  stepV F hg rfl hN (v := .map (some w.heap.size)) (w' := w.alloc (.map #[] 0)) (by simp [execOp, run_makeMap]) (fun a' F' => K _ _ _ F' (H.add (.mpB w.heap.size []) ((Below.refl _ _).alloc (Nat.le_refl _) _)
    ⟨#[], 0, heap_alloc_new w _, rfl⟩ (fun b hb => by cases hb; exact ⟨Nat.le_refl _, by simp⟩)))
theorem sIns {t kt et : TypeId} {q : IntKind} {m x y : Operand} {b : Nat} {k : UInt8} {v : Value} {kv : List (UInt8 × Value)} (H : Own w0 row w rs) (i : Nat) (ht : P.underlying t = some (.map kt et)) (hk : P.underlying kt = some (.int q)) (F : Has N a env) (hg : wants l env g = true)
    (hm : ev env m = some (.map (some b))) (hx : ev env x = some (b8 k)) (hy : ev env y = some v) (hi : rs[i]? = some (.mpB b kv)) (hn : findB k kv = none)
    (K : ∀ w, Own w0 row w (rs.set i (.mpB b (kv ++ [(k, v)]))) → wpList P l.toArray Q rest a w) : wpList P l.toArray Q (⟨none, .insert t m x y, ty, pos, af, g⟩ :: rest) a w := by
  obtain ⟨es, clock, h1, h2⟩ := H.pred i _ hi
  obtain ⟨j, hj⟩ := findKey_B (P := P) hk (k := k) h2 w
  rw [hn] at hj
  have hbs : b < w.heap.size := by
    rcases Nat.lt_or_ge b w.heap.size with h | h
    · exact h
    · rw [Array.getElem?_eq_none h] at h1; cases h1
  refine stepU F hg rfl (w' := { w with heap := w.heap.setIfInBounds b (.map (es.push { key := b8 k, val := v, born := clock }) (clock + 1)) }) ?_ (K _ ?_)
  · simp only [execOp, F.eval hm, F.eval hx, F.eval hy, Instr.mapUpdate, Sem.run_bind, run_underlying ht, Result.andThen_ok]
    have hgo : (getObj b).run P w = .ok (.map es clock) w := MapKept.run_getObj_map h1
    simp only [hgo, Result.andThen_ok, Sem.run_bind, checkKey_B hk, hj, Option.map_none]
    simp only [MapKept.run_setObj_map _ h1, Result.andThen_ok, Sem.run_pure]
  · refine H.turn i hi _ ?_ (by simp) (fun c hc hne => by simp [Ne.symm hne]) ⟨es.push { key := b8 k, val := v, born := clock }, clock + 1, by simp [hbs], by simp [h2]⟩ (fun c hc => ⟨.inl hc, by cases hc; simpa using hbs⟩)
    refine ⟨H.grown.os, H.grown.tape, H.grown.output, by simpa using H.grown.size, fun c hc hne => ?_⟩
    have hcb : c ≠ b := by
      rintro rfl
      rcases (H.foot i _ hi c rfl).1 with h | h
      · omega
      · exact hne h
    rw [← H.grown.block c hc hne]
    simp [Ne.symm hcb]
theorem rLkB {t kt et : TypeId} {q : IntKind} {m x : Operand} {b : Nat} {k k' : UInt8} {v : Value} {kv : List (UInt8 × Value)} (H : Own w0 row w rs) (i : Nat) (ht : P.underlying t = some (.map kt et)) (hk : P.underlying kt = some (.int q)) (F : Has N a env)
    (hm : ev env m = some (.map (some b))) (hx : ev env x = some (b8 k)) (hi : rs[i]? = some (.mpB b kv)) (hn : findB k kv = some (k', v)) :
    (execOp a.eval ⟨some d, .lookup t m x true, ty, pos, af, g⟩).run P w = .ok (.value (.tuple #[v, .bool true])) w := by
  obtain ⟨es, clock, h1, h2⟩ := H.pred i _ hi
  obtain ⟨j, hj⟩ := findKey_B (P := P) hk (k := k) h2 w
  rw [hn] at hj
  have hgo : (getObj b).run P w = .ok (.map es clock) w := MapKept.run_getObj_map h1
  simp only [execOp, F.eval hm, F.eval hx, Instr.lookup, Sem.run_bind, run_underlying ht, Result.andThen_ok, hgo, Sem.run_pure, checkKey_B hk, hj, Option.map_some, if_true]
end Go.Proofs.YtmfdpnjgljlkbaaDoor

namespace Go.Proofs.YtmfdpnjgljlkbaaDoor
open Go.RowKit

variable {P : Program} {l : List Oper} {Q : Exit → Act → World → Prop} {S : World → Prop} {N : Nat} {a : Act} {env : List (Nat × Value)} {w : World}
def readyR (l : List Oper) (m : List Bool) (k : Nat) (is : List Nat) : Bool := Nat.blt k l.length && (Region.ready .any l.toArray m.toArray == is)
theorem eSplit {k : Nat} {m : List Bool} {is : List Nat} (ht : readyR l m k is = true) (h : ∀ i ∈ is, ∃ o, opAt l i = some o ∧ wants l env o.guard = true ∧ o.wp P a w (Ke P l Q S k m i) Q) (hne : is.isEmpty = false) (F : Has N a env) : wpR P l Q S k m a w := by
  intro hc hk
  simp only [readyR, Bool.and_eq_true, beq_iff_eq] at ht
  obtain ⟨hlt, hr⟩ := ht
  have hlt := Nat.blt_eq.mp hlt
  have e : l.length - k = (l.length - (k + 1)) + 1 := by omega
  rw [e]
  refine ⟨fun h0 => (by rw [hr] at h0; rw [h0] at hne; cases hne), fun j hj => ?_⟩
  have hc2 := hc.list hj
  rw [set_arr] at hc2
  rw [hr] at hj
  obtain ⟨o, ho1, hg, hw⟩ := h j hj
  have ho : l.toArray[j]? = some o := by simpa using opAt_get ho1
  unfold wpOp
  simp only [ho, wanted_of F hg, if_true]
  refine .inl (Oper.wp_mono (fun a' w' h' => ?_) hw)
  rw [set_arr]
  exact h' hc2 hlt
theorem eTwo {k i j : Nat} {m : List Bool} {oi oj : Oper} (ht : readyR l m k [i, j] = true) (F : Has N a env) (hi : opAt l i = some oi) (hj : opAt l j = some oj) (hgi : wants l env oi.guard = true) (hgj : wants l env oj.guard = true)
    (h1 : oi.wp P a w (Ke P l Q S k m i) Q) (h2 : oj.wp P a w (Ke P l Q S k m j) Q) : wpR P l Q S k m a w :=
  eSplit ht (fun q hq => by
    simp only [List.mem_cons, List.not_mem_nil, or_false] at hq
    rcases hq with rfl | rfl
    · exact ⟨oi, hi, hgi, h1⟩
    · exact ⟨oj, hj, hgj, h2⟩) rfl F
theorem eThree {k i j n : Nat} {m : List Bool} {oi oj on : Oper} (ht : readyR l m k [i, j, n] = true) (F : Has N a env) (hi : opAt l i = some oi) (hj : opAt l j = some oj) (hn : opAt l n = some on) (hgi : wants l env oi.guard = true) (hgj : wants l env oj.guard = true) (hgn : wants l env on.guard = true)
    (h1 : oi.wp P a w (Ke P l Q S k m i) Q) (h2 : oj.wp P a w (Ke P l Q S k m j) Q) (h3 : on.wp P a w (Ke P l Q S k m n) Q) : wpR P l Q S k m a w :=
  eSplit ht (fun q hq => by
    simp only [List.mem_cons, List.not_mem_nil, or_false] at hq
    rcases hq with rfl | rfl | rfl
    · exact ⟨oi, hi, hgi, h1⟩
    · exact ⟨oj, hj, hgj, h2⟩
    · exact ⟨on, hn, hgn, h3⟩) rfl F
theorem eKeep {k i : Nat} {m : List Bool} (hS : S w) (h : wpR P l Q S (k + 1) (m.set i true) a w) : Ke P l Q S k m i a w := fun hc hk => .inr ⟨hS, h hc hk⟩
theorem eUp {w0 : World} {row : Option Nat} {rs : List Res} {k : Nat} {m : List Bool} (_H : Own w0 row w rs) (hSS : ∀ w, Own w0 row w rs → S w) (h : wpR P l Q (fun w => Own w0 row w rs) k m a w) : wpR P l Q S k m a w := fun hc hk => wpT_mono hSS _ _ _ _ (h hc hk)
/-- Where the orders meet: k2 operations are listed, J holds. -/
theorem eJoin {w0 : World} {row : Option Nat} {rs : List Res} {k : Nat} {m : List Bool} (_F : Has N a env) (_H : Own w0 row w rs) (ks : List Nat) (k2 : Nat) (m2 : List Bool) (J : List Res → List (Nat × Value) → World → Prop) {e : List (Nat × Value)} (_hs : SubR env ks e)
    (hJ : ∀ ups a w, J rs ups w → Has N a (ups ++ e) → wpR P l Q S k2 m2 a w) (h : (∀ ups a w, J rs ups w → Has N a (ups ++ e) → wpR P l Q S k2 m2 a w) → wpR P l Q S k m a w) : wpR P l Q S k m a w := h hJ
theorem eGo {k : Nat} {m m2 : List Bool} {J : List (Nat × Value) → World → Prop} {e : List (Nat × Value)} (hJ : ∀ ups a w, J ups w → Has N a (ups ++ e) → wpR P l Q S k m2 a w) (hm : m = m2) (ups : List (Nat × Value)) (h : J ups w) (F : Has N a (ups ++ e)) : wpR P l Q S k m a w := by
  subst hm; exact hJ ups a w h F
end Go.Proofs.YtmfdpnjgljlkbaaDoor

namespace Go.Proofs.YtmfdpnjgljlkbaaDoor
open Go.RowKit

theorem eT8 : EqT Tryd.prog 1 5 [.u8] false := eqInt Tryd.underlying5 (.inl rfl)
theorem eT52 : EqT Tryd.prog 2 52 (List.replicate 8 .u8) true := by
  have h := eqArr (P := Tryd.prog) (ks := List.replicate 1 .u8) Tryd.underlying52 Tryd.sizeOf5 Tryd.isAgg5 (fun _ => rfl) (eqInt (P := Tryd.prog) Tryd.underlying5 (.inl rfl))
  rw [repK_u8] at h
  exact h
theorem gT52 : Tryd.prog.eqGuardType Tryd.prog.depth 52 = false := by kernel_rfl
theorem zB52 : ∀ w, (zeroValue 52).run Tryd.prog w = .ok (.agg (bs 8 zb).toArray) w := fun w => (Tryd.zeroValue52 w).trans (congrArg (fun c => Result.ok (Value.agg c) w) (by kernel_rfl))
theorem eT55 : EqT Tryd.prog 3 55 (List.replicate 32 .u8) true := by
  have h := eqArr (P := Tryd.prog) (ks := List.replicate 8 .u8) Tryd.underlying55 Tryd.sizeOf52 Tryd.isAgg52 (fun h => (by cases h)) eT52
  rw [repK_u8] at h
  exact h
theorem gT55 : Tryd.prog.eqGuardType Tryd.prog.depth 55 = false := by kernel_rfl
theorem zB55 : ∀ w, (zeroValue 55).run Tryd.prog w = .ok (.agg (bs 32 zb).toArray) w := fun w => (Tryd.zeroValue55 w).trans (congrArg (fun c => Result.ok (Value.agg c) w) (by kernel_rfl))
theorem eT56 : EqT Tryd.prog 2 56 (List.replicate 6 .u8) true := by
  have h := eqArr (P := Tryd.prog) (ks := List.replicate 1 .u8) Tryd.underlying56 Tryd.sizeOf5 Tryd.isAgg5 (fun _ => rfl) (eqInt (P := Tryd.prog) Tryd.underlying5 (.inl rfl))
  rw [repK_u8] at h
  exact h
theorem gT56 : Tryd.prog.eqGuardType Tryd.prog.depth 56 = false := by kernel_rfl
theorem zB56 : ∀ w, (zeroValue 56).run Tryd.prog w = .ok (.agg (bs 6 zb).toArray) w := fun w => (Tryd.zeroValue56 w).trans (congrArg (fun c => Result.ok (Value.agg c) w) (by kernel_rfl))
theorem eT57 : EqT Tryd.prog 4 57 (List.replicate 38 .u8) true := by
  have h := eqStruct (P := Tryd.prog) (D := 3) (kss := [(List.replicate 32 .u8, true), (List.replicate 6 .u8, true)]) Tryd.underlying57 (by kernel_rfl) ⟨rfl, by decide, Tryd.sizeOf55, Tryd.isAgg55, fun h => (by cases h), (eT55).up 0, rfl, by decide, Tryd.sizeOf56, Tryd.isAgg56, fun h => (by cases h), (eT56).up 1, trivial⟩
  exact h
theorem gT57 : Tryd.prog.eqGuardType Tryd.prog.depth 57 = false := by kernel_rfl
theorem zB57 : ∀ w, (zeroValue 57).run Tryd.prog w = .ok (.agg (bs 38 zb).toArray) w := fun w => (Tryd.zeroValue57 w).trans (congrArg (fun c => Result.ok (Value.agg c) w) (by kernel_rfl))
theorem eT58 : EqT Tryd.prog 4 58 (List.replicate 38 .u8) true := by
  have h := eqStruct (P := Tryd.prog) (D := 3) (kss := [(List.replicate 32 .u8, true), (List.replicate 6 .u8, true)]) Tryd.underlying58 (by kernel_rfl) ⟨rfl, by decide, Tryd.sizeOf55, Tryd.isAgg55, fun h => (by cases h), (eT55).up 0, rfl, by decide, Tryd.sizeOf56, Tryd.isAgg56, fun h => (by cases h), (eT56).up 1, trivial⟩
  exact h
theorem gT58 : Tryd.prog.eqGuardType Tryd.prog.depth 58 = false := by kernel_rfl
theorem zB58 : ∀ w, (zeroValue 58).run Tryd.prog w = .ok (.agg (bs 38 zb).toArray) w := fun w => (Tryd.zeroValue58 w).trans (congrArg (fun c => Result.ok (Value.agg c) w) (by kernel_rfl))
theorem eT95 : EqT Tryd.prog 2 95 (List.replicate 9 .u8) true := by
  have h := eqArr (P := Tryd.prog) (ks := List.replicate 1 .u8) Tryd.underlying95 Tryd.sizeOf5 Tryd.isAgg5 (fun _ => rfl) (eqInt (P := Tryd.prog) Tryd.underlying5 (.inl rfl))
  rw [repK_u8] at h
  exact h
theorem gT95 : Tryd.prog.eqGuardType Tryd.prog.depth 95 = false := by kernel_rfl
theorem zB95 : ∀ w, (zeroValue 95).run Tryd.prog w = .ok (.agg (bs 9 zb).toArray) w := fun w => (Tryd.zeroValue95 w).trans (congrArg (fun c => Result.ok (Value.agg c) w) (by kernel_rfl))
end Go.Proofs.YtmfdpnjgljlkbaaDoor
