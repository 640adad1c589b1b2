/-
  Equality of structs whose fields are integers, as the walk meets it. Written by a program.
-/
import Derived.Test.YteamlfcfillbjaaGreatRows
import Derived.Test.YteamlfcfillbjaaGreatMo
import Derived.Laws.StructEq
namespace Go.Proofs.YteamlfcfillbjaaGreat
set_option linter.unusedVariables false
set_option linter.unusedSimpArgs false
set_option maxRecDepth 100000
open Go.RowKit
set_option maxRecDepth 100000
/-- fields of one integer each, one behind the other -/
def IntFields (P : Program) (o : Nat) : List Field → Prop
  | [] => True
  | f :: fs => (f.name ≠ "_" ∧ P.underlying f.type = some (.int .i64) ∧ f.offset = o) ∧ IntFields P (o + 1) fs
def intFieldsB (P : Program) (o : Nat) : List Field → Bool
  | [] => true
  | f :: fs => (f.name != "_" && (match P.underlying f.type with | some (.int .i64) => true | _ => false) && f.offset == o) && intFieldsB P (o + 1) fs
theorem intFields_of {P : Program} : ∀ (fs : List Field) (o : Nat), intFieldsB P o fs = true → IntFields P o fs
  | [], _, _ => trivial
  | f :: fs, o, h => by
    simp only [intFieldsB, Bool.and_eq_true, bne_iff_ne, beq_iff_eq] at h
    refine ⟨⟨h.1.1.1, ?_, h.1.2⟩, intFields_of fs _ h.2⟩
    have := h.1.1.2
    split at this
    · assumption
    · cases this
theorem run_eqFields_ints {P : Program} (d : Nat) (W : World) : ∀ (fs : List Field) (o : Nat) (xs ys : List Int) (cx cy : Array Value), IntFields P o fs → fs.length = xs.length → fs.length = ys.length →
    (∀ i n, xs[i]? = some n → cx[o + i]? = some (.int .i64 n)) → (∀ i n, ys[i]? = some n → cy[o + i]? = some (.int .i64 n)) → (Op.eqFields (d + 1) cx cy fs).run P W = .ok (decide (xs = ys)) W
  | [], o, [], [], cx, cy, _, _, _, _, _ => by simp [go_sem]
  | f :: fs, o, x :: xs, y :: ys, cx, cy, h, hx, hy, gx, gy => by
    have h0 := gx 0 x rfl
    have h1 := gy 0 y rfl
    simp only [Nat.add_zero] at h0 h1
    have ih := run_eqFields_ints d W fs (o + 1) xs ys cx cy h.2 (by simpa using hx) (by simpa using hy) (fun i n hi => by have := gx (i + 1) n (by simpa using hi); rw [← this]; congr 1; omega) (fun i n hi => by have := gy (i + 1) n (by simpa using hi); rw [← this]; congr 1; omega)
    obtain ⟨hn, ht, ho⟩ := h.1
    simp only [Op.eqFields, hn, ne_eq, not_false_eq_true, if_true, ho]
    have hA : ∀ w, (isAgg f.type).run P w = .ok false w := fun w => by simp [isAgg, run_underlying ht, go_sem]
    simp [go_sem, ht, part, h0, h1, hA]
    by_cases hxy : x = y
    · simp [hxy, ih]
    · simp [hxy]
theorem run_eql_ints {P : Program} {t : TypeId} (ht : P.underlying t = some (.struct (P.fieldsOf t))) (hs : P.stoodInHeld t = false) (hf : intFieldsB P 0 (P.fieldsOf t).toList = true) (xs ys : List Int) (hx : (P.fieldsOf t).size = xs.length) (hy : (P.fieldsOf t).size = ys.length) (W : World) :
    (binOp .eql t (.agg (xs.map (Value.int .i64)).toArray) (.agg (ys.map (Value.int .i64)).toArray)).run P W = .ok (.bool (decide (xs = ys))) W := by
  rw [run_eql_struct, run_equalIn_struct _ _ _ _ _ ht hs]
  rw [run_eqFields_ints 9998 W _ 0 xs ys _ _ (intFields_of _ _ hf) (by simpa using hx) (by simpa using hy) (fun i n h => by simp [h]) (fun i n h => by simp [h])]
  rfl
theorem run_neq_ints {P : Program} {t : TypeId} (ht : P.underlying t = some (.struct (P.fieldsOf t))) (hs : P.stoodInHeld t = false) (hf : intFieldsB P 0 (P.fieldsOf t).toList = true) (xs ys : List Int) (hx : (P.fieldsOf t).size = xs.length) (hy : (P.fieldsOf t).size = ys.length) (W : World) :
    (binOp .neq t (.agg (xs.map (Value.int .i64)).toArray) (.agg (ys.map (Value.int .i64)).toArray)).run P W = .ok (.bool (!decide (xs = ys))) W := by
  rw [run_neq_struct, run_equalIn_struct _ _ _ _ _ ht hs]
  rw [run_eqFields_ints 9998 W _ 0 xs ys _ _ (intFields_of _ _ hf) (by simpa using hx) (by simpa using hy) (fun i n h => by simp [h]) (fun i n h => by simp [h])]
  rfl
theorem Pair_eq_list (x y : Pair) : decide ([x.a, x.b] = [y.a, y.b]) = decide (x = y) := by
  rw [decide_eq_decide]
  exact ⟨fun h => by cases x; cases y; simp at h; simp [h], fun h => by rw [h]⟩
theorem eql_Pair (x y : Pair) (W : World) : (binOp .eql 81 (.agg #[.int .i64 x.a, .int .i64 x.b]) (.agg #[.int .i64 y.a, .int .i64 y.b])).run Tryz.prog W = .ok (.bool (decide (x = y))) W := by
  have := run_eql_ints (P := Tryz.prog) (t := 81) (by kernel_rfl) (by kernel_rfl) (by kernel_rfl) [x.a, x.b] [y.a, y.b] (by kernel_rfl) (by kernel_rfl) W
  rw [Pair_eq_list] at this
  exact this
theorem neq_Pair (x y : Pair) (W : World) : (binOp .neq 81 (.agg #[.int .i64 x.a, .int .i64 x.b]) (.agg #[.int .i64 y.a, .int .i64 y.b])).run Tryz.prog W = .ok (.bool (!decide (x = y))) W := by
  have := run_neq_ints (P := Tryz.prog) (t := 81) (by kernel_rfl) (by kernel_rfl) (by kernel_rfl) [x.a, x.b] [y.a, y.b] (by kernel_rfl) (by kernel_rfl) W
  rw [Pair_eq_list] at this
  exact this
theorem guard_Pair (op : BinOp) (p q : Operand) (x y : Pair) (W : World) : (eqGuard op 81 p q (.agg #[.int .i64 x.a, .int .i64 x.b]) (.agg #[.int .i64 y.a, .int .i64 y.b])).run Tryz.prog W = .ok () W := run_eqGuard_agg _ _ _ _ _ _ _ (by kernel_rfl)
theorem GType_eq_list (x y : GType) : decide ([x.id, x.w, x.h, x.d, x.tare, x.gram, x.cost] = [y.id, y.w, y.h, y.d, y.tare, y.gram, y.cost]) = decide (x = y) := by
  rw [decide_eq_decide]
  exact ⟨fun h => by cases x; cases y; simp at h; simp [h], fun h => by rw [h]⟩
theorem eql_Type (x y : GType) (W : World) : (binOp .eql 67 (.agg #[.int .i64 x.id, .int .i64 x.w, .int .i64 x.h, .int .i64 x.d, .int .i64 x.tare, .int .i64 x.gram, .int .i64 x.cost]) (.agg #[.int .i64 y.id, .int .i64 y.w, .int .i64 y.h, .int .i64 y.d, .int .i64 y.tare, .int .i64 y.gram, .int .i64 y.cost])).run Tryz.prog W = .ok (.bool (decide (x = y))) W := by
  have := run_eql_ints (P := Tryz.prog) (t := 67) (by kernel_rfl) (by kernel_rfl) (by kernel_rfl) [x.id, x.w, x.h, x.d, x.tare, x.gram, x.cost] [y.id, y.w, y.h, y.d, y.tare, y.gram, y.cost] (by kernel_rfl) (by kernel_rfl) W
  rw [GType_eq_list] at this
  exact this
theorem neq_Type (x y : GType) (W : World) : (binOp .neq 67 (.agg #[.int .i64 x.id, .int .i64 x.w, .int .i64 x.h, .int .i64 x.d, .int .i64 x.tare, .int .i64 x.gram, .int .i64 x.cost]) (.agg #[.int .i64 y.id, .int .i64 y.w, .int .i64 y.h, .int .i64 y.d, .int .i64 y.tare, .int .i64 y.gram, .int .i64 y.cost])).run Tryz.prog W = .ok (.bool (!decide (x = y))) W := by
  have := run_neq_ints (P := Tryz.prog) (t := 67) (by kernel_rfl) (by kernel_rfl) (by kernel_rfl) [x.id, x.w, x.h, x.d, x.tare, x.gram, x.cost] [y.id, y.w, y.h, y.d, y.tare, y.gram, y.cost] (by kernel_rfl) (by kernel_rfl) W
  rw [GType_eq_list] at this
  exact this
theorem guard_Type (op : BinOp) (p q : Operand) (x y : GType) (W : World) : (eqGuard op 67 p q (.agg #[.int .i64 x.id, .int .i64 x.w, .int .i64 x.h, .int .i64 x.d, .int .i64 x.tare, .int .i64 x.gram, .int .i64 x.cost]) (.agg #[.int .i64 y.id, .int .i64 y.w, .int .i64 y.h, .int .i64 y.d, .int .i64 y.tare, .int .i64 y.gram, .int .i64 y.cost])).run Tryz.prog W = .ok () W := run_eqGuard_agg _ _ _ _ _ _ _ (by kernel_rfl)
theorem Item_eq_list (x y : Item) : decide ([x.id, x.w, x.h, x.d, x.gram, x.cls, x.count] = [y.id, y.w, y.h, y.d, y.gram, y.cls, y.count]) = decide (x = y) := by
  rw [decide_eq_decide]
  exact ⟨fun h => by cases x; cases y; simp at h; simp [h], fun h => by rw [h]⟩
theorem eql_Item (x y : Item) (W : World) : (binOp .eql 41 (.agg #[.int .i64 x.id, .int .i64 x.w, .int .i64 x.h, .int .i64 x.d, .int .i64 x.gram, .int .i64 x.cls, .int .i64 x.count]) (.agg #[.int .i64 y.id, .int .i64 y.w, .int .i64 y.h, .int .i64 y.d, .int .i64 y.gram, .int .i64 y.cls, .int .i64 y.count])).run Tryz.prog W = .ok (.bool (decide (x = y))) W := by
  have := run_eql_ints (P := Tryz.prog) (t := 41) (by kernel_rfl) (by kernel_rfl) (by kernel_rfl) [x.id, x.w, x.h, x.d, x.gram, x.cls, x.count] [y.id, y.w, y.h, y.d, y.gram, y.cls, y.count] (by kernel_rfl) (by kernel_rfl) W
  rw [Item_eq_list] at this
  exact this
theorem neq_Item (x y : Item) (W : World) : (binOp .neq 41 (.agg #[.int .i64 x.id, .int .i64 x.w, .int .i64 x.h, .int .i64 x.d, .int .i64 x.gram, .int .i64 x.cls, .int .i64 x.count]) (.agg #[.int .i64 y.id, .int .i64 y.w, .int .i64 y.h, .int .i64 y.d, .int .i64 y.gram, .int .i64 y.cls, .int .i64 y.count])).run Tryz.prog W = .ok (.bool (!decide (x = y))) W := by
  have := run_neq_ints (P := Tryz.prog) (t := 41) (by kernel_rfl) (by kernel_rfl) (by kernel_rfl) [x.id, x.w, x.h, x.d, x.gram, x.cls, x.count] [y.id, y.w, y.h, y.d, y.gram, y.cls, y.count] (by kernel_rfl) (by kernel_rfl) W
  rw [Item_eq_list] at this
  exact this
theorem guard_Item (op : BinOp) (p q : Operand) (x y : Item) (W : World) : (eqGuard op 41 p q (.agg #[.int .i64 x.id, .int .i64 x.w, .int .i64 x.h, .int .i64 x.d, .int .i64 x.gram, .int .i64 x.cls, .int .i64 x.count]) (.agg #[.int .i64 y.id, .int .i64 y.w, .int .i64 y.h, .int .i64 y.d, .int .i64 y.gram, .int .i64 y.cls, .int .i64 y.count])).run Tryz.prog W = .ok () W := run_eqGuard_agg _ _ _ _ _ _ _ (by kernel_rfl)
theorem Pallet_eq_list (x y : Pallet) : decide ([x.w, x.d, x.h, x.gram] = [y.w, y.d, y.h, y.gram]) = decide (x = y) := by
  rw [decide_eq_decide]
  exact ⟨fun h => by cases x; cases y; simp at h; simp [h], fun h => by rw [h]⟩
theorem eql_Pallet (x y : Pallet) (W : World) : (binOp .eql 32 (.agg #[.int .i64 x.w, .int .i64 x.d, .int .i64 x.h, .int .i64 x.gram]) (.agg #[.int .i64 y.w, .int .i64 y.d, .int .i64 y.h, .int .i64 y.gram])).run Tryz.prog W = .ok (.bool (decide (x = y))) W := by
  have := run_eql_ints (P := Tryz.prog) (t := 32) (by kernel_rfl) (by kernel_rfl) (by kernel_rfl) [x.w, x.d, x.h, x.gram] [y.w, y.d, y.h, y.gram] (by kernel_rfl) (by kernel_rfl) W
  rw [Pallet_eq_list] at this
  exact this
theorem neq_Pallet (x y : Pallet) (W : World) : (binOp .neq 32 (.agg #[.int .i64 x.w, .int .i64 x.d, .int .i64 x.h, .int .i64 x.gram]) (.agg #[.int .i64 y.w, .int .i64 y.d, .int .i64 y.h, .int .i64 y.gram])).run Tryz.prog W = .ok (.bool (!decide (x = y))) W := by
  have := run_neq_ints (P := Tryz.prog) (t := 32) (by kernel_rfl) (by kernel_rfl) (by kernel_rfl) [x.w, x.d, x.h, x.gram] [y.w, y.d, y.h, y.gram] (by kernel_rfl) (by kernel_rfl) W
  rw [Pallet_eq_list] at this
  exact this
theorem guard_Pallet (op : BinOp) (p q : Operand) (x y : Pallet) (W : World) : (eqGuard op 32 p q (.agg #[.int .i64 x.w, .int .i64 x.d, .int .i64 x.h, .int .i64 x.gram]) (.agg #[.int .i64 y.w, .int .i64 y.d, .int .i64 y.h, .int .i64 y.gram])).run Tryz.prog W = .ok () W := run_eqGuard_agg _ _ _ _ _ _ _ (by kernel_rfl)
end Go.Proofs.YteamlfcfillbjaaGreat
