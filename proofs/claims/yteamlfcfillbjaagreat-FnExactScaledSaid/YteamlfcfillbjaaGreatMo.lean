/-
  The plain functions: what the program computes, in plain Lean. No program is named here.
-/
import Derived.WalkKit
namespace Go.Proofs.YteamlfcfillbjaaGreat
set_option linter.unusedVariables false
set_option linter.unusedSimpArgs false
set_option maxRecDepth 100000
open Go.RowKit

structure Bill where
  code : Int
  cartons : Int
  pallets : Int
  cost : Int
  gram : Int
  deriving DecidableEq, Inhabited
def Bill.cells (b : Bill) : List Value := [.int .i64 b.code, .int .i64 b.cartons, .int .i64 b.pallets, .int .i64 b.cost, .int .i64 b.gram]
abbrev Bill.val (b : Bill) : Value := .agg #[.int .i64 b.code, .int .i64 b.cartons, .int .i64 b.pallets, .int .i64 b.cost, .int .i64 b.gram]
structure Spot where
  pallet : Int
  x : Int
  y : Int
  z : Int
  deriving DecidableEq, Inhabited
def Spot.cells (b : Spot) : List Value := [.int .i64 b.pallet, .int .i64 b.x, .int .i64 b.y, .int .i64 b.z]
abbrev Spot.val (b : Spot) : Value := .agg #[.int .i64 b.pallet, .int .i64 b.x, .int .i64 b.y, .int .i64 b.z]
structure Pair where
  a : Int
  b : Int
  deriving DecidableEq, Inhabited
def Pair.cells (b : Pair) : List Value := [.int .i64 b.a, .int .i64 b.b]
abbrev Pair.val (b : Pair) : Value := .agg #[.int .i64 b.a, .int .i64 b.b]
structure Pallet where
  w : Int
  d : Int
  h : Int
  gram : Int
  deriving DecidableEq, Inhabited
def Pallet.cells (b : Pallet) : List Value := [.int .i64 b.w, .int .i64 b.d, .int .i64 b.h, .int .i64 b.gram]
abbrev Pallet.val (b : Pallet) : Value := .agg #[.int .i64 b.w, .int .i64 b.d, .int .i64 b.h, .int .i64 b.gram]
structure Item where
  id : Int
  w : Int
  h : Int
  d : Int
  gram : Int
  cls : Int
  count : Int
  deriving DecidableEq, Inhabited
def Item.cells (b : Item) : List Value := [.int .i64 b.id, .int .i64 b.w, .int .i64 b.h, .int .i64 b.d, .int .i64 b.gram, .int .i64 b.cls, .int .i64 b.count]
abbrev Item.val (b : Item) : Value := .agg #[.int .i64 b.id, .int .i64 b.w, .int .i64 b.h, .int .i64 b.d, .int .i64 b.gram, .int .i64 b.cls, .int .i64 b.count]
structure Box where
  w : Int
  d : Int
  h : Int
  gram : Int
  deriving DecidableEq, Inhabited
def Box.cells (b : Box) : List Value := [.int .i64 b.w, .int .i64 b.d, .int .i64 b.h, .int .i64 b.gram]
abbrev Box.val (b : Box) : Value := .agg #[.int .i64 b.w, .int .i64 b.d, .int .i64 b.h, .int .i64 b.gram]
structure GType where
  id : Int
  w : Int
  h : Int
  d : Int
  tare : Int
  gram : Int
  cost : Int
  deriving DecidableEq, Inhabited
def GType.cells (b : GType) : List Value := [.int .i64 b.id, .int .i64 b.w, .int .i64 b.h, .int .i64 b.d, .int .i64 b.tare, .int .i64 b.gram, .int .i64 b.cost]
abbrev GType.val (b : GType) : Value := .agg #[.int .i64 b.id, .int .i64 b.w, .int .i64 b.h, .int .i64 b.d, .int .i64 b.tare, .int .i64 b.gram, .int .i64 b.cost]
structure Carton where
  type : Int
  group : Int
  units : List Int
  deriving DecidableEq, Inhabited
structure Plan where
  cartons : List Carton
  spots : List Spot
  deriving DecidableEq, Inhabited
structure Request where
  way : Int
  pallet : Pallet
  classes : Int
  pairs : List Pair
  types : List GType
  master : Int
  items : List Item
  deriving DecidableEq, Inhabited

def inB (n lo hi : Int) : Bool := decide (lo ≤ n) && decide (n ≤ hi)

/-- the sum of a label, from a text's rest and what there is -/
def lsum : List UInt8 → Int → Int
  | [], n => n
  | c :: l, n => if 48 ≤ (c.toNat : Int) ∧ (c.toNat : Int) ≤ 57 then lsum l ((10 * n + (c.toNat - 48)) % 97) else -1
def labelSum (l : List UInt8) : Int := if l.length = 0 ∨ 40 < l.length then -1 else lsum l 0
theorem lsum_cons (c : UInt8) (l : List UInt8) (n : Int) (h : 48 ≤ (c.toNat : Int) ∧ (c.toNat : Int) ≤ 57) : lsum (c :: l) n = lsum l ((10 * n + (c.toNat - 48)) % 97) := by simp [lsum, h]
theorem lsum_bad (c : UInt8) (l : List UInt8) (n : Int) (h : ¬ (48 ≤ (c.toNat : Int) ∧ (c.toNat : Int) ≤ 57)) : lsum (c :: l) n = -1 := by rw [lsum, if_neg h]

def labelOk (l : List UInt8) : Bool := decide (l.length = 12) && labelSum l == 1
/-- the number that digits tell, behind what there is -/
def figs : List UInt8 → Int → Int
  | [], n => n
  | c :: l, n => figs l (10 * n + (c.toNat - 48))
def digB (c : UInt8) : Bool := decide (48 ≤ (c.toNat : Int) ∧ (c.toNat : Int) ≤ 57)
theorem figs_cons (c : UInt8) (l : List UInt8) (n : Int) : figs (c :: l) n = figs l (10 * n + (c.toNat - 48)) := rfl
theorem lsum_all : ∀ (l : List UInt8) (n : Int), 0 ≤ n → lsum l n ≠ -1 → l.all digB = true
  | [], _, _, _ => rfl
  | c :: l, n, h0, h => by
    unfold lsum at h
    by_cases hc : 48 ≤ (c.toNat : Int) ∧ (c.toNat : Int) ≤ 57
    · rw [if_pos hc] at h
      simp only [List.all_cons, Bool.and_eq_true]
      exact ⟨by unfold digB; simpa using hc, lsum_all l _ (by omega) h⟩
    · rw [if_neg hc] at h
      exact absurd rfl h
theorem labelOk_len {l : List UInt8} (h : labelOk l = true) : l.length = 12 := by unfold labelOk at h; simp at h; exact h.1
theorem labelOk_all {l : List UInt8} (h : labelOk l = true) : l.all digB = true := by
  have hl := labelOk_len h
  unfold labelOk labelSum at h
  rw [if_neg (by omega)] at h
  simp at h
  exact lsum_all l 0 (by omega) (by rw [h.2]; omega)

end Go.Proofs.YteamlfcfillbjaaGreat
