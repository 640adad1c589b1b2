/-
  The plain functions: what the program computes, in plain Lean. No program is named here.
-/
import Derived.WalkKit
namespace Go.Proofs.Ytgljohibcglnbaa
set_option linter.unusedVariables false
set_option linter.unusedSimpArgs false
open Go.RowKit

structure Bill where
  code : Int
  cartons : Int
  pallets : Int
  cost : Int
  gram : Int
  deriving DecidableEq, Inhabited
def Bill.cells (b : Bill) : List Value := [.int .i64 b.code, .int .i64 b.cartons, .int .i64 b.pallets, .int .i64 b.cost, .int .i64 b.gram]
abbrev Bill.val (b : Bill) : Value := .agg #[.int .i64 b.code, .int .i64 b.cartons, .int .i64 b.pallets, .int .i64 b.cost, .int .i64 b.gram]

def inB (n lo hi : Int) : Bool := decide (lo ≤ n) && decide (n ≤ hi)

/-- the sum of a label, from a text's rest and what there is -/
def lsum : List UInt8 → Int → Int
  | [], n => n
  | c :: l, n => if 48 ≤ (c.toNat : Int) ∧ (c.toNat : Int) ≤ 57 then lsum l ((10 * n + (c.toNat - 48)) % 97) else -1
def labelSum (l : List UInt8) : Int := if l.length = 0 ∨ 40 < l.length then -1 else lsum l 0
theorem lsum_cons (c : UInt8) (l : List UInt8) (n : Int) (h : 48 ≤ (c.toNat : Int) ∧ (c.toNat : Int) ≤ 57) : lsum (c :: l) n = lsum l ((10 * n + (c.toNat - 48)) % 97) := by simp [lsum, h]
theorem lsum_bad (c : UInt8) (l : List UInt8) (n : Int) (h : ¬ (48 ≤ (c.toNat : Int) ∧ (c.toNat : Int) ≤ 57)) : lsum (c :: l) n = -1 := by rw [lsum, if_neg h]

def labelOk (l : List UInt8) : Bool := decide (l.length = 12) && labelSum l == 1
/-- the number that digits tell, behind what there is -/
def figs : List UInt8 → Int → Int
  | [], n => n
  | c :: l, n => figs l (10 * n + (c.toNat - 48))
def digB (c : UInt8) : Bool := decide (48 ≤ (c.toNat : Int) ∧ (c.toNat : Int) ≤ 57)
theorem figs_cons (c : UInt8) (l : List UInt8) (n : Int) : figs (c :: l) n = figs l (10 * n + (c.toNat - 48)) := rfl
theorem lsum_all : ∀ (l : List UInt8) (n : Int), 0 ≤ n → lsum l n ≠ -1 → l.all digB = true
  | [], _, _, _ => rfl
  | c :: l, n, h0, h => by
    unfold lsum at h
    by_cases hc : 48 ≤ (c.toNat : Int) ∧ (c.toNat : Int) ≤ 57
    · rw [if_pos hc] at h
      simp only [List.all_cons, Bool.and_eq_true]
      exact ⟨by unfold digB; simpa using hc, lsum_all l _ (by omega) h⟩
    · rw [if_neg hc] at h
      exact absurd rfl h
theorem labelOk_len {l : List UInt8} (h : labelOk l = true) : l.length = 12 := by unfold labelOk at h; simp at h; exact h.1
theorem labelOk_all {l : List UInt8} (h : labelOk l = true) : l.all digB = true := by
  have hl := labelOk_len h
  unfold labelOk labelSum at h
  rw [if_neg (by omega)] at h
  simp at h
  exact lsum_all l 0 (by omega) (by rw [h.2]; omega)

end Go.Proofs.Ytgljohibcglnbaa
