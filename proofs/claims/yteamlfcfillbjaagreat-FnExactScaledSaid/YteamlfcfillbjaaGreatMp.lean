/-
  The plain functions on plans (chapters 13, 23, 26). No program is named here.
-/
import Derived.Test.YteamlfcfillbjaaGreatMo
namespace Go.Proofs.YteamlfcfillbjaaGreat
set_option linter.unusedVariables false
set_option linter.unusedSimpArgs false
set_option maxRecDepth 100000
open Go.RowKit
/-- the unit at place i is out of bounds, or not above the one ahead -/
def uBad (xs : List Int) (i : Nat) : Bool := !inB (xs.getD i 0) 0 999 || (decide (0 < i) && decide (xs.getD i 0 ≤ xs.getD (i - 1) 0))
def unitsOk (xs : List Int) : Bool := decide (xs.length ≤ 100) && (List.range xs.length).all fun i => !uBad xs i
def cartonOk (c : Carton) : Bool := inB c.type 0 999 && inB c.group 0 3 && unitsOk c.units
def spotOk (s : Spot) : Bool := inB s.pallet 0 2000 && inB s.x 0 2000 && inB s.y 0 2000 && inB s.z 0 2000
def planOk (p : Plan) : Bool := decide (p.spots.length = p.cartons.length) && decide (p.cartons.length ≤ 100) && (List.range p.cartons.length).all fun i => cartonOk (p.cartons.getD i default) && spotOk (p.spots.getD i default)
theorem range_all_false {n k : Nat} {f : Nat → Bool} (hk : k < n) (h : f k = false) : (List.range n).all f = false := by
  rw [List.all_eq_false]
  exact ⟨k, List.mem_range.2 hk, by simp [h]⟩
theorem range_all_true {n : Nat} {f : Nat → Bool} (h : ∀ i, i < n → f i = true) : (List.range n).all f = true := by
  rw [List.all_eq_true]
  exact fun i hi => h i (List.mem_range.1 hi)
theorem below_step {k : Nat} {f : Nat → Bool} (h : ∀ i, i < k → f i = true) (hk : f k = true) : ∀ i, i < k + 1 → f i = true := by
  intro i hi
  rcases Nat.lt_or_ge i k with h1 | h1
  · exact h i h1
  · obtain rfl : i = k := by omega
    exact hk
theorem getD_some {α : Type} {xs : List α} {k : Nat} {x d : α} (h : xs[k]? = some x) : xs.getD k d = x := by simp [List.getD, h]
def Spot.scaled (n : Int) (s : Spot) : Spot := ⟨s.pallet, wrap64 (n * s.x), wrap64 (n * s.y), wrap64 (n * s.z)⟩
def planTimes (p : Plan) (n : Int) : Plan := ⟨p.cartons, p.spots.map (Spot.scaled n)⟩
def planScaled (p : Plan) (n : Int) : Plan := if (planOk p && inB n 1 100) = true then (if planOk (planTimes p n) = true then planTimes p n else p) else p
end Go.Proofs.YteamlfcfillbjaaGreat
