/-
  The walks over Count (chapter 24) and over the sizes of lists of texts.
-/
import Derived.Test.YteamlfcfillbjaaGreatFa
namespace Go.Proofs.YteamlfcfillbjaaGreat
set_option linter.unusedVariables false
set_option linter.unusedSimpArgs false
set_option maxRecDepth 100000
open Go.RowKit
def tot {α : Type} (f : α → Nat) (xs : List α) : Nat := (xs.map f).sum
theorem tot_take {α : Type} (f : α → Nat) {xs : List α} {k : Nat} {x : α} (h : xs[k]? = some x) : tot f (xs.take (k + 1)) = tot f (xs.take k) + f x := by
  unfold tot
  rw [List.take_add_one, h]
  simp
theorem tot_append {α : Type} (f : α → Nat) (xs ys : List α) : tot f (xs ++ ys) = tot f xs + tot f ys := by unfold tot; simp
theorem tot_le {α : Type} (f : α → Nat) (xs : List α) (k : Nat) : tot f (xs.take k) ≤ tot f xs := by
  have : tot f xs = tot f (xs.take k) + tot f (xs.drop k) := by rw [← tot_append, List.take_append_drop]
  omega
theorem tot_all {α : Type} (f : α → Nat) {xs : List α} {k : Nat} (h : xs.length ≤ k) : tot f (xs.take k) = tot f xs := by rw [List.take_of_length_le h]
theorem tot_ge {α : Type} (f : α → Nat) {xs : List α} {k : Nat} {x : α} (h : xs[k]? = some x) : tot f (xs.take k) + f x ≤ tot f xs := by
  rw [← tot_take f h]; exact tot_le f xs (k + 1)
theorem tot_mono {α : Type} {f g : α → Nat} (h : ∀ x, f x ≤ g x) : ∀ xs : List α, tot f xs ≤ tot g xs
  | [] => Nat.le_refl _
  | x :: xs => by have := tot_mono h xs; have := h x; simp only [tot, List.map_cons, List.sum_cons] at *; omega
def cntB (n : Int) (s : ByteArray) : Nat := (s.data.toList.filter fun c => (c.toNat : Int) == n).length
def cntL (n : Int) (l : List UInt8) : Nat := (l.filter fun c => (c.toNat : Int) == n).length
theorem cntL_take (n : Int) (s : ByteArray) (k : Nat) (hk : k < s.size) : cntL n (s.data.toList.take (k + 1)) = cntL n (s.data.toList.take k) + if (((s[k].toNat : Nat) : Int) == n) = true then 1 else 0 := by
  have : s.data.toList[k]? = some s[k] := by rw [List.getElem?_eq_getElem (by simpa using hk)]; rfl
  unfold cntL
  rw [List.take_add_one, this, List.filter_append]
  by_cases h : (((s[k].toNat : Nat) : Int) == n) = true <;> simp [List.filter_cons, h]
theorem cntL_le (n : Int) (l : List UInt8) : cntL n l ≤ l.length := List.length_filter_le _ _
theorem cntB_le (n : Int) (s : ByteArray) : cntB n s ≤ s.size := by have := cntL_le n s.data.toList; rw [Array.length_toList] at this; exact this
theorem cntL_all (n : Int) (s : ByteArray) {k : Nat} (h : s.size ≤ k) : cntL n (s.data.toList.take k) = cntB n s := by unfold cntB cntL; rw [List.take_of_length_le (by simpa using h)]
end Go.Proofs.YteamlfcfillbjaaGreat
