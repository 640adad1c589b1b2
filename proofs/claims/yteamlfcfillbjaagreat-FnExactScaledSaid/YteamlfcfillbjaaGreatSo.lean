/-
  Sorting, in plain Lean: a merge sort by halves, stable sorting of places by keys, the uniqueness of what is sorted. No program is named here.
-/
import Derived.WalkKit
namespace Go.Proofs.YteamlfcfillbjaaGreat
set_option linter.unusedVariables false
set_option linter.unusedSimpArgs false
set_option maxRecDepth 100000
/-- numbers, ascending -/
def sortI (xs : List Int) : List Int := xs.mergeSort fun x y => decide (x ≤ y)
theorem sortI_perm (xs : List Int) : (sortI xs).Perm xs := List.mergeSort_perm _ _
theorem sortI_length (xs : List Int) : (sortI xs).length = xs.length := List.length_mergeSort _
theorem sortI_sorted (xs : List Int) : (sortI xs).Pairwise (· ≤ ·) := by
  have := List.pairwise_mergeSort (le := fun x y : Int => decide (x ≤ y)) (fun a b c h1 h2 => by simp at *; omega) (fun a b => by simp; omega) xs
  exact this.imp (by simp)
theorem eq_of_sorted {xs ys : List Int} (hp : xs.Perm ys) (h1 : xs.Pairwise (· ≤ ·)) (h2 : ys.Pairwise (· ≤ ·)) : xs = ys :=
  List.Perm.eq_of_pairwise (le := fun x y : Int => x ≤ y) (fun _ _ _ _ h h' => Int.le_antisymm h h') h1 h2 hp
theorem sortI_of {xs ys : List Int} (hp : ys.Perm xs) (h : ys.Pairwise (· ≤ ·)) : sortI xs = ys :=
  eq_of_sorted ((sortI_perm xs).trans hp.symm) (sortI_sorted xs) h
theorem sortI_filter (p : Int → Bool) (xs : List Int) : sortI (xs.filter p) = (sortI xs).filter p :=
  sortI_of ((sortI_perm xs).filter p) ((sortI_sorted xs).filter p)
theorem sortI_mem {xs : List Int} {x : Int} : x ∈ sortI xs ↔ x ∈ xs := (sortI_perm xs).mem_iff

/-- A merge sort by halves, the first one the smaller. -/
def mSort {α : Type} (le : α → α → Bool) (xs : List α) : List α :=
  if h : xs.length < 2 then xs else List.merge (mSort le (xs.take (xs.length / 2))) (mSort le (xs.drop (xs.length / 2))) le
termination_by xs.length
decreasing_by
  · rw [List.length_take]; omega
  · rw [List.length_drop]; omega
theorem mSort_lt {α : Type} {le : α → α → Bool} {xs : List α} (h : xs.length < 2) : mSort le xs = xs := by rw [mSort, dif_pos h]
theorem mSort_ge {α : Type} {le : α → α → Bool} {xs : List α} (h : ¬ xs.length < 2) : mSort le xs = List.merge (mSort le (xs.take (xs.length / 2))) (mSort le (xs.drop (xs.length / 2))) le := by rw [mSort, dif_neg h]
theorem mSort_perm {α : Type} (le : α → α → Bool) : ∀ (n : Nat) (xs : List α), xs.length ≤ n → (mSort le xs).Perm xs
  | 0, xs, h => by rw [mSort_lt (by omega)]
  | n + 1, xs, h => by
    by_cases h2 : xs.length < 2
    · rw [mSort_lt h2]
    · rw [mSort_ge h2]
      refine List.Perm.trans (List.merge_perm_append (le := le)) ?_
      have h3 := (mSort_perm le n (xs.take (xs.length / 2)) (by rw [List.length_take]; omega)).append (mSort_perm le n (xs.drop (xs.length / 2)) (by rw [List.length_drop]; omega))
      rwa [List.take_append_drop] at h3
theorem mSort_length {α : Type} (le : α → α → Bool) (xs : List α) : (mSort le xs).length = xs.length := (mSort_perm le _ xs (Nat.le_refl _)).length_eq
theorem mSort_mem {α : Type} {le : α → α → Bool} {xs : List α} {x : α} : x ∈ mSort le xs ↔ x ∈ xs := (mSort_perm le _ xs (Nat.le_refl _)).mem_iff
theorem mSort_sorted {α : Type} {le : α → α → Bool} (ht : ∀ a b c : α, le a b = true → le b c = true → le a c = true) (hto : ∀ a b : α, (le a b || le b a) = true) : ∀ (n : Nat) (xs : List α), xs.length ≤ n → (mSort le xs).Pairwise (fun a b => le a b = true)
  | 0, xs, h => by
    obtain rfl : xs = [] := List.eq_nil_of_length_eq_zero (by omega)
    rw [mSort_lt (by simp)]; exact List.Pairwise.nil
  | n + 1, xs, h => by
    by_cases h2 : xs.length < 2
    · rw [mSort_lt h2]
      match xs, h2 with
      | [], _ => exact List.Pairwise.nil
      | [x], _ => simp
    · rw [mSort_ge h2]
      exact List.pairwise_merge ht hto _ _ (mSort_sorted ht hto n _ (by rw [List.length_take]; omega)) (mSort_sorted ht hto n _ (by rw [List.length_drop]; omega))
/-- where the ties go to the left and all of the left stand ahead, the order may be made finer -/
theorem merge_finer {α : Type} {le le' : α → α → Bool} : ∀ (xs ys : List α), (∀ x ∈ xs, ∀ y ∈ ys, le x y = le' x y) → List.merge xs ys le = List.merge xs ys le'
  | [], ys, _ => by simp
  | x :: xs, [], _ => by simp
  | x :: xs, y :: ys, h => by
    rw [List.cons_merge_cons, List.cons_merge_cons, h x (by simp) y (by simp), merge_finer xs (y :: ys) (fun a ha b hb => h a (by simp [ha]) b hb), merge_finer (x :: xs) ys (fun a ha b hb => h a ha b (by simp [hb]))]
theorem mSort_finer {α : Type} {le le' : α → α → Bool} : ∀ (n : Nat) (xs : List α), xs.length ≤ n → (xs.Pairwise fun a b => le a b = le' a b) → mSort le xs = mSort le' xs
  | 0, xs, h, _ => by rw [mSort_lt (by omega), mSort_lt (by omega)]
  | n + 1, xs, h, hp => by
    by_cases h2 : xs.length < 2
    · rw [mSort_lt h2, mSort_lt h2]
    · have hp2 := hp
      rw [← List.take_append_drop (xs.length / 2) xs, List.pairwise_append] at hp2
      rw [mSort_ge h2, mSort_ge h2, mSort_finer n _ (by rw [List.length_take]; omega) hp2.1, mSort_finer n _ (by rw [List.length_drop]; omega) hp2.2.1]
      refine merge_finer _ _ (fun x hx y hy => hp2.2.2 x (mSort_mem.1 hx) y (mSort_mem.1 hy))

/-- the key at a place -/
def keyAt (keys : List Int) (i : Nat) : Int := keys.getD i 0
def leUp (keys : List Int) (i j : Nat) : Bool := !decide (keyAt keys j < keyAt keys i)
def leDown (keys : List Int) (i j : Nat) : Bool := !decide (keyAt keys i < keyAt keys j)
/-- places of keys: ascending; of equal keys the lesser place ahead -/
def argUp (keys : List Int) : List Nat := mSort (leUp keys) (List.range keys.length)
def argDown (keys : List Int) : List Nat := mSort (leDown keys) (List.range keys.length)
/-- ascending by key, then by place -/
def lexUp (keys : List Int) (i j : Nat) : Bool := decide (keyAt keys i < keyAt keys j ∨ keyAt keys i = keyAt keys j ∧ i ≤ j)
def lexDown (keys : List Int) (i j : Nat) : Bool := decide (keyAt keys j < keyAt keys i ∨ keyAt keys i = keyAt keys j ∧ i ≤ j)
theorem argUp_lex (keys : List Int) : argUp keys = mSort (lexUp keys) (List.range keys.length) := by
  refine mSort_finer _ _ (Nat.le_refl _) ?_
  refine (List.pairwise_lt_range (n := keys.length)).imp (fun {a b} h => ?_)
  unfold leUp lexUp
  rw [Bool.eq_iff_iff]
  simp
  omega
theorem argDown_lex (keys : List Int) : argDown keys = mSort (lexDown keys) (List.range keys.length) := by
  refine mSort_finer _ _ (Nat.le_refl _) ?_
  refine (List.pairwise_lt_range (n := keys.length)).imp (fun {a b} h => ?_)
  unfold leDown lexDown
  rw [Bool.eq_iff_iff]
  simp
  omega
theorem argUp_perm (keys : List Int) : (argUp keys).Perm (List.range keys.length) := mSort_perm _ _ _ (Nat.le_refl _)
theorem argDown_perm (keys : List Int) : (argDown keys).Perm (List.range keys.length) := mSort_perm _ _ _ (Nat.le_refl _)
theorem argUp_length (keys : List Int) : (argUp keys).length = keys.length := by rw [(argUp_perm keys).length_eq, List.length_range]
theorem argDown_length (keys : List Int) : (argDown keys).length = keys.length := by rw [(argDown_perm keys).length_eq, List.length_range]
theorem argUp_mem {keys : List Int} {i : Nat} : i ∈ argUp keys ↔ i < keys.length := by rw [(argUp_perm keys).mem_iff, List.mem_range]
theorem argDown_mem {keys : List Int} {i : Nat} : i ∈ argDown keys ↔ i < keys.length := by rw [(argDown_perm keys).mem_iff, List.mem_range]
theorem argUp_sorted (keys : List Int) : (argUp keys).Pairwise (fun i j => lexUp keys i j = true) := by
  rw [argUp_lex]
  exact mSort_sorted (fun a b c h1 h2 => by unfold lexUp at *; simp at *; omega) (fun a b => by unfold lexUp; simp; omega) _ _ (Nat.le_refl _)
theorem argDown_sorted (keys : List Int) : (argDown keys).Pairwise (fun i j => lexDown keys i j = true) := by
  rw [argDown_lex]
  exact mSort_sorted (fun a b c h1 h2 => by unfold lexDown at *; simp at *; omega) (fun a b => by unfold lexDown; simp; omega) _ _ (Nat.le_refl _)
theorem argUp_unique {keys : List Int} {ps : List Nat} (hp : ps.Perm (List.range keys.length)) (hs : ps.Pairwise (fun i j => lexUp keys i j = true)) : ps = argUp keys :=
  List.Perm.eq_of_pairwise (le := fun i j => lexUp keys i j = true) (fun a b _ _ h h' => by unfold lexUp at *; simp at *; omega) hs (argUp_sorted keys) (hp.trans (argUp_perm keys).symm)
theorem argDown_unique {keys : List Int} {ps : List Nat} (hp : ps.Perm (List.range keys.length)) (hs : ps.Pairwise (fun i j => lexDown keys i j = true)) : ps = argDown keys :=
  List.Perm.eq_of_pairwise (le := fun i j => lexDown keys i j = true) (fun a b _ _ h h' => by unfold lexDown at *; simp at *; omega) hs (argDown_sorted keys) (hp.trans (argDown_perm keys).symm)
/-- the keys in the order of their places, ascending, are the sorted keys -/
theorem argUp_keys (keys : List Int) : (argUp keys).map (keyAt keys) = sortI keys := by
  refine (sortI_of ?_ ?_).symm
  · have := (argUp_perm keys).map (keyAt keys)
    refine this.trans ?_
    have h : (List.range keys.length).map (keyAt keys) = keys := by
      apply List.ext_getElem
      · simp
      · intro i h1 h2
        simp [keyAt, h2]
    rw [h]
  · rw [List.pairwise_map]
    exact (argUp_sorted keys).imp (fun {a b} h => by unfold lexUp at h; simp at h; omega)
end Go.Proofs.YteamlfcfillbjaaGreat
