/-
  The library's functions on lists of numbers, said of lists of the call's own: sorting, leaving out, comparing.
-/
import Derived.Test.YteamlfcfillbjaaGreatOi
import Derived.Test.YteamlfcfillbjaaGreatShelf
import Derived.Test.YteamlfcfillbjaaGreatCl
import Derived.Sort.OwnSortedInts
namespace Go.Proofs.YteamlfcfillbjaaGreat
set_option linter.unusedVariables false
set_option linter.unusedSimpArgs false
set_option maxRecDepth 100000
open Go.RowKit
theorem flat_cI (xs : List Int) : xs.flatMap cI = xs.map (Value.int .i64) := by
  induction xs with
  | nil => rfl
  | cons x xs ih => rw [List.flatMap_cons, ih]; rfl
theorem own_cut {w : World} {base e K g n cap m : Nat} {xs : List Value} (h : w.ownsRow base e K (.slice (some ⟨g, 0, none⟩) n cap) n xs) (hm : m ≤ n) : w.ownsRow base e K (.slice (some ⟨g, 0, none⟩) m cap) m (xs.take (m * K)) := by
  have hmk : m * K ≤ n * K := Nat.mul_le_mul_right _ hm
  refine ⟨by rw [List.length_take, h.1]; omega, ?_⟩
  rcases h.2 with ⟨h0, _⟩ | ⟨g', cap', cur, hv, h1, h2, h3, h4, h5, h6⟩
  · cases h0
  · injection hv with e1 e2 e3
    injection e1 with e1
    injection e1 with e1 _
    subst e1 e3
    exact .inr ⟨g, cap, cur, rfl, h1, h2, by omega, h4, h5, by rw [← h6, List.take_take, Nat.min_eq_left hmk]⟩
theorem grown_tch {w w' : World} {g : Nat} (h : w.grownBy w' (some g)) : Tch [g] w w' := ⟨h.os, h.tape, h.output, h.size, fun k hk hn => h.block k hk (fun e => hn (by cases e; simp))⟩
theorem setCells_setW (g : Nat) : ∀ (us : List Value) (w : World) (o : Nat), w.setCells g o us = setW w g o us
  | [], _, _ => rfl
  | u :: us, w, o => by unfold World.setCells setW; exact setCells_setW g us _ _
theorem setL_whole : ∀ (us xs : List Value), xs.length = us.length → setL xs 0 us = us := by
  intro us xs h
  apply List.ext_getElem?
  intro i
  rw [setL_get us xs 0 i (by omega)]
  rcases Nat.lt_or_ge i us.length with h1 | h1
  · rw [if_pos (by omega), Nat.sub_zero]
  · rw [if_neg (by omega), List.getElem?_eq_none (by omega), List.getElem?_eq_none (by omega)]
theorem own_ints_shape {w : World} {base : Nat} {v : Value} {xs : List Int} (h : w.ownsRow base 3 1 v xs.length (xs.flatMap cI)) (hn : 0 < xs.length) :
    ∃ g cap cur, v = .slice (some ⟨g, 0, none⟩) xs.length cap ∧ base ≤ g ∧ g < w.heap.size ∧ w.heap[g]? = some (.cells cur 3 (0, 0)) ∧ xs.length ≤ cap ∧ cap ≤ maxLen ∧ cur.size = cap * 1 ∧ cur.toList.take xs.length = xs.map (Value.int .i64) := by
  rcases h.2 with ⟨_, h0⟩ | ⟨g, cap, cur, rfl, h1, h2, h3, h4, h5, h6⟩
  · omega
  · exact ⟨g, cap, cur, rfl, h1, (Array.getElem?_eq_some_iff.1 h2).1, h2, h3, h4, h5, by rw [← flat_cI, ← h6, Nat.mul_one]⟩
theorem sortInt_any (v : Value) (xs : List Int) (fp : List Nat) (base : Nat) (w : World) (h : OInts w base v xs fp) (hb : xs.length ≤ 33554432) :
    Calls Tryz.prog 101 #[v] w fun e w' => e = .returned (.tuple #[]) ∧ OInts w' base v (sortI xs) fp ∧ Tch fp w w' := by
  obtain ⟨h, rfl⟩ := h
  rcases Nat.eq_zero_or_pos xs.length with h0 | h0
  · obtain rfl : xs = [] := List.eq_nil_of_length_eq_zero h0
    obtain ⟨A, c, rfl⟩ := own_form h
    refine (Tryz.slices_Sort_int_none A c w).mono fun e w' ⟨h1, h2⟩ => ⟨h1, ?_, ?_⟩
    · rw [h2, show sortI [] = [] by simp [sortI]]; exact ⟨h, rfl⟩
    · rw [h2]; exact Tch.refl _ _
  · obtain ⟨g, cap, cur, rfl, h1, h2, h3, h4, h5, h6, h7⟩ := own_ints_shape h h0
    refine (Tryz.slices_Sort_int g 0 cap xs w (holds_of_blockI h3 h7) h2 (by omega)).mono fun e w' ⟨e1, n, os, e2⟩ => ⟨e1, ⟨?_, ?_⟩, ?_⟩
    · have := ownsRow_sortedI (n := n) (os := os) (ts := xs.mergeSort fun x y => decide (x ≤ y)) (List.length_mergeSort xs) h1 h3 h4 h5 h6
      rw [e2, sortI_length, flat_cI]
      exact this
    · rfl
    · rw [e2]
      exact (grown_tch (grownBy_sortedI _)).sub (fun k hk => by simpa [Value.ownBlock] using hk)
end Go.Proofs.YteamlfcfillbjaaGreat
