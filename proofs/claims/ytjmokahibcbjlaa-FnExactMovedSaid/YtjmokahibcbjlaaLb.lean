/-
  The library's functions on lists of numbers, said of lists of the call's own: sorting, leaving out, comparing.
-/
import Derived.Test.YtjmokahibcbjlaaOi
import Derived.Test.YtjmokahibcbjlaaShelf
import Derived.Test.YtjmokahibcbjlaaCl
import Derived.Sort.OwnSortedInts
namespace Go.Proofs.Ytjmokahibcbjlaa
set_option linter.unusedVariables false
set_option linter.unusedSimpArgs false
open Go.RowKit
theorem flat_cI (xs : List Int) : xs.flatMap cI = xs.map (Value.int .i64) := by
  induction xs with
  | nil => rfl
  | cons x xs ih => rw [List.flatMap_cons, ih]; rfl
theorem own_cut {w : World} {base e K g n cap m : Nat} {xs : List Value} (h : w.ownsRow base e K (.slice (some ⟨g, 0, none⟩) n cap) n xs) (hm : m ≤ n) : w.ownsRow base e K (.slice (some ⟨g, 0, none⟩) m cap) m (xs.take (m * K)) := by
  have hmk : m * K ≤ n * K := Nat.mul_le_mul_right _ hm
  refine ⟨by rw [List.length_take, h.1]; omega, ?_⟩
  rcases h.2 with ⟨h0, _⟩ | ⟨g', cap', cur, hv, h1, h2, h3, h4, h5, h6⟩
  · cases h0
  · injection hv with e1 e2 e3
    injection e1 with e1
    injection e1 with e1 _
    subst e1 e3
    exact .inr ⟨g, cap, cur, rfl, h1, h2, by omega, h4, h5, by rw [← h6, List.take_take, Nat.min_eq_left hmk]⟩
theorem grown_tch {w w' : World} {g : Nat} (h : w.grownBy w' (some g)) : Tch [g] w w' := ⟨h.os, h.tape, h.output, h.size, fun k hk hn => h.block k hk (fun e => hn (by cases e; simp))⟩
theorem setCells_setW (g : Nat) : ∀ (us : List Value) (w : World) (o : Nat), w.setCells g o us = setW w g o us
  | [], _, _ => rfl
  | u :: us, w, o => by unfold World.setCells setW; exact setCells_setW g us _ _
theorem setL_whole : ∀ (us xs : List Value), xs.length = us.length → setL xs 0 us = us := by
  intro us xs h
  apply List.ext_getElem?
  intro i
  rw [setL_get us xs 0 i (by omega)]
  rcases Nat.lt_or_ge i us.length with h1 | h1
  · rw [if_pos (by omega), Nat.sub_zero]
  · rw [if_neg (by omega), List.getElem?_eq_none (by omega), List.getElem?_eq_none (by omega)]
theorem own_ints_shape {w : World} {base : Nat} {v : Value} {xs : List Int} (h : w.ownsRow base 3 1 v xs.length (xs.flatMap cI)) (hn : 0 < xs.length) :
    ∃ g cap cur, v = .slice (some ⟨g, 0, none⟩) xs.length cap ∧ base ≤ g ∧ g < w.heap.size ∧ w.heap[g]? = some (.cells cur 3 (0, 0)) ∧ xs.length ≤ cap ∧ cap ≤ maxLen ∧ cur.size = cap * 1 ∧ cur.toList.take xs.length = xs.map (Value.int .i64) := by
  rcases h.2 with ⟨_, h0⟩ | ⟨g, cap, cur, rfl, h1, h2, h3, h4, h5, h6⟩
  · omega
  · exact ⟨g, cap, cur, rfl, h1, (Array.getElem?_eq_some_iff.1 h2).1, h2, h3, h4, h5, by rw [← flat_cI, ← h6, Nat.mul_one]⟩
theorem sortInt_any (v : Value) (xs : List Int) (fp : List Nat) (base : Nat) (w : World) (h : OInts w base v xs fp) (hb : xs.length ≤ 33554432) :
    Calls Try.prog 42 #[v] w fun e w' => e = .returned (.tuple #[]) ∧ OInts w' base v (sortI xs) fp ∧ Tch fp w w' := by
  obtain ⟨h, rfl⟩ := h
  rcases Nat.eq_zero_or_pos xs.length with h0 | h0
  · obtain rfl : xs = [] := List.eq_nil_of_length_eq_zero h0
    obtain ⟨A, c, rfl⟩ := own_form h
    refine (Try.slices_Sort_int_none A c w).mono fun e w' ⟨h1, h2⟩ => ⟨h1, ?_, ?_⟩
    · rw [h2, show sortI [] = [] by simp [sortI]]; exact ⟨h, rfl⟩
    · rw [h2]; exact Tch.refl _ _
  · obtain ⟨g, cap, cur, rfl, h1, h2, h3, h4, h5, h6, h7⟩ := own_ints_shape h h0
    refine (Try.slices_Sort_int g 0 cap xs w (holds_of_blockI h3 h7) h2 (by omega)).mono fun e w' ⟨e1, n, os, e2⟩ => ⟨e1, ⟨?_, ?_⟩, ?_⟩
    · have := ownsRow_sortedI (n := n) (os := os) (ts := xs.mergeSort fun x y => decide (x ≤ y)) (List.length_mergeSort xs) h1 h3 h4 h5 h6
      rw [e2, sortI_length, flat_cI]
      exact this
    · rfl
    · rw [e2]
      exact (grown_tch (grownBy_sortedI _)).sub (fun k hk => by simpa [Value.ownBlock] using hk)
theorem compactInt_any (v : Value) (xs : List Int) (fp : List Nat) (base : Nat) (w : World) (h : OInts w base v xs fp) (hb : xs.length ≤ 33554432) :
    Calls Try.prog 68 #[v] w fun e w' => ∃ v', e = .returned v' ∧ OInts w' base v' (Lib.compact xs) fp ∧ Tch fp w w' := by
  obtain ⟨h, rfl⟩ := h
  rcases Nat.eq_zero_or_pos xs.length with h0 | h0
  · obtain rfl : xs = [] := List.eq_nil_of_length_eq_zero h0
    obtain ⟨A, c, rfl⟩ := own_form h
    refine (Try.slices_Compact_int_empty A c w).mono fun e w' ⟨h1, h2⟩ => ⟨_, h1, ?_, ?_⟩
    · rw [h2, show Lib.compact ([] : List Int) = [] from rfl]; exact ⟨h, rfl⟩
    · rw [h2]; exact Tch.refl _ _
  · obtain ⟨g, cap, cur, rfl, h1, h2, h3, h4, h5, h6, h7⟩ := own_ints_shape h h0
    have hH := holds_of_blockI h3 h7
    have hle : (Lib.compact xs).length ≤ xs.length := by unfold Lib.compact Lib.compactUpTo; rw [List.length_map]; exact Nat.le_trans (List.length_filter_le _ _) (by simp)
    refine (Try.slices_Compact_int_cells g 0 xs.length cap xs w (Nat.le_refl _) (by omega) h4 (fun j hj => ?_) (fun j hj => (hH j (by simpa using hj)).2)).mono fun e w' ⟨e1, q, e2⟩ => ?_
    · have := (hH j (by simpa using hj)).1
      simpa [List.getD, hj] using this
    · rw [List.take_length] at e1 e2
      refine ⟨_, e1, ⟨?_, rfl⟩, ?_⟩
      · have hst := storedL ((Lib.compact xs ++ List.replicate (xs.length - (Lib.compact xs).length) 0).map (Value.int .i64)) _ (w.drewN q) 0 (own_block (w' := w.drewN q) h (fun _ _ => rfl))
        rw [setL_whole _ _ (by rw [flat_cI]; simp; omega), ← setCells_setW, ← e2] at hst
        have hc := own_cut hst hle
        rw [Nat.mul_one, List.map_append, List.take_left' (by simp), ← flat_cI] at hc
        exact hc
      · rw [e2, setCells_setW]
        exact Tch.setW (by simp [Value.ownBlock]) _ _ _ ⟨rfl, rfl, rfl, Nat.le_refl _, fun _ _ _ => rfl⟩
theorem cloneInts_any (v : Value) (xs : List Int) (w : World) (h : RInts 16777216 w w.heap.size v xs) : Calls Try.prog 40 #[v] w (MInts w xs) :=
  (cloneInt_any v xs w h).mono fun e w' ⟨v', h1, h2, h3⟩ => by subst h1; exact MInts.row h2 (Nat.le_refl _) h3
theorem equalInt_any (v u : Value) (xs ys : List Int) (w : World) (h : RInts 16777216 w w.heap.size v xs) (h2 : RInts 16777216 w w.heap.size u ys) :
    Calls Try.prog 47 #[v, u] w fun e w' => e = .returned (.bool (decide (xs = ys))) ∧ Below w.heap.size w w' := by
  by_cases hl : xs.length = ys.length
  · rcases Nat.eq_zero_or_pos xs.length with h0 | h0
    · obtain ⟨A, c, rfl, _, _⟩ := h
      obtain ⟨A2, c2, rfl, _, _⟩ := h2
      have e1 : xs = [] := List.eq_nil_of_length_eq_zero h0
      have e2 : ys = [] := List.eq_nil_of_length_eq_zero (by omega)
      subst e1 e2
      exact (Try.slices_Equal_int_empty A A2 c 0 c2 w (by omega)).mono fun e w' ⟨h1, h2⟩ => ⟨by rw [h1]; rfl, by rw [h2]; exact Below.refl _ _⟩
    · obtain ⟨b, off, c, rfl, hc, hlx⟩ : ∃ b off c, v = .slice (some ⟨b, off, none⟩) xs.length c ∧ (∀ j, j < xs.length → w.cell? ⟨b, off + j, none⟩ = some (.int .i64 (xs.getD j 0))) ∧ xs.length ≤ 16777216 := by
        obtain ⟨A, c, rfl, hb, hA⟩ := h
        obtain ⟨b, off, rfl, _, hcs⟩ := hA h0
        refine ⟨b, off, c, rfl, fun j hj => ?_, hb.1⟩
        obtain ⟨cs, _, rfl, h3⟩ := hcs j _ (List.getElem?_eq_getElem hj)
        have := h3 0 _ rfl
        simpa [List.getD, hj] using this
      obtain ⟨b2, off2, c2, rfl, hc2⟩ : ∃ b off c, u = .slice (some ⟨b, off, none⟩) ys.length c ∧ (∀ j, j < ys.length → w.cell? ⟨b, off + j, none⟩ = some (.int .i64 (ys.getD j 0))) := by
        obtain ⟨A, c, rfl, hb, hA⟩ := h2
        obtain ⟨b, off, rfl, _, hcs⟩ := hA (by omega)
        refine ⟨b, off, c, rfl, fun j hj => ?_⟩
        obtain ⟨cs, _, rfl, h3⟩ := hcs j _ (List.getElem?_eq_getElem hj)
        have := h3 0 _ rfl
        simpa [List.getD, hj] using this
      refine (Try.slices_Equal_int b off xs.length c b2 off2 ys.length c2 xs ys w (Nat.le_refl _) (Nat.le_refl _) (by omega) (by omega) hc hc2).mono fun e w' ⟨h1, q, h2⟩ => ⟨?_, by rw [h2]; exact below_drewN (Below.refl _ _) q⟩
      rw [h1, List.take_length, List.take_length, ret_bool]
      rw [Bool.eq_iff_iff]; simp
  · obtain ⟨A, c, rfl, _, _⟩ := h
    obtain ⟨A2, c2, rfl, _, _⟩ := h2
    refine (Try.slices_Equal_int_lens A A2 xs.length c ys.length c2 w hl).mono fun e w' ⟨h1, h2⟩ => ⟨?_, by rw [h2]; exact Below.refl _ _⟩
    rw [h1, ret_bool]
    simp
    exact fun e => hl (by rw [e])
end Go.Proofs.Ytjmokahibcbjlaa
