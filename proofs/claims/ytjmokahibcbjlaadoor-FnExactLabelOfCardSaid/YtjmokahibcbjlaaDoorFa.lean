/-
  The walks over the laws' own helpers: sizes, copies, comparisons of flat structs, of ints, of strings. Written by wip/fam.py.
-/
import Derived.Test.YtjmokahibcbjlaaDoorRows
import Derived.Test.YtjmokahibcbjlaaDoorOw
import Derived.Test.YtjmokahibcbjlaaDoorMo
namespace Go.Proofs.YtjmokahibcbjlaaDoor
set_option linter.unusedVariables false
set_option linter.unusedSimpArgs false
open Go.RowKit
def szR (left total : Int) : Int := if left < total then -1 else left - total
theorem szR_ok {a b : Int} (h : 0 ≤ szR a b) : b ≤ a := by unfold szR at h; split at h <;> omega
theorem szR_eq {a b : Int} (h : 0 ≤ szR a b) : szR a b = a - b := by unfold szR at h ⊢; split at h <;> split <;> omega
theorem szR_neg {a b : Int} (h : szR a b < 0) (hb : 0 ≤ b) : a < b := by unfold szR at h; split at h <;> omega
theorem list_eq_of {α : Type} {xs ys : List α} (hl : xs.length = ys.length) {k : Nat} (hk : k = xs.length) (h : ∀ i, i < k → xs[i]? = ys[i]?) : xs = ys := by
  apply List.ext_getElem?
  intro i
  rcases Nat.lt_or_ge i k with hi | hi
  · exact h i hi
  · rw [List.getElem?_eq_none (by omega), List.getElem?_eq_none (by omega)]
theorem list_ne_of {α : Type} {xs ys : List α} {k : Nat} {x y : α} (hx : xs[k]? = some x) (hy : ys[k]? = some y) (h : x ≠ y) : xs ≠ ys := by
  rintro rfl
  rw [hx] at hy
  injection hy with hy
  exact h hy
theorem eq_upto {α : Type} {xs ys : List α} {k : Nat} {x : α} (h : ∀ i, i < k → xs[i]? = ys[i]?) (hx : xs[k]? = some x) (hy : ys[k]? = some x) : ∀ i, i < k + 1 → xs[i]? = ys[i]? := by
  intro i hi
  rcases Nat.lt_or_ge i k with h1 | h1
  · exact h i h1
  · obtain rfl : i = k := by omega
    rw [hx, hy]
theorem info_int : (Tryd.prog.info? 3).map (fun i => (i.zero, i.size, i.bytes)) = some (some (.int .i64 0), 1, 8) := by kernel_rfl

set_option maxHeartbeats 400000 in
theorem szIntS_any (A : Option Addr) (n c : Nat) (left : Int) (w : World) (hn : n ≤ maxLen) (h0 : 0 ≤ left) (h1 : left ≤ 1048576) :
    Calls Tryd.prog 43 #[.slice A n c, .int .i64 left] w fun e w' => e = .returned (.int .i64 (szR left n)) ∧ w = w' := by
  unfold maxLen at hn
  by_cases h : left < n
  · have hr : szR left n = -1 := by unfold szR; rw [if_pos h]
    have HR := Lib.hid hr
    clear hr
    go_enter Tryd.func43, Tryd.ntmps43
    go_wp2
    all_goals go_ret
    all_goals first | exact ⟨ret_int HR.out.symm, rfl⟩ | (exfalso; omega)
  · have hr : szR left n = left - n := by unfold szR; rw [if_neg h]
    have HR := Lib.hid hr
    clear hr
    go_enter Tryd.func43, Tryd.ntmps43
    go_wp2
    all_goals go_ret
    all_goals first | exact ⟨ret_int HR.out.symm, rfl⟩ | (exfalso; omega)
set_option maxHeartbeats 400000 in
theorem toIntS_any (v : Value) (xs : List Int) (w : World) (h : RL 16777216 1 (flat cI) w w.heap.size v xs) :
    Calls Tryd.prog 45 #[v] w fun e w' => ∃ v', e = .returned v' ∧ w'.ownsRow w.heap.size 3 1 v' xs.length (xs.flatMap cI) ∧ Below w.heap.size w w' := by
  obtain ⟨i0, hi, hz0, hz1, hz2⟩ := info_parts info_int
  have h' := h
  obtain ⟨A, c, rfl, hbd, _⟩ := h
  have H := Lib.hid h'
  clear h'
  go_enter Tryd.func45, Tryd.ntmps45
  go_wp2_with (at_make; refine wpList_make_full _ rfl _ _ 47 rfl w.heap.size 3 i0 _ 1 Tryd.underlying47 hi hz0 hz1 _ _ _ _ xs.length rfl rfl rfl rfl (by rw [hz2]; omega) (by unfold maxLen; omega) (by simp) ?_; intro w1 hown hg)
  have hb1 : Below w.heap.size w w1 := (Below.refl _ _).grown hg (Nat.le_refl _) (fun k hk => by cases hk)
  clear hi hz0 hz1 hz2 hg
  go_loopw [4] (fun i wr => ∃ k : Nat, ∃ cs, k ≤ xs.length ∧ i = .int .i64 k ∧ wr.ownsRow w.heap.size 3 1 (.slice (some ⟨w.heap.size, 0, none⟩) xs.length xs.length) xs.length cs ∧ Pre 1 cI xs k cs ∧ Below w.heap.size w wr) (fun i _ => xs.length - (intOf i).toNat)
  case atStart => exact ⟨0, _, Nat.zero_le _, rfl, hown, Pre.zero (by simp [size_madeCells]), hb1⟩
  case round =>
    obtain ⟨k, cs, hk, rfl, hown, hpre, hbl⟩ := hrel
    by_cases hlt : k < xs.length
    · obtain ⟨b, off, x, _, rfl, hb, hx, _, rfl, hc⟩ := (H.out.below (flat_mono _) hbl).at_ k hlt
      have hc0 := hc 0 _ rfl
      have hg0 := hown.lt _ rfl
      clear hc
      simp only [Nat.add_zero, Nat.mul_one] at hc0
      have hf := hown.frozenAt
      obtain ⟨o0, ho0⟩ := own_room0 hown k hlt (by omega)
      simp only [Nat.mul_one] at ho0
      go_wp2
      go_roundw
      case rel => exact ⟨k + 1, _, hlt, by go_num, (hown.stored k _).1, hpre.step1 hx (fun _ => rfl) rfl, hbl.setCell (Nat.le_refl _) _⟩
      case measure => simp [intOf]; omega
    · go_wp2
      go_ret
      obtain rfl : k = xs.length := by omega
      rw [hpre.done (fun _ => rfl)] at hown
      exact ⟨_, rfl, hown, hbl⟩
set_option maxHeartbeats 400000 in
theorem eqIntS_any (v u : Value) (xs ys : List Int) (w : World) (h : RL 16777216 1 (flat cI) w w.heap.size v xs) (h2 : RL 16777216 1 (flat cI) w w.heap.size u ys) :
    Calls Tryd.prog 52 #[v, u] w fun e w' => e = .returned (.bool (decide (xs = ys))) ∧ Below w.heap.size w w' := by
  have h' := h
  obtain ⟨A, c, rfl, hbd, _⟩ := h
  have H := Lib.hid h'
  clear h'
  have h' := h2
  obtain ⟨A2, c2, rfl, hbd2, _⟩ := h2
  have H2 := Lib.hid h'
  clear h'
  by_cases hl : xs.length = ys.length
  · have hl0 : ((xs.length : Int) != (ys.length : Int)) = false := by simp [hl]
    have HL := Lib.hid hl
    clear hl
    go_enter Tryd.func52, Tryd.ntmps52
    go_wp2
    go_loopw [5] (fun i wr => ∃ k : Nat, k ≤ xs.length ∧ i = .int .i64 k ∧ (∀ i, i < k → xs[i]? = ys[i]?) ∧ Below w.heap.size w wr) (fun i _ => xs.length - (intOf i).toNat)
    case atStart => exact ⟨0, Nat.zero_le _, rfl, fun _ h => by omega, Below.refl _ _⟩
    case round =>
      obtain ⟨k, hk, rfl, heq, hbl⟩ := hrel
      have HE := Lib.hid heq
      clear heq
      by_cases hlt : k < xs.length
      · obtain ⟨b, off, x, _, rfl, hb, hx, _, rfl, hc⟩ := (H.out.below (flat_mono _) hbl).at_ k hlt
        obtain ⟨b2, off2, y, _, rfl, hb2, hy, _, rfl, hc2⟩ := (H2.out.below (flat_mono _) hbl).at_ k (HL.out ▸ hlt)
        have hc0 := hc 0 _ rfl
        have hd0 := hc2 0 _ rfl
        simp only [Nat.add_zero, Nat.mul_one] at hc0 hd0
        have hlt2 : k < ys.length := HL.out ▸ hlt
        clear hc hc2
        by_cases hxy : x = y
        · subst hxy
          have hdx : (x != x) = false := by simp
          go_wp2
          go_quiet (fail)
          go_wp2
          go_roundw
          case rel => exact ⟨k + 1, hlt, by go_num, eq_upto HE.out hx hy, below_drewN hbl _⟩
          case measure => simp [intOf]; omega
        · have hne := list_ne_of hx hy hxy
          have HN := Lib.hid hne
          have hdx : (x != y) = true := by simpa using hxy
          clear hne hxy
          go_wp2
          go_quiet (fail)
          go_wp2
          go_ret
          exact ⟨ret_bool (by simp [HN.out]), below_drewN hbl _⟩
      · have heq := list_eq_of HL.out (show k = xs.length by omega) HE.out
        have HN := Lib.hid heq
        clear heq
        go_wp2
        go_ret
        exact ⟨ret_bool (by simp [HN.out]), hbl⟩
  · have hl0 : ((xs.length : Int) != (ys.length : Int)) = true := by rw [bne_iff_ne]; omega
    have hne : xs ≠ ys := fun e => hl (by rw [e])
    have HN := Lib.hid hne
    clear hne hl
    go_enter Tryd.func52, Tryd.ntmps52
    go_wp2
    go_ret
    exact ⟨ret_bool (by simp [HN.out]), Below.refl _ _⟩
set_option maxHeartbeats 400000 in
theorem toBill_any (s : Bill) (w : World) :
    Calls Tryd.prog 6 #[s.val] w fun e w' => e = .returned s.val ∧ Below w.heap.size w w' := by
  go_enter Tryd.func6, Tryd.ntmps6
  go_wp2
  exact bodyPost_ret (v := s.val) (by simp [results, Tryd.results6, go_sem]) rfl ⟨rfl, (by repeat' (first | with_reducible exact Below.refl _ _ | with_reducible assumption | with_reducible refine Below.drew ?_ | with_reducible refine Below.alloc ?_ ?_ _ | with_reducible refine Below.setCell ?_ ?_ _ | with_reducible refine below_drewN ?_ _ | (simp; done) | (simp; omega)))⟩
theorem info_Spot : (Tryd.prog.info? 51).map (fun i => (i.zero, i.size, i.bytes)) = some (some (.agg #[.int .i64 0, .int .i64 0, .int .i64 0, .int .i64 0]), 4, 32) := by kernel_rfl
set_option maxHeartbeats 400000 in
theorem szSpotS_any (A : Option Addr) (n c : Nat) (left : Int) (w : World) (hn : n ≤ maxLen) (h0 : 0 ≤ left) (h1 : left ≤ 1048576) :
    Calls Tryd.prog 18 #[.slice A n c, .int .i64 left] w fun e w' => e = .returned (.int .i64 (szR left n)) ∧ w = w' := by
  unfold maxLen at hn
  by_cases h : left < n
  · have hr : szR left n = -1 := by unfold szR; rw [if_pos h]
    have HR := Lib.hid hr
    clear hr
    go_enter Tryd.func18, Tryd.ntmps18
    go_wp2
    all_goals go_ret
    all_goals first | exact ⟨ret_int HR.out.symm, rfl⟩ | (exfalso; omega)
  · have hr : szR left n = left - n := by unfold szR; rw [if_neg h]
    have HR := Lib.hid hr
    clear hr
    go_enter Tryd.func18, Tryd.ntmps18
    go_wp2
    all_goals go_ret
    all_goals first | exact ⟨ret_int HR.out.symm, rfl⟩ | (exfalso; omega)
set_option maxHeartbeats 400000 in
theorem toSpot_any (s : Spot) (w : World) :
    Calls Tryd.prog 36 #[s.val] w fun e w' => e = .returned s.val ∧ Below w.heap.size w w' := by
  go_enter Tryd.func36, Tryd.ntmps36
  go_wp2
  exact bodyPost_ret (v := s.val) (by simp [results, Tryd.results36, go_sem]) rfl ⟨rfl, (by repeat' (first | with_reducible exact Below.refl _ _ | with_reducible assumption | with_reducible refine Below.drew ?_ | with_reducible refine Below.alloc ?_ ?_ _ | with_reducible refine Below.setCell ?_ ?_ _ | with_reducible refine below_drewN ?_ _ | (simp; done) | (simp; omega)))⟩
set_option maxHeartbeats 400000 in
theorem eqSpot_any (s t : Spot) (w : World) :
    Calls Tryd.prog 41 #[s.val, t.val] w fun e w' => e = .returned (.bool (decide (s = t))) ∧ Below w.heap.size w w' := by
  by_cases h : s = t
  · subst h
    go_enter Tryd.func41, Tryd.ntmps41
    go_wp2
    go_ret
    exact ⟨ret_bool (by simp), (by repeat' (first | with_reducible exact Below.refl _ _ | with_reducible assumption | with_reducible refine Below.drew ?_ | with_reducible refine Below.alloc ?_ ?_ _ | with_reducible refine Below.setCell ?_ ?_ _ | with_reducible refine below_drewN ?_ _ | (simp; done) | (simp; omega)))⟩
  · have hd : decide (s = t) = false := by simp [h]
    have HD := Lib.hid hd
    clear hd
    have H := Lib.hid h
    clear h
    go_enter Tryd.func41, Tryd.ntmps41
    go_wp2
    all_goals go_ret
    all_goals first | exact ⟨ret_bool HD.out.symm, (by repeat' (first | with_reducible exact Below.refl _ _ | with_reducible assumption | with_reducible refine Below.drew ?_ | with_reducible refine Below.alloc ?_ ?_ _ | with_reducible refine Below.setCell ?_ ?_ _ | with_reducible refine below_drewN ?_ _ | (simp; done) | (simp; omega)))⟩ | skip
    exfalso
    apply H.out
    cases s; cases t; simp_all
set_option maxHeartbeats 400000 in
theorem toSpotS_any (v : Value) (xs : List Spot) (w : World) (h : RL 16777216 4 (flat Spot.cells) w w.heap.size v xs) :
    Calls Tryd.prog 24 #[v] w fun e w' => ∃ v', e = .returned v' ∧ w'.ownsRow w.heap.size 51 4 v' xs.length (xs.flatMap Spot.cells) ∧ Below w.heap.size w w' := by
  obtain ⟨i0, hi, hz0, hz1, hz2⟩ := info_parts info_Spot
  have h' := h
  obtain ⟨A, c, rfl, hbd, _⟩ := h
  have H := Lib.hid h'
  clear h'
  go_enter Tryd.func24, Tryd.ntmps24
  go_wp2_with (at_make; refine wpList_make_full _ rfl _ _ 35 rfl w.heap.size 51 i0 _ 4 Tryd.underlying35 hi hz0 hz1 _ _ _ _ xs.length rfl rfl rfl rfl (by rw [hz2]; omega) (by unfold maxLen; omega) (by simp) ?_; intro w1 hown hg)
  have hb1 : Below w.heap.size w w1 := (Below.refl _ _).grown hg (Nat.le_refl _) (fun k hk => by cases hk)
  clear hi hz0 hz1 hz2 hg
  go_loopw [4] (fun i wr => ∃ k : Nat, ∃ cs, k ≤ xs.length ∧ i = .int .i64 k ∧ wr.ownsRow w.heap.size 51 4 (.slice (some ⟨w.heap.size, 0, none⟩) xs.length xs.length) xs.length cs ∧ Pre 4 Spot.cells xs k cs ∧ Below w.heap.size w wr) (fun i _ => xs.length - (intOf i).toNat)
  case atStart => exact ⟨0, _, Nat.zero_le _, rfl, hown, Pre.zero (by simp [size_madeCells]), hb1⟩
  case round =>
    obtain ⟨k, cs, hk, rfl, hown, hpre, hbl⟩ := hrel
    by_cases hlt : k < xs.length
    · obtain ⟨b, off, x, _, rfl, hb, hx, _, rfl, hc⟩ := (H.out.below (flat_mono _) hbl).at_ k hlt
      have hc0 := hc 0 _ rfl
      have hc1 := hc 1 _ rfl
      have hc2 := hc 2 _ rfl
      have hc3 := hc 3 _ rfl
      have hg0 := hown.lt _ rfl
      clear hc
      simp only [Nat.add_zero] at hc0
      go_wp2_with (go_at_call 36; refine (toSpot_any x _).mono ?_; rintro e w2 ⟨rfl, hb2⟩; have hown2 := own_below hown hb2 (fun g hg => (hown.lt g hg).2); clear hown; have hf := hown2.frozenAt; obtain ⟨o0, ho0⟩ := own_room0 hown2 k hlt (by omega); obtain ⟨o1, ho1⟩ := own_room hown2 k 1 hlt (by omega); obtain ⟨o2, ho2⟩ := own_room hown2 k 2 hlt (by omega); obtain ⟨o3, ho3⟩ := own_room hown2 k 3 hlt (by omega))
      go_roundw
      case rel => exact ⟨k + 1, _, hlt, by go_num, storedL x.cells cs w2 (k * 4) hown2, hpre.stepL hx (fun _ => rfl), Below.setW (Nat.le_refl _) x.cells w2 (k * 4) (hbl.trans (hb2.mono (Nat.le_of_lt hg0.2)))⟩
      case measure => simp [intOf]; omega
    · go_wp2
      go_ret
      obtain rfl : k = xs.length := by omega
      rw [hpre.done (fun _ => rfl)] at hown
      exact ⟨_, rfl, hown, hbl⟩
set_option maxHeartbeats 400000 in
theorem eqSpotS_any (v u : Value) (xs ys : List Spot) (w : World) (h : RL 16777216 4 (flat Spot.cells) w w.heap.size v xs) (h2 : RL 16777216 4 (flat Spot.cells) w w.heap.size u ys) :
    Calls Tryd.prog 30 #[v, u] w fun e w' => e = .returned (.bool (decide (xs = ys))) ∧ Below w.heap.size w w' := by
  have h' := h
  obtain ⟨A, c, rfl, hbd, _⟩ := h
  have H := Lib.hid h'
  clear h'
  have h' := h2
  obtain ⟨A2, c2, rfl, hbd2, _⟩ := h2
  have H2 := Lib.hid h'
  clear h'
  by_cases hl : xs.length = ys.length
  · have hl0 : ((xs.length : Int) != (ys.length : Int)) = false := by simp [hl]
    have HL := Lib.hid hl
    clear hl
    go_enter Tryd.func30, Tryd.ntmps30
    go_wp2
    go_loopw [5] (fun i wr => ∃ k : Nat, k ≤ xs.length ∧ i = .int .i64 k ∧ (∀ i, i < k → xs[i]? = ys[i]?) ∧ Below w.heap.size w wr) (fun i _ => xs.length - (intOf i).toNat)
    case atStart => exact ⟨0, Nat.zero_le _, rfl, fun _ h => by omega, Below.refl _ _⟩
    case round =>
      obtain ⟨k, hk, rfl, heq, hbl⟩ := hrel
      have HE := Lib.hid heq
      clear heq
      by_cases hlt : k < xs.length
      · obtain ⟨b, off, x, _, rfl, hb, hx, _, rfl, hc⟩ := (H.out.below (flat_mono _) hbl).at_ k hlt
        obtain ⟨b2, off2, y, _, rfl, hb2, hy, _, rfl, hc2⟩ := (H2.out.below (flat_mono _) hbl).at_ k (HL.out ▸ hlt)
        have hsz := hbl.size
        have hq0 := fun X : Ext wr.heap.size wr => (X.cells (o := off + k * 4) (Nat.lt_of_lt_of_le hb hsz)).trans (hc 0 _ rfl)
        have hq1 := fun X : Ext wr.heap.size wr => (X.cells (o := off + k * 4 + 1) (Nat.lt_of_lt_of_le hb hsz)).trans (hc 1 _ rfl)
        have hq2 := fun X : Ext wr.heap.size wr => (X.cells (o := off + k * 4 + 2) (Nat.lt_of_lt_of_le hb hsz)).trans (hc 2 _ rfl)
        have hq3 := fun X : Ext wr.heap.size wr => (X.cells (o := off + k * 4 + 3) (Nat.lt_of_lt_of_le hb hsz)).trans (hc 3 _ rfl)
        have hp0 := fun X : Ext wr.heap.size wr => (X.cells (o := off2 + k * 4) (Nat.lt_of_lt_of_le hb2 hsz)).trans (hc2 0 _ rfl)
        have hp1 := fun X : Ext wr.heap.size wr => (X.cells (o := off2 + k * 4 + 1) (Nat.lt_of_lt_of_le hb2 hsz)).trans (hc2 1 _ rfl)
        have hp2 := fun X : Ext wr.heap.size wr => (X.cells (o := off2 + k * 4 + 2) (Nat.lt_of_lt_of_le hb2 hsz)).trans (hc2 2 _ rfl)
        have hp3 := fun X : Ext wr.heap.size wr => (X.cells (o := off2 + k * 4 + 3) (Nat.lt_of_lt_of_le hb2 hsz)).trans (hc2 3 _ rfl)
        have hlt2 : k < ys.length := HL.out ▸ hlt
        clear hc hc2
        by_cases hxy : x = y
        · subst hxy
          have hdx : decide (x = x) = true := by simp
          go_wp2
          refine wp_region_ext wr.heap.size (by kernel_rfl) (by kernel_rfl) ?_
          repeat (go_big_quiet_step (exact ext_call (Nat.le_refl _) (eqSpot_any x x _)))
          refine wpQuiet_nil ?_
          intro _ hw'
          obtain ⟨X, rfl⟩ := hw'
          go_wp2
          go_roundw
          case rel => exact ⟨k + 1, hlt, by go_num, eq_upto HE.out hx hy, hbl.trans (X.ok.mono hsz)⟩
          case measure => simp [intOf]; omega
        · have hne := list_ne_of hx hy hxy
          have HN := Lib.hid hne
          have hdx : decide (x = y) = false := by simp [hxy]
          clear hne hxy
          go_wp2
          refine wp_region_ext wr.heap.size (by kernel_rfl) (by kernel_rfl) ?_
          repeat (go_big_quiet_step (exact ext_call (Nat.le_refl _) (eqSpot_any x y _)))
          refine wpQuiet_nil ?_
          intro _ hw'
          obtain ⟨X, rfl⟩ := hw'
          go_wp2
          go_ret
          exact ⟨ret_bool (by simp [HN.out]), hbl.trans (X.ok.mono hsz)⟩
      · have heq := list_eq_of HL.out (show k = xs.length by omega) HE.out
        have HN := Lib.hid heq
        clear heq
        go_wp2
        go_ret
        exact ⟨ret_bool (by simp [HN.out]), hbl⟩
  · have hl0 : ((xs.length : Int) != (ys.length : Int)) = true := by rw [bne_iff_ne]; omega
    have hne : xs ≠ ys := fun e => hl (by rw [e])
    have HN := Lib.hid hne
    clear hne hl
    go_enter Tryd.func30, Tryd.ntmps30
    go_wp2
    go_ret
    exact ⟨ret_bool (by simp [HN.out]), Below.refl _ _⟩
theorem bytes_ext' {a b : ByteArray} (h : a.data.toList = b.data.toList) : a = b := by
  cases a; cases b; congr 1; exact Array.toList_inj.1 h
theorem toList_data : ∀ (a : ByteArray), a.toList = a.data.toList := fun a => Go.ByteArray.toList_eq a
theorem bytes_ext {a b : ByteArray} (h : a.toList = b.toList) : a = b := bytes_ext' (by rw [← toList_data, ← toList_data, h])

end Go.Proofs.YtjmokahibcbjlaaDoor
