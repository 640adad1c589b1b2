/-
  The walks over the laws' own helpers: sizes, copies, comparisons of flat structs, of ints, of strings. Written by wip/fam.py.
-/
import Derived.Test.YteamlfcfillbjaaGreatRows
import Derived.Test.YteamlfcfillbjaaGreatOw
import Derived.Test.YteamlfcfillbjaaGreatMo
namespace Go.Proofs.YteamlfcfillbjaaGreat
set_option linter.unusedVariables false
set_option linter.unusedSimpArgs false
set_option maxRecDepth 100000
open Go.RowKit
def szR (left total : Int) : Int := if left < total then -1 else left - total
theorem szR_ok {a b : Int} (h : 0 ≤ szR a b) : b ≤ a := by unfold szR at h; split at h <;> omega
theorem szR_eq {a b : Int} (h : 0 ≤ szR a b) : szR a b = a - b := by unfold szR at h ⊢; split at h <;> split <;> omega
theorem szR_neg {a b : Int} (h : szR a b < 0) (hb : 0 ≤ b) : a < b := by unfold szR at h; split at h <;> omega
theorem list_eq_of {α : Type} {xs ys : List α} (hl : xs.length = ys.length) {k : Nat} (hk : k = xs.length) (h : ∀ i, i < k → xs[i]? = ys[i]?) : xs = ys := by
  apply List.ext_getElem?
  intro i
  rcases Nat.lt_or_ge i k with hi | hi
  · exact h i hi
  · rw [List.getElem?_eq_none (by omega), List.getElem?_eq_none (by omega)]
theorem list_ne_of {α : Type} {xs ys : List α} {k : Nat} {x y : α} (hx : xs[k]? = some x) (hy : ys[k]? = some y) (h : x ≠ y) : xs ≠ ys := by
  rintro rfl
  rw [hx] at hy
  injection hy with hy
  exact h hy
theorem eq_upto {α : Type} {xs ys : List α} {k : Nat} {x : α} (h : ∀ i, i < k → xs[i]? = ys[i]?) (hx : xs[k]? = some x) (hy : ys[k]? = some x) : ∀ i, i < k + 1 → xs[i]? = ys[i]? := by
  intro i hi
  rcases Nat.lt_or_ge i k with h1 | h1
  · exact h i h1
  · obtain rfl : i = k := by omega
    rw [hx, hy]
theorem info_int : (Tryz.prog.info? 3).map (fun i => (i.zero, i.size, i.bytes)) = some (some (.int .i64 0), 1, 8) := by kernel_rfl

theorem info_Pair : (Tryz.prog.info? 81).map (fun i => (i.zero, i.size, i.bytes)) = some (some (.agg #[.int .i64 0, .int .i64 0]), 2, 16) := by kernel_rfl
set_option maxHeartbeats 400000 in
theorem szPairS_any (A : Option Addr) (n c : Nat) (left : Int) (w : World) (hn : n ≤ maxLen) (h0 : 0 ≤ left) (h1 : left ≤ 1048576) :
    Calls Tryz.prog 21 #[.slice A n c, .int .i64 left] w fun e w' => e = .returned (.int .i64 (szR left n)) ∧ w = w' := by
  unfold maxLen at hn
  by_cases h : left < n
  · have hr : szR left n = -1 := by unfold szR; rw [if_pos h]
    have HR := Lib.hid hr
    clear hr
    go_enter Tryz.func21, Tryz.ntmps21
    go_wp2
    all_goals go_ret
    all_goals first | exact ⟨ret_int HR.out.symm, rfl⟩ | (exfalso; omega)
  · have hr : szR left n = left - n := by unfold szR; rw [if_neg h]
    have HR := Lib.hid hr
    clear hr
    go_enter Tryz.func21, Tryz.ntmps21
    go_wp2
    all_goals go_ret
    all_goals first | exact ⟨ret_int HR.out.symm, rfl⟩ | (exfalso; omega)
set_option maxHeartbeats 400000 in
theorem toPair_any (s : Pair) (w : World) :
    Calls Tryz.prog 57 #[s.val] w fun e w' => e = .returned s.val ∧ Below w.heap.size w w' := by
  go_enter Tryz.func57, Tryz.ntmps57
  go_wp2
  exact bodyPost_ret (v := s.val) (by simp [results, Tryz.results57, go_sem]) rfl ⟨rfl, (by repeat' (first | with_reducible exact Below.refl _ _ | with_reducible assumption | with_reducible refine Below.drew ?_ | with_reducible refine Below.alloc ?_ ?_ _ | with_reducible refine Below.setCell ?_ ?_ _ | with_reducible refine below_drewN ?_ _ | (simp; done) | (simp; omega)))⟩
set_option maxHeartbeats 400000 in
theorem eqPair_any (s t : Pair) (w : World) :
    Calls Tryz.prog 63 #[s.val, t.val] w fun e w' => e = .returned (.bool (decide (s = t))) ∧ Below w.heap.size w w' := by
  by_cases h : s = t
  · subst h
    go_enter Tryz.func63, Tryz.ntmps63
    go_wp2
    go_ret
    exact ⟨ret_bool (by simp), (by repeat' (first | with_reducible exact Below.refl _ _ | with_reducible assumption | with_reducible refine Below.drew ?_ | with_reducible refine Below.alloc ?_ ?_ _ | with_reducible refine Below.setCell ?_ ?_ _ | with_reducible refine below_drewN ?_ _ | (simp; done) | (simp; omega)))⟩
  · have hd : decide (s = t) = false := by simp [h]
    have HD := Lib.hid hd
    clear hd
    have H := Lib.hid h
    clear h
    go_enter Tryz.func63, Tryz.ntmps63
    go_wp2
    all_goals go_ret
    all_goals first | exact ⟨ret_bool HD.out.symm, (by repeat' (first | with_reducible exact Below.refl _ _ | with_reducible assumption | with_reducible refine Below.drew ?_ | with_reducible refine Below.alloc ?_ ?_ _ | with_reducible refine Below.setCell ?_ ?_ _ | with_reducible refine below_drewN ?_ _ | (simp; done) | (simp; omega)))⟩ | skip
    exfalso
    apply H.out
    cases s; cases t; simp_all
set_option maxHeartbeats 400000 in
theorem toPairS_any (v : Value) (xs : List Pair) (w : World) (h : RL 16777216 2 (flat Pair.cells) w w.heap.size v xs) :
    Calls Tryz.prog 27 #[v] w fun e w' => ∃ v', e = .returned v' ∧ w'.ownsRow w.heap.size 81 2 v' xs.length (xs.flatMap Pair.cells) ∧ Below w.heap.size w w' := by
  obtain ⟨i0, hi, hz0, hz1, hz2⟩ := info_parts info_Pair
  have h' := h
  obtain ⟨A, c, rfl, hbd, _⟩ := h
  have H := Lib.hid h'
  clear h'
  go_enter Tryz.func27, Tryz.ntmps27
  go_wp2_with (at_make; refine wpList_make_full _ rfl _ _ 33 rfl w.heap.size 81 i0 _ 2 Tryz.underlying33 hi hz0 hz1 _ _ _ _ xs.length rfl rfl rfl rfl (by rw [hz2]; omega) (by unfold maxLen; omega) (by simp) ?_; intro w1 hown hg)
  have hb1 : Below w.heap.size w w1 := (Below.refl _ _).grown hg (Nat.le_refl _) (fun k hk => by cases hk)
  clear hi hz0 hz1 hz2 hg
  go_loopw [4] (fun i wr => ∃ k : Nat, ∃ cs, k ≤ xs.length ∧ i = .int .i64 k ∧ wr.ownsRow w.heap.size 81 2 (.slice (some ⟨w.heap.size, 0, none⟩) xs.length xs.length) xs.length cs ∧ Pre 2 Pair.cells xs k cs ∧ Below w.heap.size w wr) (fun i _ => xs.length - (intOf i).toNat)
  case atStart => exact ⟨0, _, Nat.zero_le _, rfl, hown, Pre.zero (by simp [size_madeCells]), hb1⟩
  case round =>
    obtain ⟨k, cs, hk, rfl, hown, hpre, hbl⟩ := hrel
    by_cases hlt : k < xs.length
    · obtain ⟨b, off, x, _, rfl, hb, hx, _, rfl, hc⟩ := (H.out.below (flat_mono _) hbl).at_ k hlt
      have hc0 := hc 0 _ rfl
      have hc1 := hc 1 _ rfl
      have hg0 := hown.lt _ rfl
      clear hc
      simp only [Nat.add_zero] at hc0
      go_wp2_with (go_at_call 57; refine (toPair_any x _).mono ?_; rintro e w2 ⟨rfl, hb2⟩; have hown2 := own_below hown hb2 (fun g hg => (hown.lt g hg).2); clear hown; have hf := hown2.frozenAt; obtain ⟨o0, ho0⟩ := own_room0 hown2 k hlt (by omega); obtain ⟨o1, ho1⟩ := own_room hown2 k 1 hlt (by omega))
      go_roundw
      case rel => exact ⟨k + 1, _, hlt, by go_num, storedL x.cells cs w2 (k * 2) hown2, hpre.stepL hx (fun _ => rfl), Below.setW (Nat.le_refl _) x.cells w2 (k * 2) (hbl.trans (hb2.mono (Nat.le_of_lt hg0.2)))⟩
      case measure => simp [intOf]; omega
    · go_wp2
      go_ret
      obtain rfl : k = xs.length := by omega
      rw [hpre.done (fun _ => rfl)] at hown
      exact ⟨_, rfl, hown, hbl⟩
set_option maxHeartbeats 400000 in
theorem eqPairS_any (v u : Value) (xs ys : List Pair) (w : World) (h : RL 16777216 2 (flat Pair.cells) w w.heap.size v xs) (h2 : RL 16777216 2 (flat Pair.cells) w w.heap.size u ys) :
    Calls Tryz.prog 33 #[v, u] w fun e w' => e = .returned (.bool (decide (xs = ys))) ∧ Below w.heap.size w w' := by
  have h' := h
  obtain ⟨A, c, rfl, hbd, _⟩ := h
  have H := Lib.hid h'
  clear h'
  have h' := h2
  obtain ⟨A2, c2, rfl, hbd2, _⟩ := h2
  have H2 := Lib.hid h'
  clear h'
  by_cases hl : xs.length = ys.length
  · have hl0 : ((xs.length : Int) != (ys.length : Int)) = false := by simp [hl]
    have HL := Lib.hid hl
    clear hl
    go_enter Tryz.func33, Tryz.ntmps33
    go_wp2
    go_loopw [5] (fun i wr => ∃ k : Nat, k ≤ xs.length ∧ i = .int .i64 k ∧ (∀ i, i < k → xs[i]? = ys[i]?) ∧ Below w.heap.size w wr) (fun i _ => xs.length - (intOf i).toNat)
    case atStart => exact ⟨0, Nat.zero_le _, rfl, fun _ h => by omega, Below.refl _ _⟩
    case round =>
      obtain ⟨k, hk, rfl, heq, hbl⟩ := hrel
      have HE := Lib.hid heq
      clear heq
      by_cases hlt : k < xs.length
      · obtain ⟨b, off, x, _, rfl, hb, hx, _, rfl, hc⟩ := (H.out.below (flat_mono _) hbl).at_ k hlt
        obtain ⟨b2, off2, y, _, rfl, hb2, hy, _, rfl, hc2⟩ := (H2.out.below (flat_mono _) hbl).at_ k (HL.out ▸ hlt)
        have hsz := hbl.size
        have hq0 := fun X : Ext wr.heap.size wr => (X.cells (o := off + k * 2) (Nat.lt_of_lt_of_le hb hsz)).trans (hc 0 _ rfl)
        have hq1 := fun X : Ext wr.heap.size wr => (X.cells (o := off + k * 2 + 1) (Nat.lt_of_lt_of_le hb hsz)).trans (hc 1 _ rfl)
        have hp0 := fun X : Ext wr.heap.size wr => (X.cells (o := off2 + k * 2) (Nat.lt_of_lt_of_le hb2 hsz)).trans (hc2 0 _ rfl)
        have hp1 := fun X : Ext wr.heap.size wr => (X.cells (o := off2 + k * 2 + 1) (Nat.lt_of_lt_of_le hb2 hsz)).trans (hc2 1 _ rfl)
        have hlt2 : k < ys.length := HL.out ▸ hlt
        clear hc hc2
        by_cases hxy : x = y
        · subst hxy
          have hdx : decide (x = x) = true := by simp
          go_wp2
          refine wp_region_ext wr.heap.size (by kernel_rfl) (by kernel_rfl) ?_
          repeat (go_big_quiet_step (exact ext_call (Nat.le_refl _) (eqPair_any x x _)))
          refine wpQuiet_nil ?_
          intro _ hw'
          obtain ⟨X, rfl⟩ := hw'
          go_wp2
          go_roundw
          case rel => exact ⟨k + 1, hlt, by go_num, eq_upto HE.out hx hy, hbl.trans (X.ok.mono hsz)⟩
          case measure => simp [intOf]; omega
        · have hne := list_ne_of hx hy hxy
          have HN := Lib.hid hne
          have hdx : decide (x = y) = false := by simp [hxy]
          clear hne hxy
          go_wp2
          refine wp_region_ext wr.heap.size (by kernel_rfl) (by kernel_rfl) ?_
          repeat (go_big_quiet_step (exact ext_call (Nat.le_refl _) (eqPair_any x y _)))
          refine wpQuiet_nil ?_
          intro _ hw'
          obtain ⟨X, rfl⟩ := hw'
          go_wp2
          go_ret
          exact ⟨ret_bool (by simp [HN.out]), hbl.trans (X.ok.mono hsz)⟩
      · have heq := list_eq_of HL.out (show k = xs.length by omega) HE.out
        have HN := Lib.hid heq
        clear heq
        go_wp2
        go_ret
        exact ⟨ret_bool (by simp [HN.out]), hbl⟩
  · have hl0 : ((xs.length : Int) != (ys.length : Int)) = true := by rw [bne_iff_ne]; omega
    have hne : xs ≠ ys := fun e => hl (by rw [e])
    have HN := Lib.hid hne
    clear hne hl
    go_enter Tryz.func33, Tryz.ntmps33
    go_wp2
    go_ret
    exact ⟨ret_bool (by simp [HN.out]), Below.refl _ _⟩
theorem info_Type : (Tryz.prog.info? 67).map (fun i => (i.zero, i.size, i.bytes)) = some (some (.agg #[.int .i64 0, .int .i64 0, .int .i64 0, .int .i64 0, .int .i64 0, .int .i64 0, .int .i64 0]), 7, 56) := by kernel_rfl
set_option maxHeartbeats 400000 in
theorem szTypeS_any (A : Option Addr) (n c : Nat) (left : Int) (w : World) (hn : n ≤ maxLen) (h0 : 0 ≤ left) (h1 : left ≤ 1048576) :
    Calls Tryz.prog 22 #[.slice A n c, .int .i64 left] w fun e w' => e = .returned (.int .i64 (szR left n)) ∧ w = w' := by
  unfold maxLen at hn
  by_cases h : left < n
  · have hr : szR left n = -1 := by unfold szR; rw [if_pos h]
    have HR := Lib.hid hr
    clear hr
    go_enter Tryz.func22, Tryz.ntmps22
    go_wp2
    all_goals go_ret
    all_goals first | exact ⟨ret_int HR.out.symm, rfl⟩ | (exfalso; omega)
  · have hr : szR left n = left - n := by unfold szR; rw [if_neg h]
    have HR := Lib.hid hr
    clear hr
    go_enter Tryz.func22, Tryz.ntmps22
    go_wp2
    all_goals go_ret
    all_goals first | exact ⟨ret_int HR.out.symm, rfl⟩ | (exfalso; omega)
set_option maxHeartbeats 400000 in
theorem toType_any (s : GType) (w : World) :
    Calls Tryz.prog 58 #[s.val] w fun e w' => e = .returned s.val ∧ Below w.heap.size w w' := by
  go_enter Tryz.func58, Tryz.ntmps58
  go_wp2
  exact bodyPost_ret (v := s.val) (by simp [results, Tryz.results58, go_sem]) rfl ⟨rfl, (by repeat' (first | with_reducible exact Below.refl _ _ | with_reducible assumption | with_reducible refine Below.drew ?_ | with_reducible refine Below.alloc ?_ ?_ _ | with_reducible refine Below.setCell ?_ ?_ _ | with_reducible refine below_drewN ?_ _ | (simp; done) | (simp; omega)))⟩
set_option maxHeartbeats 400000 in
theorem eqType_any (s t : GType) (w : World) :
    Calls Tryz.prog 64 #[s.val, t.val] w fun e w' => e = .returned (.bool (decide (s = t))) ∧ Below w.heap.size w w' := by
  by_cases h : s = t
  · subst h
    go_enter Tryz.func64, Tryz.ntmps64
    go_wp2
    go_ret
    exact ⟨ret_bool (by simp), (by repeat' (first | with_reducible exact Below.refl _ _ | with_reducible assumption | with_reducible refine Below.drew ?_ | with_reducible refine Below.alloc ?_ ?_ _ | with_reducible refine Below.setCell ?_ ?_ _ | with_reducible refine below_drewN ?_ _ | (simp; done) | (simp; omega)))⟩
  · have hd : decide (s = t) = false := by simp [h]
    have HD := Lib.hid hd
    clear hd
    have H := Lib.hid h
    clear h
    go_enter Tryz.func64, Tryz.ntmps64
    go_wp2
    all_goals go_ret
    all_goals first | exact ⟨ret_bool HD.out.symm, (by repeat' (first | with_reducible exact Below.refl _ _ | with_reducible assumption | with_reducible refine Below.drew ?_ | with_reducible refine Below.alloc ?_ ?_ _ | with_reducible refine Below.setCell ?_ ?_ _ | with_reducible refine below_drewN ?_ _ | (simp; done) | (simp; omega)))⟩ | skip
    exfalso
    apply H.out
    cases s; cases t; simp_all
set_option maxHeartbeats 400000 in
theorem toTypeS_any (v : Value) (xs : List GType) (w : World) (h : RL 16777216 7 (flat GType.cells) w w.heap.size v xs) :
    Calls Tryz.prog 28 #[v] w fun e w' => ∃ v', e = .returned v' ∧ w'.ownsRow w.heap.size 67 7 v' xs.length (xs.flatMap GType.cells) ∧ Below w.heap.size w w' := by
  obtain ⟨i0, hi, hz0, hz1, hz2⟩ := info_parts info_Type
  have h' := h
  obtain ⟨A, c, rfl, hbd, _⟩ := h
  have H := Lib.hid h'
  clear h'
  go_enter Tryz.func28, Tryz.ntmps28
  go_wp2_with (at_make; refine wpList_make_full _ rfl _ _ 34 rfl w.heap.size 67 i0 _ 7 Tryz.underlying34 hi hz0 hz1 _ _ _ _ xs.length rfl rfl rfl rfl (by rw [hz2]; omega) (by unfold maxLen; omega) (by simp) ?_; intro w1 hown hg)
  have hb1 : Below w.heap.size w w1 := (Below.refl _ _).grown hg (Nat.le_refl _) (fun k hk => by cases hk)
  clear hi hz0 hz1 hz2 hg
  go_loopw [4] (fun i wr => ∃ k : Nat, ∃ cs, k ≤ xs.length ∧ i = .int .i64 k ∧ wr.ownsRow w.heap.size 67 7 (.slice (some ⟨w.heap.size, 0, none⟩) xs.length xs.length) xs.length cs ∧ Pre 7 GType.cells xs k cs ∧ Below w.heap.size w wr) (fun i _ => xs.length - (intOf i).toNat)
  case atStart => exact ⟨0, _, Nat.zero_le _, rfl, hown, Pre.zero (by simp [size_madeCells]), hb1⟩
  case round =>
    obtain ⟨k, cs, hk, rfl, hown, hpre, hbl⟩ := hrel
    by_cases hlt : k < xs.length
    · obtain ⟨b, off, x, _, rfl, hb, hx, _, rfl, hc⟩ := (H.out.below (flat_mono _) hbl).at_ k hlt
      have hc0 := hc 0 _ rfl
      have hc1 := hc 1 _ rfl
      have hc2 := hc 2 _ rfl
      have hc3 := hc 3 _ rfl
      have hc4 := hc 4 _ rfl
      have hc5 := hc 5 _ rfl
      have hc6 := hc 6 _ rfl
      have hg0 := hown.lt _ rfl
      clear hc
      simp only [Nat.add_zero] at hc0
      go_wp2_with (go_at_call 58; refine (toType_any x _).mono ?_; rintro e w2 ⟨rfl, hb2⟩; have hown2 := own_below hown hb2 (fun g hg => (hown.lt g hg).2); clear hown; have hf := hown2.frozenAt; obtain ⟨o0, ho0⟩ := own_room0 hown2 k hlt (by omega); obtain ⟨o1, ho1⟩ := own_room hown2 k 1 hlt (by omega); obtain ⟨o2, ho2⟩ := own_room hown2 k 2 hlt (by omega); obtain ⟨o3, ho3⟩ := own_room hown2 k 3 hlt (by omega); obtain ⟨o4, ho4⟩ := own_room hown2 k 4 hlt (by omega); obtain ⟨o5, ho5⟩ := own_room hown2 k 5 hlt (by omega); obtain ⟨o6, ho6⟩ := own_room hown2 k 6 hlt (by omega))
      go_roundw
      case rel => exact ⟨k + 1, _, hlt, by go_num, storedL x.cells cs w2 (k * 7) hown2, hpre.stepL hx (fun _ => rfl), Below.setW (Nat.le_refl _) x.cells w2 (k * 7) (hbl.trans (hb2.mono (Nat.le_of_lt hg0.2)))⟩
      case measure => simp [intOf]; omega
    · go_wp2
      go_ret
      obtain rfl : k = xs.length := by omega
      rw [hpre.done (fun _ => rfl)] at hown
      exact ⟨_, rfl, hown, hbl⟩
set_option maxHeartbeats 400000 in
theorem eqTypeS_any (v u : Value) (xs ys : List GType) (w : World) (h : RL 16777216 7 (flat GType.cells) w w.heap.size v xs) (h2 : RL 16777216 7 (flat GType.cells) w w.heap.size u ys) :
    Calls Tryz.prog 34 #[v, u] w fun e w' => e = .returned (.bool (decide (xs = ys))) ∧ Below w.heap.size w w' := by
  have h' := h
  obtain ⟨A, c, rfl, hbd, _⟩ := h
  have H := Lib.hid h'
  clear h'
  have h' := h2
  obtain ⟨A2, c2, rfl, hbd2, _⟩ := h2
  have H2 := Lib.hid h'
  clear h'
  by_cases hl : xs.length = ys.length
  · have hl0 : ((xs.length : Int) != (ys.length : Int)) = false := by simp [hl]
    have HL := Lib.hid hl
    clear hl
    go_enter Tryz.func34, Tryz.ntmps34
    go_wp2
    go_loopw [5] (fun i wr => ∃ k : Nat, k ≤ xs.length ∧ i = .int .i64 k ∧ (∀ i, i < k → xs[i]? = ys[i]?) ∧ Below w.heap.size w wr) (fun i _ => xs.length - (intOf i).toNat)
    case atStart => exact ⟨0, Nat.zero_le _, rfl, fun _ h => by omega, Below.refl _ _⟩
    case round =>
      obtain ⟨k, hk, rfl, heq, hbl⟩ := hrel
      have HE := Lib.hid heq
      clear heq
      by_cases hlt : k < xs.length
      · obtain ⟨b, off, x, _, rfl, hb, hx, _, rfl, hc⟩ := (H.out.below (flat_mono _) hbl).at_ k hlt
        obtain ⟨b2, off2, y, _, rfl, hb2, hy, _, rfl, hc2⟩ := (H2.out.below (flat_mono _) hbl).at_ k (HL.out ▸ hlt)
        have hsz := hbl.size
        have hq0 := fun X : Ext wr.heap.size wr => (X.cells (o := off + k * 7) (Nat.lt_of_lt_of_le hb hsz)).trans (hc 0 _ rfl)
        have hq1 := fun X : Ext wr.heap.size wr => (X.cells (o := off + k * 7 + 1) (Nat.lt_of_lt_of_le hb hsz)).trans (hc 1 _ rfl)
        have hq2 := fun X : Ext wr.heap.size wr => (X.cells (o := off + k * 7 + 2) (Nat.lt_of_lt_of_le hb hsz)).trans (hc 2 _ rfl)
        have hq3 := fun X : Ext wr.heap.size wr => (X.cells (o := off + k * 7 + 3) (Nat.lt_of_lt_of_le hb hsz)).trans (hc 3 _ rfl)
        have hq4 := fun X : Ext wr.heap.size wr => (X.cells (o := off + k * 7 + 4) (Nat.lt_of_lt_of_le hb hsz)).trans (hc 4 _ rfl)
        have hq5 := fun X : Ext wr.heap.size wr => (X.cells (o := off + k * 7 + 5) (Nat.lt_of_lt_of_le hb hsz)).trans (hc 5 _ rfl)
        have hq6 := fun X : Ext wr.heap.size wr => (X.cells (o := off + k * 7 + 6) (Nat.lt_of_lt_of_le hb hsz)).trans (hc 6 _ rfl)
        have hp0 := fun X : Ext wr.heap.size wr => (X.cells (o := off2 + k * 7) (Nat.lt_of_lt_of_le hb2 hsz)).trans (hc2 0 _ rfl)
        have hp1 := fun X : Ext wr.heap.size wr => (X.cells (o := off2 + k * 7 + 1) (Nat.lt_of_lt_of_le hb2 hsz)).trans (hc2 1 _ rfl)
        have hp2 := fun X : Ext wr.heap.size wr => (X.cells (o := off2 + k * 7 + 2) (Nat.lt_of_lt_of_le hb2 hsz)).trans (hc2 2 _ rfl)
        have hp3 := fun X : Ext wr.heap.size wr => (X.cells (o := off2 + k * 7 + 3) (Nat.lt_of_lt_of_le hb2 hsz)).trans (hc2 3 _ rfl)
        have hp4 := fun X : Ext wr.heap.size wr => (X.cells (o := off2 + k * 7 + 4) (Nat.lt_of_lt_of_le hb2 hsz)).trans (hc2 4 _ rfl)
        have hp5 := fun X : Ext wr.heap.size wr => (X.cells (o := off2 + k * 7 + 5) (Nat.lt_of_lt_of_le hb2 hsz)).trans (hc2 5 _ rfl)
        have hp6 := fun X : Ext wr.heap.size wr => (X.cells (o := off2 + k * 7 + 6) (Nat.lt_of_lt_of_le hb2 hsz)).trans (hc2 6 _ rfl)
        have hlt2 : k < ys.length := HL.out ▸ hlt
        clear hc hc2
        by_cases hxy : x = y
        · subst hxy
          have hdx : decide (x = x) = true := by simp
          go_wp2
          refine wp_region_ext wr.heap.size (by kernel_rfl) (by kernel_rfl) ?_
          repeat (go_big_quiet_step (exact ext_call (Nat.le_refl _) (eqType_any x x _)))
          refine wpQuiet_nil ?_
          intro _ hw'
          obtain ⟨X, rfl⟩ := hw'
          go_wp2
          go_roundw
          case rel => exact ⟨k + 1, hlt, by go_num, eq_upto HE.out hx hy, hbl.trans (X.ok.mono hsz)⟩
          case measure => simp [intOf]; omega
        · have hne := list_ne_of hx hy hxy
          have HN := Lib.hid hne
          have hdx : decide (x = y) = false := by simp [hxy]
          clear hne hxy
          go_wp2
          refine wp_region_ext wr.heap.size (by kernel_rfl) (by kernel_rfl) ?_
          repeat (go_big_quiet_step (exact ext_call (Nat.le_refl _) (eqType_any x y _)))
          refine wpQuiet_nil ?_
          intro _ hw'
          obtain ⟨X, rfl⟩ := hw'
          go_wp2
          go_ret
          exact ⟨ret_bool (by simp [HN.out]), hbl.trans (X.ok.mono hsz)⟩
      · have heq := list_eq_of HL.out (show k = xs.length by omega) HE.out
        have HN := Lib.hid heq
        clear heq
        go_wp2
        go_ret
        exact ⟨ret_bool (by simp [HN.out]), hbl⟩
  · have hl0 : ((xs.length : Int) != (ys.length : Int)) = true := by rw [bne_iff_ne]; omega
    have hne : xs ≠ ys := fun e => hl (by rw [e])
    have HN := Lib.hid hne
    clear hne hl
    go_enter Tryz.func34, Tryz.ntmps34
    go_wp2
    go_ret
    exact ⟨ret_bool (by simp [HN.out]), Below.refl _ _⟩
theorem info_Item : (Tryz.prog.info? 41).map (fun i => (i.zero, i.size, i.bytes)) = some (some (.agg #[.int .i64 0, .int .i64 0, .int .i64 0, .int .i64 0, .int .i64 0, .int .i64 0, .int .i64 0]), 7, 56) := by kernel_rfl
set_option maxHeartbeats 400000 in
theorem szItemS_any (A : Option Addr) (n c : Nat) (left : Int) (w : World) (hn : n ≤ maxLen) (h0 : 0 ≤ left) (h1 : left ≤ 1048576) :
    Calls Tryz.prog 23 #[.slice A n c, .int .i64 left] w fun e w' => e = .returned (.int .i64 (szR left n)) ∧ w = w' := by
  unfold maxLen at hn
  by_cases h : left < n
  · have hr : szR left n = -1 := by unfold szR; rw [if_pos h]
    have HR := Lib.hid hr
    clear hr
    go_enter Tryz.func23, Tryz.ntmps23
    go_wp2
    all_goals go_ret
    all_goals first | exact ⟨ret_int HR.out.symm, rfl⟩ | (exfalso; omega)
  · have hr : szR left n = left - n := by unfold szR; rw [if_neg h]
    have HR := Lib.hid hr
    clear hr
    go_enter Tryz.func23, Tryz.ntmps23
    go_wp2
    all_goals go_ret
    all_goals first | exact ⟨ret_int HR.out.symm, rfl⟩ | (exfalso; omega)
set_option maxHeartbeats 400000 in
theorem toItem_any (s : Item) (w : World) :
    Calls Tryz.prog 10 #[s.val] w fun e w' => e = .returned s.val ∧ Below w.heap.size w w' := by
  go_enter Tryz.func10, Tryz.ntmps10
  go_wp2
  exact bodyPost_ret (v := s.val) (by simp [results, Tryz.results10, go_sem]) rfl ⟨rfl, (by repeat' (first | with_reducible exact Below.refl _ _ | with_reducible assumption | with_reducible refine Below.drew ?_ | with_reducible refine Below.alloc ?_ ?_ _ | with_reducible refine Below.setCell ?_ ?_ _ | with_reducible refine below_drewN ?_ _ | (simp; done) | (simp; omega)))⟩
set_option maxHeartbeats 400000 in
theorem eqItem_any (s t : Item) (w : World) :
    Calls Tryz.prog 65 #[s.val, t.val] w fun e w' => e = .returned (.bool (decide (s = t))) ∧ Below w.heap.size w w' := by
  by_cases h : s = t
  · subst h
    go_enter Tryz.func65, Tryz.ntmps65
    go_wp2
    go_ret
    exact ⟨ret_bool (by simp), (by repeat' (first | with_reducible exact Below.refl _ _ | with_reducible assumption | with_reducible refine Below.drew ?_ | with_reducible refine Below.alloc ?_ ?_ _ | with_reducible refine Below.setCell ?_ ?_ _ | with_reducible refine below_drewN ?_ _ | (simp; done) | (simp; omega)))⟩
  · have hd : decide (s = t) = false := by simp [h]
    have HD := Lib.hid hd
    clear hd
    have H := Lib.hid h
    clear h
    go_enter Tryz.func65, Tryz.ntmps65
    go_wp2
    all_goals go_ret
    all_goals first | exact ⟨ret_bool HD.out.symm, (by repeat' (first | with_reducible exact Below.refl _ _ | with_reducible assumption | with_reducible refine Below.drew ?_ | with_reducible refine Below.alloc ?_ ?_ _ | with_reducible refine Below.setCell ?_ ?_ _ | with_reducible refine below_drewN ?_ _ | (simp; done) | (simp; omega)))⟩ | skip
    exfalso
    apply H.out
    cases s; cases t; simp_all
set_option maxHeartbeats 400000 in
theorem toItemS_any (v : Value) (xs : List Item) (w : World) (h : RL 16777216 7 (flat Item.cells) w w.heap.size v xs) :
    Calls Tryz.prog 29 #[v] w fun e w' => ∃ v', e = .returned v' ∧ w'.ownsRow w.heap.size 41 7 v' xs.length (xs.flatMap Item.cells) ∧ Below w.heap.size w w' := by
  obtain ⟨i0, hi, hz0, hz1, hz2⟩ := info_parts info_Item
  have h' := h
  obtain ⟨A, c, rfl, hbd, _⟩ := h
  have H := Lib.hid h'
  clear h'
  go_enter Tryz.func29, Tryz.ntmps29
  go_wp2_with (at_make; refine wpList_make_full _ rfl _ _ 35 rfl w.heap.size 41 i0 _ 7 Tryz.underlying35 hi hz0 hz1 _ _ _ _ xs.length rfl rfl rfl rfl (by rw [hz2]; omega) (by unfold maxLen; omega) (by simp) ?_; intro w1 hown hg)
  have hb1 : Below w.heap.size w w1 := (Below.refl _ _).grown hg (Nat.le_refl _) (fun k hk => by cases hk)
  clear hi hz0 hz1 hz2 hg
  go_loopw [4] (fun i wr => ∃ k : Nat, ∃ cs, k ≤ xs.length ∧ i = .int .i64 k ∧ wr.ownsRow w.heap.size 41 7 (.slice (some ⟨w.heap.size, 0, none⟩) xs.length xs.length) xs.length cs ∧ Pre 7 Item.cells xs k cs ∧ Below w.heap.size w wr) (fun i _ => xs.length - (intOf i).toNat)
  case atStart => exact ⟨0, _, Nat.zero_le _, rfl, hown, Pre.zero (by simp [size_madeCells]), hb1⟩
  case round =>
    obtain ⟨k, cs, hk, rfl, hown, hpre, hbl⟩ := hrel
    by_cases hlt : k < xs.length
    · obtain ⟨b, off, x, _, rfl, hb, hx, _, rfl, hc⟩ := (H.out.below (flat_mono _) hbl).at_ k hlt
      have hc0 := hc 0 _ rfl
      have hc1 := hc 1 _ rfl
      have hc2 := hc 2 _ rfl
      have hc3 := hc 3 _ rfl
      have hc4 := hc 4 _ rfl
      have hc5 := hc 5 _ rfl
      have hc6 := hc 6 _ rfl
      have hg0 := hown.lt _ rfl
      clear hc
      simp only [Nat.add_zero] at hc0
      go_wp2_with (go_at_call 10; refine (toItem_any x _).mono ?_; rintro e w2 ⟨rfl, hb2⟩; have hown2 := own_below hown hb2 (fun g hg => (hown.lt g hg).2); clear hown; have hf := hown2.frozenAt; obtain ⟨o0, ho0⟩ := own_room0 hown2 k hlt (by omega); obtain ⟨o1, ho1⟩ := own_room hown2 k 1 hlt (by omega); obtain ⟨o2, ho2⟩ := own_room hown2 k 2 hlt (by omega); obtain ⟨o3, ho3⟩ := own_room hown2 k 3 hlt (by omega); obtain ⟨o4, ho4⟩ := own_room hown2 k 4 hlt (by omega); obtain ⟨o5, ho5⟩ := own_room hown2 k 5 hlt (by omega); obtain ⟨o6, ho6⟩ := own_room hown2 k 6 hlt (by omega))
      go_roundw
      case rel => exact ⟨k + 1, _, hlt, by go_num, storedL x.cells cs w2 (k * 7) hown2, hpre.stepL hx (fun _ => rfl), Below.setW (Nat.le_refl _) x.cells w2 (k * 7) (hbl.trans (hb2.mono (Nat.le_of_lt hg0.2)))⟩
      case measure => simp [intOf]; omega
    · go_wp2
      go_ret
      obtain rfl : k = xs.length := by omega
      rw [hpre.done (fun _ => rfl)] at hown
      exact ⟨_, rfl, hown, hbl⟩
set_option maxHeartbeats 400000 in
theorem eqItemS_any (v u : Value) (xs ys : List Item) (w : World) (h : RL 16777216 7 (flat Item.cells) w w.heap.size v xs) (h2 : RL 16777216 7 (flat Item.cells) w w.heap.size u ys) :
    Calls Tryz.prog 35 #[v, u] w fun e w' => e = .returned (.bool (decide (xs = ys))) ∧ Below w.heap.size w w' := by
  have h' := h
  obtain ⟨A, c, rfl, hbd, _⟩ := h
  have H := Lib.hid h'
  clear h'
  have h' := h2
  obtain ⟨A2, c2, rfl, hbd2, _⟩ := h2
  have H2 := Lib.hid h'
  clear h'
  by_cases hl : xs.length = ys.length
  · have hl0 : ((xs.length : Int) != (ys.length : Int)) = false := by simp [hl]
    have HL := Lib.hid hl
    clear hl
    go_enter Tryz.func35, Tryz.ntmps35
    go_wp2
    go_loopw [5] (fun i wr => ∃ k : Nat, k ≤ xs.length ∧ i = .int .i64 k ∧ (∀ i, i < k → xs[i]? = ys[i]?) ∧ Below w.heap.size w wr) (fun i _ => xs.length - (intOf i).toNat)
    case atStart => exact ⟨0, Nat.zero_le _, rfl, fun _ h => by omega, Below.refl _ _⟩
    case round =>
      obtain ⟨k, hk, rfl, heq, hbl⟩ := hrel
      have HE := Lib.hid heq
      clear heq
      by_cases hlt : k < xs.length
      · obtain ⟨b, off, x, _, rfl, hb, hx, _, rfl, hc⟩ := (H.out.below (flat_mono _) hbl).at_ k hlt
        obtain ⟨b2, off2, y, _, rfl, hb2, hy, _, rfl, hc2⟩ := (H2.out.below (flat_mono _) hbl).at_ k (HL.out ▸ hlt)
        have hsz := hbl.size
        have hq0 := fun X : Ext wr.heap.size wr => (X.cells (o := off + k * 7) (Nat.lt_of_lt_of_le hb hsz)).trans (hc 0 _ rfl)
        have hq1 := fun X : Ext wr.heap.size wr => (X.cells (o := off + k * 7 + 1) (Nat.lt_of_lt_of_le hb hsz)).trans (hc 1 _ rfl)
        have hq2 := fun X : Ext wr.heap.size wr => (X.cells (o := off + k * 7 + 2) (Nat.lt_of_lt_of_le hb hsz)).trans (hc 2 _ rfl)
        have hq3 := fun X : Ext wr.heap.size wr => (X.cells (o := off + k * 7 + 3) (Nat.lt_of_lt_of_le hb hsz)).trans (hc 3 _ rfl)
        have hq4 := fun X : Ext wr.heap.size wr => (X.cells (o := off + k * 7 + 4) (Nat.lt_of_lt_of_le hb hsz)).trans (hc 4 _ rfl)
        have hq5 := fun X : Ext wr.heap.size wr => (X.cells (o := off + k * 7 + 5) (Nat.lt_of_lt_of_le hb hsz)).trans (hc 5 _ rfl)
        have hq6 := fun X : Ext wr.heap.size wr => (X.cells (o := off + k * 7 + 6) (Nat.lt_of_lt_of_le hb hsz)).trans (hc 6 _ rfl)
        have hp0 := fun X : Ext wr.heap.size wr => (X.cells (o := off2 + k * 7) (Nat.lt_of_lt_of_le hb2 hsz)).trans (hc2 0 _ rfl)
        have hp1 := fun X : Ext wr.heap.size wr => (X.cells (o := off2 + k * 7 + 1) (Nat.lt_of_lt_of_le hb2 hsz)).trans (hc2 1 _ rfl)
        have hp2 := fun X : Ext wr.heap.size wr => (X.cells (o := off2 + k * 7 + 2) (Nat.lt_of_lt_of_le hb2 hsz)).trans (hc2 2 _ rfl)
        have hp3 := fun X : Ext wr.heap.size wr => (X.cells (o := off2 + k * 7 + 3) (Nat.lt_of_lt_of_le hb2 hsz)).trans (hc2 3 _ rfl)
        have hp4 := fun X : Ext wr.heap.size wr => (X.cells (o := off2 + k * 7 + 4) (Nat.lt_of_lt_of_le hb2 hsz)).trans (hc2 4 _ rfl)
        have hp5 := fun X : Ext wr.heap.size wr => (X.cells (o := off2 + k * 7 + 5) (Nat.lt_of_lt_of_le hb2 hsz)).trans (hc2 5 _ rfl)
        have hp6 := fun X : Ext wr.heap.size wr => (X.cells (o := off2 + k * 7 + 6) (Nat.lt_of_lt_of_le hb2 hsz)).trans (hc2 6 _ rfl)
        have hlt2 : k < ys.length := HL.out ▸ hlt
        clear hc hc2
        by_cases hxy : x = y
        · subst hxy
          have hdx : decide (x = x) = true := by simp
          go_wp2
          refine wp_region_ext wr.heap.size (by kernel_rfl) (by kernel_rfl) ?_
          repeat (go_big_quiet_step (exact ext_call (Nat.le_refl _) (eqItem_any x x _)))
          refine wpQuiet_nil ?_
          intro _ hw'
          obtain ⟨X, rfl⟩ := hw'
          go_wp2
          go_roundw
          case rel => exact ⟨k + 1, hlt, by go_num, eq_upto HE.out hx hy, hbl.trans (X.ok.mono hsz)⟩
          case measure => simp [intOf]; omega
        · have hne := list_ne_of hx hy hxy
          have HN := Lib.hid hne
          have hdx : decide (x = y) = false := by simp [hxy]
          clear hne hxy
          go_wp2
          refine wp_region_ext wr.heap.size (by kernel_rfl) (by kernel_rfl) ?_
          repeat (go_big_quiet_step (exact ext_call (Nat.le_refl _) (eqItem_any x y _)))
          refine wpQuiet_nil ?_
          intro _ hw'
          obtain ⟨X, rfl⟩ := hw'
          go_wp2
          go_ret
          exact ⟨ret_bool (by simp [HN.out]), hbl.trans (X.ok.mono hsz)⟩
      · have heq := list_eq_of HL.out (show k = xs.length by omega) HE.out
        have HN := Lib.hid heq
        clear heq
        go_wp2
        go_ret
        exact ⟨ret_bool (by simp [HN.out]), hbl⟩
  · have hl0 : ((xs.length : Int) != (ys.length : Int)) = true := by rw [bne_iff_ne]; omega
    have hne : xs ≠ ys := fun e => hl (by rw [e])
    have HN := Lib.hid hne
    clear hne hl
    go_enter Tryz.func35, Tryz.ntmps35
    go_wp2
    go_ret
    exact ⟨ret_bool (by simp [HN.out]), Below.refl _ _⟩
theorem info_Pallet : (Tryz.prog.info? 32).map (fun i => (i.zero, i.size, i.bytes)) = some (some (.agg #[.int .i64 0, .int .i64 0, .int .i64 0, .int .i64 0]), 4, 32) := by kernel_rfl
set_option maxHeartbeats 400000 in
theorem toPallet_any (s : Pallet) (w : World) :
    Calls Tryz.prog 26 #[s.val] w fun e w' => e = .returned s.val ∧ Below w.heap.size w w' := by
  go_enter Tryz.func26, Tryz.ntmps26
  go_wp2
  exact bodyPost_ret (v := s.val) (by simp [results, Tryz.results26, go_sem]) rfl ⟨rfl, (by repeat' (first | with_reducible exact Below.refl _ _ | with_reducible assumption | with_reducible refine Below.drew ?_ | with_reducible refine Below.alloc ?_ ?_ _ | with_reducible refine Below.setCell ?_ ?_ _ | with_reducible refine below_drewN ?_ _ | (simp; done) | (simp; omega)))⟩
set_option maxHeartbeats 400000 in
theorem eqPallet_any (s t : Pallet) (w : World) :
    Calls Tryz.prog 32 #[s.val, t.val] w fun e w' => e = .returned (.bool (decide (s = t))) ∧ Below w.heap.size w w' := by
  by_cases h : s = t
  · subst h
    go_enter Tryz.func32, Tryz.ntmps32
    go_wp2
    go_ret
    exact ⟨ret_bool (by simp), (by repeat' (first | with_reducible exact Below.refl _ _ | with_reducible assumption | with_reducible refine Below.drew ?_ | with_reducible refine Below.alloc ?_ ?_ _ | with_reducible refine Below.setCell ?_ ?_ _ | with_reducible refine below_drewN ?_ _ | (simp; done) | (simp; omega)))⟩
  · have hd : decide (s = t) = false := by simp [h]
    have HD := Lib.hid hd
    clear hd
    have H := Lib.hid h
    clear h
    go_enter Tryz.func32, Tryz.ntmps32
    go_wp2
    all_goals go_ret
    all_goals first | exact ⟨ret_bool HD.out.symm, (by repeat' (first | with_reducible exact Below.refl _ _ | with_reducible assumption | with_reducible refine Below.drew ?_ | with_reducible refine Below.alloc ?_ ?_ _ | with_reducible refine Below.setCell ?_ ?_ _ | with_reducible refine below_drewN ?_ _ | (simp; done) | (simp; omega)))⟩ | skip
    exfalso
    apply H.out
    cases s; cases t; simp_all
theorem info_str : (Tryz.prog.info? 9).map (fun i => (i.zero, i.size, i.bytes)) = some (some (.string ByteArray.empty), 1, 16) := by kernel_rfl
theorem bytes_ext' {a b : ByteArray} (h : a.data.toList = b.data.toList) : a = b := by
  cases a; cases b; congr 1; exact Array.toList_inj.1 h
theorem toList_data : ∀ (a : ByteArray), a.toList = a.data.toList := fun a => Go.ByteArray.toList_eq a
theorem bytes_ext {a b : ByteArray} (h : a.toList = b.toList) : a = b := bytes_ext' (by rw [← toList_data, ← toList_data, h])

end Go.Proofs.YteamlfcfillbjaaGreat
