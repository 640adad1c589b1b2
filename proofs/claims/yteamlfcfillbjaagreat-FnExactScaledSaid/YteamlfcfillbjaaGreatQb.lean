/-
  The walks over the bounds of an item, a type, a pallet.
-/
import Derived.Test.YteamlfcfillbjaaGreatQa
import Derived.Test.YteamlfcfillbjaaGreatLa
import Derived.Test.YteamlfcfillbjaaGreatPk
namespace Go.Proofs.YteamlfcfillbjaaGreat
set_option linter.unusedVariables false
set_option linter.unusedSimpArgs false
set_option maxRecDepth 100000
open Go.RowKit
theorem dropC {α : Type} {xs : List α} {k : Nat} {x : α} (h : xs[k]? = some x) : xs.drop k = x :: xs.drop (k + 1) := by
  have hk := (List.getElem?_eq_some_iff.1 h).1
  rw [List.drop_eq_getElem_cons hk, (List.getElem?_eq_some_iff.1 h).2]
set_option maxHeartbeats 400000 in
theorem isSide_any (a : Int) (w : World) : Calls Tryz.prog 104 #[.int .i64 a] w fun e w' => e = .returned (.bool (sideOk a)) ∧ w = w' := by
  go_enter Tryz.func104, Tryz.ntmps104
  go_wp2_with (go_at_call 68; refine (in_any _ _ _ _).mono ?_; rintro e w' ⟨rfl, rfl⟩)
  go_ret
  exact ⟨rfl, rfl⟩
set_option maxHeartbeats 400000 in
theorem l2Side_any (a : Int) (w : World) : Calls Tryz.prog 77 #[.int .i64 a] w fun e w' => e = .returned (.bool (sideOk a)) ∧ w = w' := by
  go_enter Tryz.func77, Tryz.ntmps77
  go_wp2_with (go_at_call 43; refine (l1In_any _ _ _ _).mono ?_; rintro e w' ⟨rfl, rfl⟩)
  go_ret
  exact ⟨rfl, rfl⟩
set_option maxHeartbeats 400000 in
theorem iItemOk_any (x : Item) (w : World) : Calls Tryz.prog 96 #[x.val] w fun e w' => e = .returned (.bool (itemOk x)) ∧ Below w.heap.size w w' := by
  go_enter Tryz.func96, Tryz.ntmps96
  go_wp2_with (first | (go_at_call 104; refine (isSide_any _ _).mono ?_; rintro e w' ⟨rfl, rfl⟩) | (go_at_call 68; refine (in_any _ _ _ _).mono ?_; rintro e w' ⟨rfl, rfl⟩))
  all_goals go_ret
  all_goals exact ⟨ret_bool (by simp [itemOk, *]), (by repeat' (first | with_reducible exact Below.refl _ _ | with_reducible assumption | with_reducible refine Below.drew ?_ | with_reducible refine Below.alloc ?_ ?_ _ | with_reducible refine Below.setCell ?_ ?_ _ | with_reducible refine below_drewN ?_ _ | (simp; done) | (simp; omega)))⟩
set_option maxHeartbeats 400000 in
theorem sItemOk_any (x : Item) (w : World) : Calls Tryz.prog 72 #[x.val] w fun e w' => e = .returned (.bool (itemOk x)) ∧ Below w.heap.size w w' := by
  go_enter Tryz.func72, Tryz.ntmps72
  go_wp2_with (first | (go_at_call 77; refine (l2Side_any _ _).mono ?_; rintro e w' ⟨rfl, rfl⟩) | (go_at_call 70; refine (l2Id_any _ _).mono ?_; rintro e w' ⟨rfl, rfl⟩) | (go_at_call 43; refine (l1In_any _ _ _ _).mono ?_; rintro e w' ⟨rfl, rfl⟩))
  all_goals go_ret
  all_goals exact ⟨ret_bool (by simp [itemOk, *]), (by repeat' (first | with_reducible exact Below.refl _ _ | with_reducible assumption | with_reducible refine Below.drew ?_ | with_reducible refine Below.alloc ?_ ?_ _ | with_reducible refine Below.setCell ?_ ?_ _ | with_reducible refine below_drewN ?_ _ | (simp; done) | (simp; omega)))⟩
set_option maxHeartbeats 400000 in
theorem iTypeOk_any (x : GType) (w : World) : Calls Tryz.prog 95 #[x.val] w fun e w' => e = .returned (.bool (typeOk x)) ∧ Below w.heap.size w w' := by
  go_enter Tryz.func95, Tryz.ntmps95
  go_wp2_with (first | (go_at_call 104; refine (isSide_any _ _).mono ?_; rintro e w' ⟨rfl, rfl⟩) | (go_at_call 68; refine (in_any _ _ _ _).mono ?_; rintro e w' ⟨rfl, rfl⟩))
  all_goals go_ret
  all_goals exact ⟨ret_bool (by simp [typeOk, *]), (by repeat' (first | with_reducible exact Below.refl _ _ | with_reducible assumption | with_reducible refine Below.drew ?_ | with_reducible refine Below.alloc ?_ ?_ _ | with_reducible refine Below.setCell ?_ ?_ _ | with_reducible refine below_drewN ?_ _ | (simp; done) | (simp; omega)))⟩
set_option maxHeartbeats 400000 in
theorem sTypeOk_any (x : GType) (w : World) : Calls Tryz.prog 71 #[x.val] w fun e w' => e = .returned (.bool (typeOk x)) ∧ Below w.heap.size w w' := by
  go_enter Tryz.func71, Tryz.ntmps71
  go_wp2_with (first | (go_at_call 77; refine (l2Side_any _ _).mono ?_; rintro e w' ⟨rfl, rfl⟩) | (go_at_call 70; refine (l2Id_any _ _).mono ?_; rintro e w' ⟨rfl, rfl⟩) | (go_at_call 43; refine (l1In_any _ _ _ _).mono ?_; rintro e w' ⟨rfl, rfl⟩))
  all_goals go_ret
  all_goals exact ⟨ret_bool (by simp [typeOk, *]), (by repeat' (first | with_reducible exact Below.refl _ _ | with_reducible assumption | with_reducible refine Below.drew ?_ | with_reducible refine Below.alloc ?_ ?_ _ | with_reducible refine Below.setCell ?_ ?_ _ | with_reducible refine below_drewN ?_ _ | (simp; done) | (simp; omega)))⟩
set_option maxHeartbeats 400000 in
theorem iPalletOk_any (x : Pallet) (w : World) : Calls Tryz.prog 91 #[x.val] w fun e w' => e = .returned (.bool (palletOk x)) ∧ Below w.heap.size w w' := by
  go_enter Tryz.func91, Tryz.ntmps91
  go_wp2_with (first | (go_at_call 104; refine (isSide_any _ _).mono ?_; rintro e w' ⟨rfl, rfl⟩) | (go_at_call 68; refine (in_any _ _ _ _).mono ?_; rintro e w' ⟨rfl, rfl⟩))
  all_goals go_ret
  all_goals exact ⟨ret_bool (by simp [palletOk, *]), (by repeat' (first | with_reducible exact Below.refl _ _ | with_reducible assumption | with_reducible refine Below.drew ?_ | with_reducible refine Below.alloc ?_ ?_ _ | with_reducible refine Below.setCell ?_ ?_ _ | with_reducible refine below_drewN ?_ _ | (simp; done) | (simp; omega)))⟩
set_option maxHeartbeats 400000 in
theorem sPalletOk_any (x : Pallet) (w : World) : Calls Tryz.prog 69 #[x.val] w fun e w' => e = .returned (.bool (palletOk x)) ∧ Below w.heap.size w w' := by
  go_enter Tryz.func69, Tryz.ntmps69
  go_wp2_with (first | (go_at_call 77; refine (l2Side_any _ _).mono ?_; rintro e w' ⟨rfl, rfl⟩) | (go_at_call 43; refine (l1In_any _ _ _ _).mono ?_; rintro e w' ⟨rfl, rfl⟩))
  all_goals go_ret
  all_goals exact ⟨ret_bool (by simp [palletOk, *]), (by repeat' (first | with_reducible exact Below.refl _ _ | with_reducible assumption | with_reducible refine Below.drew ?_ | with_reducible refine Below.alloc ?_ ?_ _ | with_reducible refine Below.setCell ?_ ?_ _ | with_reducible refine below_drewN ?_ _ | (simp; done) | (simp; omega)))⟩
set_option maxHeartbeats 400000 in
theorem sBeside_any (v : Value) (ps : List Pair) (a b : Int) (w : World) (h : RPairs 16777216 w w.heap.size v ps) : Calls Tryz.prog 73 #[v, .int .i64 a, .int .i64 b] w fun e w' => e = .returned (.bool (beside ps a b)) ∧ w = w' := by
  have H := Lib.hid h
  obtain ⟨A, c, rfl, hbd, _⟩ := h
  go_enter Tryz.func73, Tryz.ntmps73
  go_wp2
  go_loop [7] (fun i => ∃ k : Nat, k ≤ ps.length ∧ i = .int .i64 k ∧ beside (ps.drop k) a b = beside ps a b) (fun i => ps.length - (intOf i).toNat)
  case atStart => exact ⟨0, Nat.zero_le _, rfl, rfl⟩
  case round =>
    obtain ⟨k, hk, rfl, hin⟩ := hrel
    by_cases hlt : k < ps.length
    · obtain ⟨b', off, x, cs, rfl, hb, hx, _, rfl, hc⟩ := H.out.at_ k hlt
      have hc0 := hc 0 _ rfl
      have hc1 := hc 1 _ rfl
      simp only [Nat.add_zero] at hc0
      have HD := Lib.hid (show beside ps a b = ((x.a == a && x.b == b) || beside (ps.drop (k + 1)) a b) by rw [← hin, dropC hx]; rfl)
      clear hc hin
      go_wp2
      all_goals first | (go_ret; exact ⟨ret_bool (by rw [HD.out]; simp [*]), rfl⟩) | (go_round; (case rel => exact ⟨k + 1, by omega, by go_num, by rw [HD.out]; simp [*]⟩); (case measure => (simp [intOf]; omega)))
    · have HD := Lib.hid (show beside ps a b = false by rw [← hin, List.drop_of_length_le (by omega)]; rfl)
      clear hin
      go_wp2
      go_ret
      exact ⟨ret_bool HD.out.symm, rfl⟩
end Go.Proofs.YteamlfcfillbjaaGreat
