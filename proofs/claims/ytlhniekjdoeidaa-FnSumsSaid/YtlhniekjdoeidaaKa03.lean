/-
  The walks over the bounds of an item, a type, a pallet.
-/
import Derived.Test.YtlhniekjdoeidaaKa00
import Derived.Test.YtlhniekjdoeidaaKa02
import Derived.Test.YtlhniekjdoeidaaKa01
import Derived.Deep.Light
import Derived.Deep.RegionHeld3
namespace Go.Proofs.Ytlhniekjdoeidaa
set_option linter.unusedVariables false
set_option linter.unusedSimpArgs false
set_option maxRecDepth 100000
open Go.RowKit
theorem dropC {α : Type} {xs : List α} {k : Nat} {x : α} (h : xs[k]? = some x) : xs.drop k = x :: xs.drop (k + 1) := by
  have hk := (List.getElem?_eq_some_iff.1 h).1
  rw [List.drop_eq_getElem_cons hk, (List.getElem?_eq_some_iff.1 h).2]
set_option maxHeartbeats 400000 in
theorem l2Side_any (a : Int) (w : World) : Calls Try.prog 87 #[.int .i64 a] w fun e w' => e = .returned (.bool (sideOk a)) ∧ w = w' := by
  go_enter Try.func87, Try.ntmps87
  go_wp2_with (go_at_call 26; refine (l1In_any _ _ _ _).mono ?_; rintro e w' ⟨rfl, rfl⟩)
  go_ret
  exact ⟨rfl, rfl⟩
set_option maxHeartbeats 400000 in
theorem sItemOk_any (x : Item) (w : World) : Calls Try.prog 72 #[x.val] w fun e w' => e = .returned (.bool (itemOk x)) ∧ Below w.heap.size w w' := by
  go_enter Try.func72, Try.ntmps72
  go_wp2_with (first | (go_at_call 87; refine (l2Side_any _ _).mono ?_; rintro e w' ⟨rfl, rfl⟩) | (go_at_call 38; refine (l2Id_any _ _).mono ?_; rintro e w' ⟨rfl, rfl⟩) | (go_at_call 26; refine (l1In_any _ _ _ _).mono ?_; rintro e w' ⟨rfl, rfl⟩))
  all_goals go_ret
  all_goals exact ⟨ret_bool (by simp [itemOk, *]), (by repeat' (first | with_reducible exact Below.refl _ _ | with_reducible assumption | with_reducible refine Below.drew ?_ | with_reducible refine Below.alloc ?_ ?_ _ | with_reducible refine Below.setCell ?_ ?_ _ | with_reducible refine below_drewN ?_ _ | (simp; done) | (simp; omega)))⟩
set_option maxHeartbeats 400000 in
theorem sTypeOk_any (x : GType) (w : World) : Calls Try.prog 71 #[x.val] w fun e w' => e = .returned (.bool (typeOk x)) ∧ Below w.heap.size w w' := by
  go_enter Try.func71, Try.ntmps71
  go_wp2_with (first | (go_at_call 87; refine (l2Side_any _ _).mono ?_; rintro e w' ⟨rfl, rfl⟩) | (go_at_call 38; refine (l2Id_any _ _).mono ?_; rintro e w' ⟨rfl, rfl⟩) | (go_at_call 26; refine (l1In_any _ _ _ _).mono ?_; rintro e w' ⟨rfl, rfl⟩))
  all_goals go_ret
  all_goals exact ⟨ret_bool (by simp [typeOk, *]), (by repeat' (first | with_reducible exact Below.refl _ _ | with_reducible assumption | with_reducible refine Below.drew ?_ | with_reducible refine Below.alloc ?_ ?_ _ | with_reducible refine Below.setCell ?_ ?_ _ | with_reducible refine below_drewN ?_ _ | (simp; done) | (simp; omega)))⟩
set_option maxHeartbeats 400000 in
theorem sPalletOk_any (x : Pallet) (w : World) : Calls Try.prog 70 #[x.val] w fun e w' => e = .returned (.bool (palletOk x)) ∧ Below w.heap.size w w' := by
  go_enter Try.func70, Try.ntmps70
  go_wp2_with (first | (go_at_call 87; refine (l2Side_any _ _).mono ?_; rintro e w' ⟨rfl, rfl⟩) | (go_at_call 26; refine (l1In_any _ _ _ _).mono ?_; rintro e w' ⟨rfl, rfl⟩))
  all_goals go_ret
  all_goals exact ⟨ret_bool (by simp [palletOk, *]), (by repeat' (first | with_reducible exact Below.refl _ _ | with_reducible assumption | with_reducible refine Below.drew ?_ | with_reducible refine Below.alloc ?_ ?_ _ | with_reducible refine Below.setCell ?_ ?_ _ | with_reducible refine below_drewN ?_ _ | (simp; done) | (simp; omega)))⟩
set_option maxHeartbeats 400000 in
theorem sBeside_any (v : Value) (ps : List Pair) (a b : Int) (w : World) (h : RPairs 16777216 w w.heap.size v ps) : Calls Try.prog 73 #[v, .int .i64 a, .int .i64 b] w fun e w' => e = .returned (.bool (beside ps a b)) ∧ w = w' := by
  have H := Lib.hid h
  obtain ⟨A, c, rfl, hbd, _⟩ := h
  go_enter Try.func73, Try.ntmps73
  go_wp2
  go_loop [7] (fun i => ∃ k : Nat, k ≤ ps.length ∧ i = .int .i64 k ∧ beside (ps.drop k) a b = beside ps a b) (fun i => ps.length - (intOf i).toNat)
  case atStart => exact ⟨0, Nat.zero_le _, rfl, rfl⟩
  case round =>
    obtain ⟨k, hk, rfl, hin⟩ := hrel
    by_cases hlt : k < ps.length
    · obtain ⟨b', off, x, cs, rfl, hb, hx, _, rfl, hc⟩ := H.out.at_ k hlt
      have hc0 := hc 0 _ rfl
      have hc1 := hc 1 _ rfl
      simp only [Nat.add_zero] at hc0
      have HD := Lib.hid (show beside ps a b = ((x.a == a && x.b == b) || beside (ps.drop (k + 1)) a b) by rw [← hin, dropC hx]; rfl)
      clear hc hin
      go_wp2
      all_goals first | (go_ret; exact ⟨ret_bool (by rw [HD.out]; simp [*]), rfl⟩) | (go_round; (case rel => exact ⟨k + 1, by omega, by go_num, by rw [HD.out]; simp [*]⟩); (case measure => (simp [intOf]; omega)))
    · have HD := Lib.hid (show beside ps a b = false by rw [← hin, List.drop_of_length_le (by omega)]; rfl)
      clear hin
      go_wp2
      go_ret
      exact ⟨ret_bool HD.out.symm, rfl⟩
end Go.Proofs.Ytlhniekjdoeidaa

/-
  The walks over Beside, TypeById, MasterOf, both sides.
-/
namespace Go.Proofs.Ytlhniekjdoeidaa
set_option linter.unusedVariables false
set_option linter.unusedSimpArgs false
set_option maxRecDepth 100000
open Go.RowKit
theorem idxF_find {α : Type} (p : α → Bool) (xs : List α) : (idxF p xs = -1 ∧ xs.find? p = none) ∨ ∃ (i : Nat) (x : α), idxF p xs = i ∧ i < xs.length ∧ xs[i]? = some x ∧ xs.find? p = some x := by
  unfold idxF
  cases h : xs.findIdx? p with
  | none =>
    rw [List.findIdx?_eq_none_iff] at h
    exact .inl ⟨rfl, List.find?_eq_none.2 (fun x hx => by simp [h x hx])⟩
  | some i =>
    obtain ⟨hi, hp, hn⟩ := List.findIdx?_eq_some_iff_getElem.1 h
    refine .inr ⟨i, xs[i], rfl, hi, List.getElem?_eq_getElem hi, ?_⟩
    rw [List.find?_eq_some_iff_getElem]
    exact ⟨hp, i, hi, rfl, fun j hj => by have := hn j hj; simpa using this⟩
set_option maxHeartbeats 1000000 in
theorem sMasterOf_any (v : Value) (r : Request) (w : World) (h : RReq 16777216 w w.heap.size v r) :
    Calls Try.prog 52 #[v] w fun e w' => e = .returned (.tuple #[(masterOf r).1.val, .bool (masterOf r).2]) ∧ Below w.heap.size w w' := by
  obtain ⟨A1, c1, A2, c2, A3, c3, rfl, ⟨_, H2, _⟩, _, hbt, _⟩ := h.opn
  have hq0 := lay_box0 w [.cells #[.int .i64 r.way, .int .i64 r.pallet.w, .int .i64 r.pallet.d, .int .i64 r.pallet.h, .int .i64 r.pallet.gram, .int .i64 r.classes, .slice A1 r.pairs.length c1, .slice A2 r.types.length c2, .int .i64 r.master, .slice A3 r.items.length c3] 50, .cells #[.int .i64 0, .int .i64 0, .int .i64 0, .int .i64 0, .int .i64 0, .int .i64 0, .int .i64 0] 89] _ _ rfl
  have hq1 := lay_box w [.cells #[.int .i64 r.way, .int .i64 r.pallet.w, .int .i64 r.pallet.d, .int .i64 r.pallet.h, .int .i64 r.pallet.gram, .int .i64 r.classes, .slice A1 r.pairs.length c1, .slice A2 r.types.length c2, .int .i64 r.master, .slice A3 r.items.length c3] 50, .cells #[.int .i64 0, .int .i64 0, .int .i64 0, .int .i64 0, .int .i64 0, .int .i64 0, .int .i64 0] 89] 1 _ _ rfl
  have hf1 := lay_free w [.cells #[.int .i64 r.way, .int .i64 r.pallet.w, .int .i64 r.pallet.d, .int .i64 r.pallet.h, .int .i64 r.pallet.gram, .int .i64 r.classes, .slice A1 r.pairs.length c1, .slice A2 r.types.length c2, .int .i64 r.master, .slice A3 r.items.length c3] 50, .cells #[.int .i64 0, .int .i64 0, .int .i64 0, .int .i64 0, .int .i64 0, .int .i64 0, .int .i64 0] 89] 1 _ _ rfl
  have HL := Lib.hid (lay_low w [.cells #[.int .i64 r.way, .int .i64 r.pallet.w, .int .i64 r.pallet.d, .int .i64 r.pallet.h, .int .i64 r.pallet.gram, .int .i64 r.classes, .slice A1 r.pairs.length c1, .slice A2 r.types.length c2, .int .i64 r.master, .slice A3 r.items.length c3] 50, .cells #[.int .i64 0, .int .i64 0, .int .i64 0, .int .i64 0, .int .i64 0, .int .i64 0, .int .i64 0] 89])
  go_enter Try.func52, Try.ntmps52
  go_wp2
  go_loopw [4] (fun i wr => ∃ (k : Nat) (X : Ext (w.heap.size + 2) (lay w [.cells #[.int .i64 r.way, .int .i64 r.pallet.w, .int .i64 r.pallet.d, .int .i64 r.pallet.h, .int .i64 r.pallet.gram, .int .i64 r.classes, .slice A1 r.pairs.length c1, .slice A2 r.types.length c2, .int .i64 r.master, .slice A3 r.items.length c3] 50, .cells #[.int .i64 0, .int .i64 0, .int .i64 0, .int .i64 0, .int .i64 0, .int .i64 0, .int .i64 0] 89])), wr = X.world ∧ k ≤ r.types.length ∧ i = .int .i64 k ∧ (r.types.drop k).find? (fun t => t.id == r.master) = r.types.find? (fun t => t.id == r.master)) (fun i _ => r.types.length - (intOf i).toNat)
  case atStart => exact ⟨0, Ext.here _ _, rfl, Nat.zero_le _, rfl, rfl⟩
  case round =>
    obtain ⟨k, X, rfl, hk, rfl, hin⟩ := hrel
    by_cases hlt : k < r.types.length
    · obtain ⟨b, off, x, rfl, hb, hx, hc⟩ := H2.out.flatX HL.out k hlt
      have hc0 := hc 0 _ rfl
      have hc1 := hc 1 _ rfl
      have hc2 := hc 2 _ rfl
      have hc3 := hc 3 _ rfl
      have hc4 := hc 4 _ rfl
      have hc5 := hc 5 _ rfl
      have hc6 := hc 6 _ rfl
      simp only [Nat.add_zero] at hc0
      obtain ⟨hl0, hl1⟩ : (0 : Int) ≤ (k : Int) ∧ (k : Int) < (r.types.length : Int) := by omega
      have HD := Lib.hid (show r.types.find? (fun t => t.id == r.master) = if (x.id == r.master) = true then some x else (r.types.drop (k + 1)).find? (fun t => t.id == r.master) by rw [← hin, dropC hx]; cases hq : (x.id == r.master) <;> simp [List.find?_cons, hq])
      clear hc hin
      go_wp2
      refine wp_region_in (by kernel_rfl) (by kernel_rfl) ?_
      repeat (go_big_quiet_step (fail))
      refine wpQuiet_nil ?_
      intro _ hw'
      obtain ⟨Y, rfl⟩ := hw'
      go_wp2
      all_goals first
        | (refine bodyPost_ret (v := .tuple #[x.val, .bool true]) (by simp [results, Try.results52, go_sem, hq1, hf1]) rfl ⟨?_, ?_⟩
           · rw [show masterOf r = (x, true) by unfold masterOf typeById; rw [HD.out, if_pos (by simp [*])]]
           · have := HL.out Y
             (repeat' (first | with_reducible exact Below.refl _ _ | with_reducible assumption | with_reducible refine Below.drew ?_ | with_reducible refine Below.alloc ?_ ?_ _ | with_reducible refine Below.setCell ?_ ?_ _ | with_reducible refine below_drewN ?_ _ | (simp; done) | (simp; omega))))
        | (go_roundw; (case rel => exact ⟨k + 1, Y, rfl, hlt, by go_num, by rw [HD.out, if_neg (by simp [*])]⟩); (case measure => (simp [intOf]; omega)))
    · have HD := Lib.hid (show r.types.find? (fun t => t.id == r.master) = none by rw [← hin, List.drop_of_length_le (by omega)]; rfl)
      clear hin
      go_wp2
      refine bodyPost_ret (v := .tuple #[.agg #[.int .i64 0, .int .i64 0, .int .i64 0, .int .i64 0, .int .i64 0, .int .i64 0, .int .i64 0], .bool false]) (by simp [results, Try.results52, go_sem, hq1, hf1]) rfl ⟨?_, ?_⟩
      · rw [show masterOf r = (⟨0, 0, 0, 0, 0, 0, 0⟩, false) by unfold masterOf typeById; rw [HD.out]]
      · have := HL.out X
        (repeat' (first | with_reducible exact Below.refl _ _ | with_reducible assumption | with_reducible refine Below.drew ?_ | with_reducible refine Below.alloc ?_ ?_ _ | with_reducible refine Below.setCell ?_ ?_ _ | with_reducible refine below_drewN ?_ _ | (simp; done) | (simp; omega)))
end Go.Proofs.Ytlhniekjdoeidaa

/-
  The walks over BoundsOk, both sides.
-/
namespace Go.Proofs.Ytlhniekjdoeidaa
set_option linter.unusedVariables false
set_option linter.unusedSimpArgs false
set_option maxRecDepth 100000
open Go.RowKit
theorem all_cons {α : Type} {p : α → Bool} {xs : List α} {k : Nat} {x : α} (h : (xs.drop k).all p = xs.all p) (hx : xs[k]? = some x) : Hid (xs.all p = (p x && (xs.drop (k + 1)).all p)) := Lib.hid (by rw [← h, dropC hx]; rfl)
theorem all_end {α : Type} {p : α → Bool} {xs : List α} {k : Nat} (h : (xs.drop k).all p = xs.all p) (hk : ¬ k < xs.length) : Hid (xs.all p = true) := Lib.hid (by rw [← h, List.drop_of_length_le (by omega)]; rfl)
theorem sumCount_app (xs ys : List Item) : sumCount (xs ++ ys) = sumCount xs + sumCount ys := by
  induction xs with
  | nil => simp [sumCount]
  | cons x xs ih => simp only [List.cons_append, sumCount, ih]; omega
theorem sumCount_take {xs : List Item} {k : Nat} {x : Item} (h : xs[k]? = some x) : sumCount (xs.take (k + 1)) = sumCount (xs.take k) + x.count := by
  rw [List.take_add_one, h, sumCount_app]; simp [sumCount]
theorem item_count {x : Item} (h : itemOk x = true) : 1 ≤ x.count ∧ x.count ≤ 6 := by
  unfold itemOk inB at h; simp at h; omega
set_option maxHeartbeats 1000000 in
theorem sBoundsOk_any (v : Value) (r : Request) (w : World) (h : RReq 16777216 w w.heap.size v r) : Calls Try.prog 54 #[v] w fun e w' => e = .returned (.bool (boundsOk r)) ∧ Below w.heap.size w w' := by
  obtain ⟨A1, c1, A2, c2, A3, c3, rfl, ⟨H1, H2, H3⟩, hb1, hb2, hb3, _⟩ := h.opn
  have hq := lay_box0 w [.cells #[.int .i64 r.way, .int .i64 r.pallet.w, .int .i64 r.pallet.d, .int .i64 r.pallet.h, .int .i64 r.pallet.gram, .int .i64 r.classes, .slice A1 r.pairs.length c1, .slice A2 r.types.length c2, .int .i64 r.master, .slice A3 r.items.length c3] 50] _ _ rfl
  have HL := Lib.hid (lay_low w [.cells #[.int .i64 r.way, .int .i64 r.pallet.w, .int .i64 r.pallet.d, .int .i64 r.pallet.h, .int .i64 r.pallet.gram, .int .i64 r.classes, .slice A1 r.pairs.length c1, .slice A2 r.types.length c2, .int .i64 r.master, .slice A3 r.items.length c3] 50])
  have HP := extC (lay_le w [.cells #[.int .i64 r.way, .int .i64 r.pallet.w, .int .i64 r.pallet.d, .int .i64 r.pallet.h, .int .i64 r.pallet.gram, .int .i64 r.classes, .slice A1 r.pairs.length c1, .slice A2 r.types.length c2, .int .i64 r.master, .slice A3 r.items.length c3] 50]) fun X => sPalletOk_any r.pallet X.world
  have HT := fun x => extC (lay_le w [.cells #[.int .i64 r.way, .int .i64 r.pallet.w, .int .i64 r.pallet.d, .int .i64 r.pallet.h, .int .i64 r.pallet.gram, .int .i64 r.classes, .slice A1 r.pairs.length c1, .slice A2 r.types.length c2, .int .i64 r.master, .slice A3 r.items.length c3] 50]) fun X => sTypeOk_any x X.world
  have HI := fun x => extC (lay_le w [.cells #[.int .i64 r.way, .int .i64 r.pallet.w, .int .i64 r.pallet.d, .int .i64 r.pallet.h, .int .i64 r.pallet.gram, .int .i64 r.classes, .slice A1 r.pairs.length c1, .slice A2 r.types.length c2, .int .i64 r.master, .slice A3 r.items.length c3] 50]) fun X => sItemOk_any x X.world
  go_enter Try.func54, Try.ntmps54
  go_wp2_with (first | (go_at_call 26; refine (l1In_any _ _ _ _).mono ?_; rintro e w' ⟨rfl, rfl⟩) | (go_at_call 38; refine (l2Id_any _ _).mono ?_; rintro e w' ⟨rfl, rfl⟩) | (go_at_call 70; (first | refine (HP.out _).mono ?_ | refine (HP.out (Ext.here _ _)).mono ?_); rintro e w' ⟨rfl, Y, rfl⟩))
  all_goals first | (go_ret; go_light; exact ⟨ret_bool (by first | (simp [boundsOk, *]; done) | (simp [boundsOk, *]; intros; omega)), by first | exact HL.out _ | (repeat' (first | with_reducible exact Below.refl _ _ | with_reducible assumption | with_reducible refine Below.drew ?_ | with_reducible refine Below.alloc ?_ ?_ _ | with_reducible refine Below.setCell ?_ ?_ _ | with_reducible refine below_drewN ?_ _ | (simp; done) | (simp; omega)))⟩) | skip
  go_loopw [3] (fun i wr => ∃ (k : Nat) (X : Ext (w.heap.size + 1) (lay w [.cells #[.int .i64 r.way, .int .i64 r.pallet.w, .int .i64 r.pallet.d, .int .i64 r.pallet.h, .int .i64 r.pallet.gram, .int .i64 r.classes, .slice A1 r.pairs.length c1, .slice A2 r.types.length c2, .int .i64 r.master, .slice A3 r.items.length c3] 50])), wr = X.world ∧ k ≤ r.pairs.length ∧ i = .int .i64 k ∧ (r.pairs.drop k).all pairOk = r.pairs.all pairOk) (fun i _ => r.pairs.length - (intOf i).toNat)
  case atStart => exact ⟨0, _, rfl, Nat.zero_le _, rfl, rfl⟩
  case round =>
    obtain ⟨k, X, rfl, hk, rfl, hin⟩ := hrel
    by_cases hlt : k < r.pairs.length
    · obtain ⟨b, off, x, rfl, hb, hx, hc⟩ := H1.out.flatX HL.out k hlt
      have hc0 := hc 0 _ rfl
      have hc1 := hc 1 _ rfl
      simp only [Nat.add_zero] at hc0
      have HD := all_cons hin hx
      clear hc hin
      go_wp2_with (go_at_call 26; refine (l1In_any _ _ _ _).mono ?_; rintro e w' ⟨rfl, rfl⟩)
      all_goals first
        | (go_ret; go_light; (try simp only [Bool.not_eq_true', Bool.not_eq_false'] at *); exact ⟨ret_bool (by simp [boundsOk, HD.out, pairOk, *]), HL.out _⟩)
        | (go_roundw; (case rel => go_light; (try simp only [Bool.not_eq_true', Bool.not_eq_false'] at *); exact ⟨k + 1, X, rfl, hlt, by go_num, by rw [HD.out]; simp [pairOk, *]⟩); (case measure => (simp [intOf]; omega)))
    · have HD1 := all_end hin hlt
      clear hin
      go_wp2
      go_loopw [4] (fun i wr => ∃ (k : Nat) (X : Ext (w.heap.size + 1) (lay w [.cells #[.int .i64 r.way, .int .i64 r.pallet.w, .int .i64 r.pallet.d, .int .i64 r.pallet.h, .int .i64 r.pallet.gram, .int .i64 r.classes, .slice A1 r.pairs.length c1, .slice A2 r.types.length c2, .int .i64 r.master, .slice A3 r.items.length c3] 50])), wr = X.world ∧ k ≤ r.types.length ∧ i = .int .i64 k ∧ (r.types.drop k).all typeOk = r.types.all typeOk) (fun i _ => r.types.length - (intOf i).toNat)
      case atStart => exact ⟨0, _, rfl, Nat.zero_le _, rfl, rfl⟩
      case round =>
        obtain ⟨k2, X2, rfl, hk2, rfl, hin⟩ := hrel
        by_cases hlt2 : k2 < r.types.length
        · obtain ⟨b, off, x, rfl, hb, hx, hc⟩ := H2.out.flatX HL.out k2 hlt2
          have hc0 := hc 0 _ rfl
          have hc1 := hc 1 _ rfl
          have hc2 := hc 2 _ rfl
          have hc3 := hc 3 _ rfl
          have hc4 := hc 4 _ rfl
          have hc5 := hc 5 _ rfl
          have hc6 := hc 6 _ rfl
          simp only [Nat.add_zero] at hc0
          have HD := all_cons hin hx
          have HTx := HT x
          clear hc hin
          go_wp2_with (go_at_call 71; (first | refine (HTx.out _).mono ?_ | refine (HTx.out (Ext.here _ _)).mono ?_); rintro e w' ⟨rfl, Y, rfl⟩)
          all_goals first
            | (go_ret; go_light; (try simp only [Bool.not_eq_true', Bool.not_eq_false'] at *); exact ⟨ret_bool (by simp [boundsOk, HD.out, *]), HL.out _⟩)
            | (go_roundw; (case rel => go_light; (try simp only [Bool.not_eq_true', Bool.not_eq_false'] at *); exact ⟨k2 + 1, Y, rfl, hlt2, by go_num, by rw [HD.out]; simp [*]⟩); (case measure => (simp [intOf]; omega)))
        · have HD2 := all_end hin hlt2
          clear hin
          go_wp2
          go_loopw [5, 6] (fun u i wr => ∃ (k : Nat) (m : Int) (X : Ext (w.heap.size + 1) (lay w [.cells #[.int .i64 r.way, .int .i64 r.pallet.w, .int .i64 r.pallet.d, .int .i64 r.pallet.h, .int .i64 r.pallet.gram, .int .i64 r.classes, .slice A1 r.pairs.length c1, .slice A2 r.types.length c2, .int .i64 r.master, .slice A3 r.items.length c3] 50])), wr = X.world ∧ k ≤ r.items.length ∧ i = .int .i64 k ∧ u = .int .i64 m ∧ 0 ≤ m ∧ m ≤ 6 * k ∧ m = sumCount (r.items.take k) ∧ (r.items.drop k).all itemOk = r.items.all itemOk) (fun _ i _ => r.items.length - (intOf i).toNat)
          case atStart => exact ⟨0, 0, _, rfl, Nat.zero_le _, rfl, rfl, by omega, by omega, rfl, rfl⟩
          case round =>
            obtain ⟨k3, m, X3, rfl, hk3, rfl, rfl, hm0, hm1, hm, hin⟩ := hrel
            have HM := Lib.hid hm
            clear hm
            by_cases hlt3 : k3 < r.items.length
            · obtain ⟨b, off, x, rfl, hb, hx, hc⟩ := H3.out.flatX HL.out k3 hlt3
              have hc0 := hc 0 _ rfl
              have hc1 := hc 1 _ rfl
              have hc2 := hc 2 _ rfl
              have hc3 := hc 3 _ rfl
              have hc4 := hc 4 _ rfl
              have hc5 := hc 5 _ rfl
              have hc6 := hc 6 _ rfl
              simp only [Nat.add_zero] at hc0
              have HD := all_cons hin hx
              have HIx := HI x
              have HS := Lib.hid (sumCount_take hx)
              obtain ⟨q, hq⟩ : ∃ q, itemOk x = q := ⟨_, rfl⟩
              have HQ := Lib.hid hq
              rw [hq] at HIx
              clear hc hin hq
              cases q
              · go_wp2_with (go_at_call 72; (first | refine (HIx.out _).mono ?_ | refine (HIx.out (Ext.here _ _)).mono ?_); rintro e w' ⟨rfl, Y, rfl⟩)
                go_ret
                go_light
                exact ⟨ret_bool (by simp [boundsOk, HD.out, HQ.out]), HL.out _⟩
              · obtain ⟨hx0, hx1⟩ := item_count HQ.out
                go_wp2_with (go_at_call 72; (first | refine (HIx.out _).mono ?_ | refine (HIx.out (Ext.here _ _)).mono ?_); rintro e w' ⟨rfl, Y, rfl⟩)
                go_roundw
                case rel => go_light; exact ⟨k3 + 1, m + x.count, Y, rfl, hlt3, by go_num, rfl, by omega, by omega, by rw [HS.out, HM.out], by rw [HD.out, HQ.out]; simp⟩
                case measure => simp [intOf]; omega
            · have HD3 := all_end hin hlt3
              rw [List.take_of_length_le (by omega)] at HM
              clear hin
              go_wp2
              all_goals go_ret
              all_goals go_light
              all_goals exact ⟨ret_bool (by simp [boundsOk, HD1.out, HD2.out, HD3.out, ← HM.out, *]; try omega), HL.out _⟩
end Go.Proofs.Ytlhniekjdoeidaa

/-
  The walks over the table of kinds, both sides.
-/
namespace Go.Proofs.Ytlhniekjdoeidaa
set_option linter.unusedVariables false
set_option linter.unusedSimpArgs false
set_option maxRecDepth 100000
open Go.RowKit
def tabG (ps : List Pair) (a b : Nat) : Bool := !(a == b && !beside ps a a) && (beside ps a b == beside ps b a)
def tabRow (ps : List Pair) (n a : Nat) : Bool := (List.range n).all fun b => tabG ps a b
theorem tableOk_rows (ps : List Pair) (n : Nat) : tableOk ps n = (inB n 1 4 && (List.range n).all fun a => tabRow ps n a) := by
  unfold tableOk
  rw [Int.toNat_natCast]
  congr 1
  rw [Bool.eq_iff_iff]
  simp only [List.all_eq_true, List.mem_range, tabRow, tabG, Bool.and_eq_true, Bool.not_eq_true', Bool.and_eq_false_iff, beq_iff_eq, Bool.not_eq_false', beq_eq_false_iff_ne]
  constructor
  · intro h a ha b hb
    refine ⟨?_, (h a ha).2 b hb⟩
    by_cases e : a = b
    · exact .inr (h a ha).1
    · exact .inl e
  · intro h a ha
    refine ⟨?_, fun b hb => (h a ha b hb).2⟩
    rcases (h a ha a ha).1 with e | e
    · exact absurd rfl e
    · exact e
set_option maxHeartbeats 1000000 in
theorem sTableOk_any (v : Value) (ps : List Pair) (n : Int) (w : World) (h : RPairs 16777216 w w.heap.size v ps) : Calls Try.prog 56 #[v, .int .i64 n] w fun e w' => e = .returned (.bool (tableOk ps n)) ∧ w = w' := by
  have HB := Lib.hid (fun a b => sBeside_any v ps a b w h)
  obtain ⟨A, c, rfl, hbd, _⟩ := h
  obtain ⟨q, hq⟩ : ∃ q, inB n 1 4 = q := ⟨_, rfl⟩
  have HQ := Lib.hid hq
  cases q
  · have HT := Lib.hid (show tableOk ps n = false by unfold tableOk; rw [hq]; rfl)
    clear hq
    go_enter Try.func56, Try.ntmps56
    go_wp2_with (go_at_call 26; refine (l1In_any n 1 4 _).mono ?_; rintro e w' ⟨rfl, rfl⟩; rw [HQ.out])
    go_ret
    exact ⟨ret_bool HT.out.symm, rfl⟩
  · have hn := hq
    unfold inB at hn
    simp only [Bool.and_eq_true, decide_eq_true_eq] at hn
    obtain ⟨N, rfl⟩ : ∃ N : Nat, n = N := ⟨n.toNat, by omega⟩
    have HT := Lib.hid (show tableOk ps N = (List.range N).all fun a => tabRow ps N a by rw [tableOk_rows, hq]; rfl)
    obtain ⟨hn1, hn4⟩ := hn
    clear hq
    go_enter Try.func56, Try.ntmps56
    go_wp2_with (go_at_call 26; refine (l1In_any (N : Int) 1 4 _).mono ?_; rintro e w' ⟨rfl, rfl⟩; rw [HQ.out])
    go_loop [5] (fun i => ∃ k : Nat, k ≤ N ∧ i = .int .i64 k ∧ ∀ i, i < k → tabRow ps N i = true) (fun i => N - (intOf i).toNat)
    case atStart => exact ⟨0, Nat.zero_le _, rfl, fun _ h => by omega⟩
    case round =>
      obtain ⟨k, hk, rfl, hno⟩ := hrel
      have HN := Lib.hid hno
      clear hno
      by_cases hlt : k < N
      · go_wp2
        go_loop [6] (fun i => ∃ m : Nat, m ≤ N ∧ i = .int .i64 m ∧ ∀ i, i < m → tabG ps k i = true) (fun i => N - (intOf i).toNat)
        case atStart => exact ⟨0, Nat.zero_le _, rfl, fun _ h => by omega⟩
        case round =>
          obtain ⟨m, hm, rfl, hno⟩ := hrel
          have HN2 := Lib.hid hno
          clear hno
          by_cases hlt2 : m < N
          · have HG := Lib.hid (show tabG ps k m = (!((k : Int) == (m : Int) && !beside ps k k) && (beside ps k m == beside ps m k)) by
              unfold tabG; congr 3; rw [Bool.eq_iff_iff]; simp; exact ⟨fun h => by omega, fun h => by omega⟩)
            have B1 := HB.out k k
            have B2 := HB.out k m
            have B3 := HB.out m k
            obtain ⟨b1, hb1⟩ : ∃ b, beside ps k k = b := ⟨_, rfl⟩
            obtain ⟨b2, hb2⟩ : ∃ b, beside ps k m = b := ⟨_, rfl⟩
            obtain ⟨b3, hb3⟩ : ∃ b, beside ps m k = b := ⟨_, rfl⟩
            rw [hb1] at B1 HG
            rw [hb2] at B2 HG
            rw [hb3] at B3 HG
            have B1 := Lib.hid B1
            have B2 := Lib.hid B2
            have B3 := Lib.hid B3
            have HX := Lib.hid (fun h : tabG ps k m = false => range_all_false (f := fun a => tabRow ps N a) hlt (by unfold tabRow; exact range_all_false hlt2 h))
            have HY := Lib.hid (fun h : tabG ps k m = true => below_step (f := fun i => tabG ps k i) HN2.out h)
            obtain ⟨e, he⟩ : ∃ e, ((k : Int) == (m : Int)) = e := ⟨_, rfl⟩
            rw [he] at HG
            clear hb1 hb2 hb3
            cases e <;> cases b1 <;> cases b2 <;> cases b3
            all_goals
              go_wp2_with (go_at_call 73; (first | (with_reducible refine (B1.out).mono ?_) | (with_reducible refine (B2.out).mono ?_) | (with_reducible refine (B3.out).mono ?_)); rintro e w' ⟨rfl, rfl⟩)
            all_goals first
              | (go_ret; exact ⟨ret_bool (by rw [HT.out, HX.out (by simp [HG.out])]), rfl⟩)
              | (go_round; (case rel => exact ⟨m + 1, hlt2, by go_num, HY.out (by simp [HG.out])⟩); (case measure => (simp [intOf]; omega)))
          · have HR := Lib.hid (show tabRow ps N k = true by unfold tabRow; exact range_all_true (fun i hi => HN2.out i (by omega)))
            have HS := Lib.hid (below_step (f := fun i => tabRow ps N i) HN.out HR.out)
            go_wp2
            go_round
            case rel => exact ⟨k + 1, hlt, by go_num, HS.out⟩
            case measure => simp [intOf]; omega
      · have HR := Lib.hid (show tableOk ps N = true by rw [HT.out]; exact range_all_true (fun i hi => HN.out i (by omega)))
        go_wp2
        go_ret
        exact ⟨ret_bool HR.out.symm, rfl⟩
def tabRow2 (ps : List Pair) (n a : Nat) : Bool := beside ps a a && (List.range n).all fun b => beside ps a b == beside ps b a
end Go.Proofs.Ytlhniekjdoeidaa

/-
  The walks over the names of an order, both sides.
-/
namespace Go.Proofs.Ytlhniekjdoeidaa
set_option linter.unusedVariables false
set_option linter.unusedSimpArgs false
set_option maxRecDepth 100000
open Go.RowKit
theorem any_cons {α : Type} {p : α → Bool} {xs : List α} {k : Nat} {x : α} (h : (xs.drop k).any p = xs.any p) (hx : xs[k]? = some x) : Hid (xs.any p = (p x || (xs.drop (k + 1)).any p)) := Lib.hid (by rw [← h, dropC hx]; rfl)
theorem any_end {α : Type} {p : α → Bool} {xs : List α} {k : Nat} (h : (xs.drop k).any p = xs.any p) (hk : ¬ k < xs.length) : Hid (xs.any p = false) := Lib.hid (by rw [← h, List.drop_of_length_le (by omega)]; rfl)
theorem beq_ne {a b : Int} (h : (a == b) = false) : ¬ b = a := fun e => by rw [e] at h; simp at h
theorem take_get {α : Type} {xs : List α} {i k : Nat} {x : α} (h : xs[k]? = some x) (hk : k < i) : (xs.take i)[k]? = some x := by rw [List.getElem?_take, if_pos hk]; exact h
theorem names_types {r : Request} (h : ((List.range r.types.length).all fun i => !typeDup r.types i) = false) : Hid (namesOk r = false) := Lib.hid (by unfold namesOk; rw [h]; rfl)
theorem names_items {r : Request} (h : ((List.range r.items.length).all fun i => !itemBad r.classes r.items i) = false) : Hid (namesOk r = false) := Lib.hid (by unfold namesOk; rw [h]; simp)
theorem names_pairs {r : Request} (h : r.pairs.any (pairOut r.classes) = true) : Hid (namesOk r = false) := Lib.hid (by unfold namesOk; rw [h]; simp)
theorem names_all {r : Request} (h1 : ((List.range r.types.length).all fun i => !typeDup r.types i) = true) (h2 : ((List.range r.items.length).all fun i => !itemBad r.classes r.items i) = true) (h3 : r.pairs.any (pairOut r.classes) = false) : Hid (namesOk r = (masterOf r).2) := Lib.hid (by unfold namesOk; rw [h1, h2, h3]; simp)
set_option maxHeartbeats 1000000 in
theorem l5Names_any (v : Value) (r : Request) (w : World) (h : RReq 16777216 w w.heap.size v r) : Calls Try.prog 55 #[v] w fun e w' => e = .returned (.bool (namesOk r)) ∧ Below w.heap.size w w' := by
  have HRQ := Lib.hid h
  obtain ⟨A1, c1, A2, c2, A3, c3, rfl, ⟨H1, H2, H3⟩, hb1, hb2, hb3, _⟩ := h.opn
  have hq := lay_box0 w [.cells #[.int .i64 r.way, .int .i64 r.pallet.w, .int .i64 r.pallet.d, .int .i64 r.pallet.h, .int .i64 r.pallet.gram, .int .i64 r.classes, .slice A1 r.pairs.length c1, .slice A2 r.types.length c2, .int .i64 r.master, .slice A3 r.items.length c3] 50] _ _ rfl
  have HL := Lib.hid (lay_low w [.cells #[.int .i64 r.way, .int .i64 r.pallet.w, .int .i64 r.pallet.d, .int .i64 r.pallet.h, .int .i64 r.pallet.gram, .int .i64 r.classes, .slice A1 r.pairs.length c1, .slice A2 r.types.length c2, .int .i64 r.master, .slice A3 r.items.length c3] 50])
  have HM := extC (lay_le w [.cells #[.int .i64 r.way, .int .i64 r.pallet.w, .int .i64 r.pallet.d, .int .i64 r.pallet.h, .int .i64 r.pallet.gram, .int .i64 r.classes, .slice A1 r.pairs.length c1, .slice A2 r.types.length c2, .int .i64 r.master, .slice A3 r.items.length c3] 50]) fun X => sMasterOf_any _ r X.world (HRQ.out.next (HL.out X))
  obtain ⟨mm, hmm⟩ : ∃ m, masterOf r = m := ⟨_, rfl⟩
  have HMM := Lib.hid hmm
  rw [hmm] at HM
  obtain ⟨mt, mo⟩ := mm
  clear hmm
  go_enter Try.func55, Try.ntmps55
  go_wp2
  go_loopw [3] (fun i wr => ∃ (k : Nat) (X : Ext (w.heap.size + 1) (lay w [.cells #[.int .i64 r.way, .int .i64 r.pallet.w, .int .i64 r.pallet.d, .int .i64 r.pallet.h, .int .i64 r.pallet.gram, .int .i64 r.classes, .slice A1 r.pairs.length c1, .slice A2 r.types.length c2, .int .i64 r.master, .slice A3 r.items.length c3] 50])), wr = X.world ∧ k ≤ r.types.length ∧ i = .int .i64 k ∧ ∀ i, i < k → (!typeDup r.types i) = true) (fun i _ => r.types.length - (intOf i).toNat)
  case atStart => exact ⟨0, Ext.here _ _, rfl, Nat.zero_le _, rfl, fun _ h => by omega⟩
  case round =>
    obtain ⟨k, X, rfl, hk, rfl, hno⟩ := hrel
    have HN := Lib.hid hno
    clear hno
    by_cases hlt : k < r.types.length
    · obtain ⟨b, off, x, rfl, hb, hx, hc⟩ := H2.out.flatX HL.out k hlt
      have hc0 := hc 0 _ rfl
      simp only [Nat.add_zero] at hc0
      have HX := Lib.hid hx
      have HTD := Lib.hid (show typeDup r.types k = (r.types.take k).any fun q => q.id == x.id by unfold typeDup; rw [getD_some hx])
      obtain ⟨hl0, hl1⟩ : (0 : Int) ≤ (k : Int) ∧ (k : Int) < (r.types.length : Int) := by omega
      clear hc hx
      go_wp2
      go_loopw [4] (fun i wr => ∃ (m : Nat) (X : X.Of), wr = X.world ∧ m ≤ k ∧ i = .int .i64 m ∧ ((r.types.take k).drop m).any (fun q => q.id == x.id) = (r.types.take k).any (fun q => q.id == x.id)) (fun i _ => k - (intOf i).toNat)
      case atStart => exact ⟨0, X, rfl, Nat.zero_le _, rfl, rfl⟩
      case round =>
        obtain ⟨m, X2, rfl, hm, rfl, hin⟩ := hrel
        by_cases hlt2 : m < k
        · obtain ⟨b', off', y, hA, hb', hy, hd⟩ := H2.out.flatX HL.out m (by omega)
          cases hA
          have hd0 := hd 0 _ rfl
          simp only [Nat.add_zero] at hd0
          obtain ⟨hl2, hl3⟩ : (0 : Int) ≤ (m : Int) ∧ (m : Int) < (r.types.length : Int) := by omega
          have HD := any_cons hin (take_get hy hlt2)
          have HF := Lib.hid (fun h : typeDup r.types k = true => names_types (range_all_false (f := fun i => !typeDup r.types i) hlt (by rw [h]; rfl)))
          clear hd hin hy
          go_wp2
          refine wp_region_in (by kernel_rfl) (by kernel_rfl) ?_; (repeat (go_big_quiet_step (fail))); refine wpQuiet_nil ?_; intro _ hw'; obtain ⟨Y, rfl⟩ := hw'
          go_wp2
          all_goals first
            | (go_ret; go_light; exact ⟨ret_bool (HF.out (by have he : y.id = x.id := (beq_iff_eq.1 (by assumption : (x.id == y.id) = true)).symm; rw [HTD.out, HD.out]; simp [he])).out.symm, HL.out _⟩)
            | (go_roundw; (case rel => go_light; exact ⟨m + 1, Y, rfl, hlt2, by go_num, by have hne : ¬ y.id = x.id := beq_ne (by assumption : (x.id == y.id) = false); rw [HD.out]; simp [hne]⟩); (case measure => (simp [intOf]; omega)))
        · have HD := any_end hin (by rw [List.length_take]; omega)
          have HS := Lib.hid (below_step (f := fun i => !typeDup r.types i) HN.out (by rw [HTD.out, HD.out]; rfl))
          clear hin
          go_wp2
          go_roundw
          case rel => exact ⟨k + 1, X2, rfl, hlt, by go_num, HS.out⟩
          case measure => simp [intOf]; omega
    · have HT := Lib.hid (range_all_true (f := fun i => !typeDup r.types i) (n := r.types.length) (fun i hi => HN.out i (by omega)))
      go_wp2
      go_loopw [5] (fun i wr => ∃ (k : Nat) (X : X.Of), wr = X.world ∧ k ≤ r.items.length ∧ i = .int .i64 k ∧ ∀ i, i < k → (!itemBad r.classes r.items i) = true) (fun i _ => r.items.length - (intOf i).toNat)
      case atStart => exact ⟨0, X, rfl, Nat.zero_le _, rfl, fun _ h => by omega⟩
      case round =>
        obtain ⟨k, X, rfl, hk, rfl, hno⟩ := hrel
        have HN := Lib.hid hno
        clear hno
        by_cases hlt : k < r.items.length
        · obtain ⟨b, off, x, rfl, hb, hx, hc⟩ := H3.out.flatX HL.out k hlt
          have hc0 := hc 0 _ rfl
          have hc5 := hc 5 _ rfl
          simp only [Nat.add_zero] at hc0
          have HTD := Lib.hid (show itemBad r.classes r.items k = (decide (r.classes ≤ x.cls) || (r.items.take k).any fun q => q.id == x.id) by unfold itemBad itemDup; rw [getD_some hx])
          have HF := Lib.hid (fun h : itemBad r.classes r.items k = true => names_items (range_all_false (f := fun i => !itemBad r.classes r.items i) hlt (by rw [h]; rfl)))
          obtain ⟨hl0, hl1⟩ : (0 : Int) ≤ (k : Int) ∧ (k : Int) < (r.items.length : Int) := by omega
          clear hc hx
          by_cases hcl : r.classes ≤ x.cls
          · go_wp2
            refine wp_region_in (by kernel_rfl) (by kernel_rfl) ?_; (repeat (go_big_quiet_step (fail))); refine wpQuiet_nil ?_; intro _ hw'; obtain ⟨Y, rfl⟩ := hw'
            go_wp2
            go_ret
            go_light
            exact ⟨ret_bool (HF.out (by rw [HTD.out]; simp [hcl])).out.symm, HL.out _⟩
          have hcl' : x.cls < r.classes := by omega
          go_wp2
          refine wp_region_in (by kernel_rfl) (by kernel_rfl) ?_; (repeat (go_big_quiet_step (fail))); refine wpQuiet_nil ?_; intro _ hw'; obtain ⟨Y, rfl⟩ := hw'
          go_wp2
          go_loopw [6] (fun i wr => ∃ (m : Nat) (X : X.Of), wr = X.world ∧ m ≤ k ∧ i = .int .i64 m ∧ ((r.items.take k).drop m).any (fun q => q.id == x.id) = (r.items.take k).any (fun q => q.id == x.id)) (fun i _ => k - (intOf i).toNat)
          case atStart => exact ⟨0, Y, rfl, Nat.zero_le _, rfl, rfl⟩
          case round =>
            obtain ⟨m, X2, rfl, hm, rfl, hin⟩ := hrel
            by_cases hlt2 : m < k
            · obtain ⟨b', off', y, hA, hb', hy, hd⟩ := H3.out.flatX HL.out m (by omega)
              cases hA
              have hd0 := hd 0 _ rfl
              simp only [Nat.add_zero] at hd0
              obtain ⟨hl2, hl3⟩ : (0 : Int) ≤ (m : Int) ∧ (m : Int) < (r.items.length : Int) := by omega
              have HD := any_cons hin (take_get hy hlt2)
              clear hd hin hy
              go_wp2
              refine wp_region_in (by kernel_rfl) (by kernel_rfl) ?_; (repeat (go_big_quiet_step (fail))); refine wpQuiet_nil ?_; intro _ hw'; obtain ⟨Y, rfl⟩ := hw'
              go_wp2
              all_goals first
                | (go_ret; go_light; exact ⟨ret_bool (HF.out (by have he : y.id = x.id := (beq_iff_eq.1 (by assumption : (x.id == y.id) = true)).symm; rw [HTD.out, HD.out]; simp [he])).out.symm, HL.out _⟩)
                | (go_roundw; (case rel => go_light; exact ⟨m + 1, Y, rfl, hlt2, by go_num, by have hne : ¬ y.id = x.id := beq_ne (by assumption : (x.id == y.id) = false); rw [HD.out]; simp [hne]⟩); (case measure => (simp [intOf]; omega)))
            · have HD := any_end hin (by rw [List.length_take]; omega)
              have HS := Lib.hid (below_step (f := fun i => !itemBad r.classes r.items i) HN.out (by rw [HTD.out, HD.out]; simp; omega))
              clear hin
              go_wp2
              go_roundw
              case rel => exact ⟨k + 1, X2, rfl, hlt, by go_num, HS.out⟩
              case measure => simp [intOf]; omega
        · have HU := Lib.hid (range_all_true (f := fun i => !itemBad r.classes r.items i) (n := r.items.length) (fun i hi => HN.out i (by omega)))
          go_wp2
          go_loopw [7] (fun i wr => ∃ (k : Nat) (X : X.Of), wr = X.world ∧ k ≤ r.pairs.length ∧ i = .int .i64 k ∧ (r.pairs.drop k).any (pairOut r.classes) = r.pairs.any (pairOut r.classes)) (fun i _ => r.pairs.length - (intOf i).toNat)
          case atStart => exact ⟨0, X, rfl, Nat.zero_le _, rfl, rfl⟩
          case round =>
            obtain ⟨k, X, rfl, hk, rfl, hin⟩ := hrel
            by_cases hlt : k < r.pairs.length
            · obtain ⟨b, off, x, rfl, hb, hx, hc⟩ := H1.out.flatX HL.out k hlt
              have hc0 := hc 0 _ rfl; have hc1 := hc 1 _ rfl; simp only [Nat.add_zero] at hc0
              have HD := any_cons hin hx
              obtain ⟨hl0, hl1⟩ : (0 : Int) ≤ (k : Int) ∧ (k : Int) < (r.pairs.length : Int) := by omega
              clear hc hx hin
              by_cases ha : r.classes ≤ x.a
              · go_wp2
                refine wp_region_in (by kernel_rfl) (by kernel_rfl) ?_; (repeat (go_big_quiet_step (fail))); refine wpQuiet_nil ?_; intro _ hw'; obtain ⟨Y, rfl⟩ := hw'
                go_wp2
                go_ret
                go_light
                exact ⟨ret_bool (names_pairs (by rw [HD.out]; simp [pairOut, ha])).out.symm, HL.out _⟩
              have ha' : decide (r.classes ≤ x.a) = false := by simp; omega
              by_cases hb' : r.classes ≤ x.b
              · have hb2 : decide (r.classes ≤ x.b) = true := by simp; omega
                go_wp2
                refine wp_region_in (by kernel_rfl) (by kernel_rfl) ?_; (repeat (go_big_quiet_step (fail))); refine wpQuiet_nil ?_; intro _ hw'; obtain ⟨Y, rfl⟩ := hw'
                go_wp2
                go_ret
                go_light
                exact ⟨ret_bool (names_pairs (by rw [HD.out]; simp [pairOut, hb'])).out.symm, HL.out _⟩
              have hb2 : decide (r.classes ≤ x.b) = false := by simp; omega
              have HP := Lib.hid (show pairOut r.classes x = false by unfold pairOut; rw [ha', hb2]; rfl)
              go_wp2
              refine wp_region_in (by kernel_rfl) (by kernel_rfl) ?_; (repeat (go_big_quiet_step (fail))); refine wpQuiet_nil ?_; intro _ hw'; obtain ⟨Y, rfl⟩ := hw'
              go_wp2
              go_roundw
              case rel => exact ⟨k + 1, Y, rfl, hlt, by go_num, by rw [HD.out, HP.out]; rfl⟩
              case measure => simp [intOf]; omega
            · have HE := any_end hin hlt
              have HA := Lib.hid (names_all HT.out HU.out HE.out)
              clear hin
              go_wp2_with (go_at_call 52; (first | refine (HM.out _).mono ?_ | refine (HM.out (Ext.here _ _)).mono ?_); rintro e w' ⟨rfl, Y, rfl⟩)
              go_ret
              go_light
              have hy1 := HL.out Y
              have hy2 := hy1.size
              exact ⟨ret_bool (by rw [HA.out.out, HMM.out]), (by repeat' (first | with_reducible exact Below.refl _ _ | with_reducible assumption | with_reducible refine Below.drew ?_ | with_reducible refine Below.alloc ?_ ?_ _ | with_reducible refine Below.setCell ?_ ?_ _ | with_reducible refine below_drewN ?_ _ | (simp; done) | (simp; omega)))⟩
end Go.Proofs.Ytlhniekjdoeidaa

/-
  The walks over PlanScaled, both sides.
-/
namespace Go.Proofs.Ytlhniekjdoeidaa
set_option linter.unusedVariables false
set_option linter.unusedSimpArgs false
set_option maxRecDepth 100000
open Go.RowKit
theorem setL_app : ∀ (us l1 l2 : List Value) (j : Nat), setL (l1 ++ l2) (l1.length + j) us = l1 ++ setL l2 j us
  | [], _, _, _ => rfl
  | u :: us, l1, l2, j => by
    unfold setL
    rw [List.set_append_right _ _ (Nat.le_add_right _ _), Nat.add_sub_cancel_left, Nat.add_assoc]
    exact setL_app us l1 _ (j + 1)
theorem flat_len {α : Type} {f : α → List Value} {K : Nat} (hK : ∀ x, (f x).length = K) : ∀ xs : List α, (xs.flatMap f).length = xs.length * K
  | [] => by simp
  | x :: xs => by rw [List.flatMap_cons, List.length_append, flat_len hK xs, hK, List.length_cons, Nat.add_mul]; omega
def mixed (n : Int) (k : Nat) (xs : List Spot) : List Spot := (xs.take k).map (Spot.scaled n) ++ xs.drop k
theorem mixed_zero (n : Int) (xs : List Spot) : mixed n 0 xs = xs := by simp [mixed]
theorem mixed_all (n : Int) (xs : List Spot) : mixed n xs.length xs = xs.map (Spot.scaled n) := by simp [mixed]
theorem mixed_length (n : Int) (k : Nat) (xs : List Spot) : (mixed n k xs).length = xs.length := by simp [mixed]; omega
theorem mixed_step {n : Int} {k : Nat} {xs : List Spot} {x : Spot} (hx : xs[k]? = some x) :
    setL ((mixed n k xs).flatMap Spot.cells) (k * 4 + 1) [.int .i64 (wrap64 (n * x.x)), .int .i64 (wrap64 (n * x.y)), .int .i64 (wrap64 (n * x.z))] = (mixed n (k + 1) xs).flatMap Spot.cells := by
  obtain ⟨hk, rfl⟩ := List.getElem?_eq_some_iff.1 hx
  have hd : xs.drop k = xs[k] :: xs.drop (k + 1) := List.drop_eq_getElem_cons hk
  have hl : (((xs.take k).map (Spot.scaled n)).flatMap Spot.cells).length = k * 4 := by
    rw [flat_len (K := 4) (fun _ => rfl)]
    simp
    omega
  unfold mixed
  rw [hd, List.flatMap_append, ← hl, setL_app, List.take_add_one, hx, List.map_append, List.flatMap_append, List.flatMap_append, List.append_assoc]
  rfl
theorem mixed_step0 {n : Int} {k : Nat} {xs : List Spot} {x : Spot} (hx : xs[k]? = some x) :
    setL ((mixed n k xs).flatMap Spot.cells) (k * 4) [.int .i64 x.pallet, .int .i64 (wrap64 (n * x.x)), .int .i64 (wrap64 (n * x.y)), .int .i64 (wrap64 (n * x.z))] = (mixed n (k + 1) xs).flatMap Spot.cells := by
  obtain ⟨hk, rfl⟩ := List.getElem?_eq_some_iff.1 hx
  have hd : xs.drop k = xs[k] :: xs.drop (k + 1) := List.drop_eq_getElem_cons hk
  have hl : (((xs.take k).map (Spot.scaled n)).flatMap Spot.cells).length = k * 4 + 0 := by
    rw [flat_len (K := 4) (fun _ => rfl)]
    simp
    omega
  unfold mixed
  rw [hd, List.flatMap_append, show k * 4 = (((xs.take k).map (Spot.scaled n)).flatMap Spot.cells).length + 0 from by omega, setL_app, List.take_add_one, hx, List.map_append, List.flatMap_append, List.flatMap_append, List.append_assoc]
  rfl
theorem OPlan.base {w : World} {B B' : Nat} {v : Value} {p : Plan} {fp : List Nat} (h : OPlan w B v p fp) (hB : B' ≤ B) : OPlan w B' v p fp := by
  obtain ⟨v1, v2, f1, f2, rfl, h1, h2, rfl, hn⟩ := h
  exact ⟨v1, v2, f1, f2, rfl, OL.base h1 hB, OL.base h2 hB, rfl, hn⟩
theorem OPlan.stored {w : World} {B g : Nat} {v : Value} {p : Plan} {fp : List Nat} (h : OPlan w B v p fp) (hg : g < B) (u1 u2 : Value) : OPlan ((w.setCell ⟨g, 0, none⟩ u1).setCell ⟨g, 1, none⟩ u2) B v p fp := by
  refine OPlan.keep h (by simp) (fun b hb => ?_)
  have := (h.lt b hb).1
  rw [Below.heap_setCell, Below.heap_setCell] <;> simp <;> omega
set_option maxHeartbeats 400000 in
theorem sPlanScaled_any (v : Value) (p : Plan) (n : Int) (w : World) (h : RPlan 16777216 w w.heap.size v p) (hL : p.bulk ≤ 16777216) :
    Calls Try.prog 13 #[v, .int .i64 n] w fun e w' => ∃ v' fp, e = .returned v' ∧ OPlan w' w.heap.size v' (planScaled p n) fp ∧ Below w.heap.size w w' := by
  have H := Lib.hid h
  obtain ⟨v1, v2, rfl, h1, h2⟩ := h
  have H2 := Lib.hid h2
  clear h1
  obtain ⟨A2, c2, rfl, hbd2, _⟩ := h2
  obtain ⟨bp, hbp⟩ : ∃ x, planOk p = x := ⟨_, rfl⟩
  obtain ⟨bn, hbn⟩ : ∃ x, inB n 1 100 = x := ⟨_, rfl⟩
  have HBP := Lib.hid hbp
  have HBN := Lib.hid hbn
  clear hbp hbn
  have hb0 : Below w.heap.size w ((w.alloc (.cells #[v1, .slice A2 p.spots.length c2] 30)).alloc (.cells #[.slice none 0 0, .slice none 0 0] 30)) := (by repeat' (first | with_reducible exact Below.refl _ _ | with_reducible assumption | with_reducible refine Below.drew ?_ | with_reducible refine Below.alloc ?_ ?_ _ | with_reducible refine Below.setCell ?_ ?_ _ | with_reducible refine below_drewN ?_ _ | (simp; done) | (simp; omega)))
  go_enter Try.func13, Try.ntmps13
  go_wp2_with fail
  refine (l13Copy_any _ p _ (H.out.next hb0)).mono ?_
  rintro e w1 ⟨v', fp, rfl, ho, hb1⟩
  obtain ⟨A3, n3, c3, A4, n4, c4, rfl⟩ := OPlan.form ho
  have hb01 := bstep hb0 hb1
  have hbx := (hb1.block w.heap.size (by simp; omega)).trans (show _ = some (.cells #[v1, .slice A2 p.spots.length c2] 30 (0, 0)) by (simp only [heap_alloc_if, World.size_alloc]; repeat (first | rw [if_neg (by omega)] | rw [if_pos (by omega)] | rw [if_pos trivial])))
  have hby := (hb1.block (w.heap.size + 1) (by simp)).trans (show _ = some (.cells #[.slice none 0 0, .slice none 0 0] 30 (0, 0)) by (simp only [heap_alloc_if, World.size_alloc]; repeat (first | rw [if_neg (by omega)] | rw [if_pos (by omega)] | rw [if_pos trivial])))
  have HX := Lib.hid hbx
  have HY := Lib.hid hby
  have HO := Lib.hid ho
  have hl1 := lt_of_block hby
  have hl0 := lt_of_block hbx
  have hfl := ho.lt
  have hcx := fun j => cell_of_row _ _ j _ _ (0, 0) hbx
  clear hbx hby ho
  have hbA : Below w1.heap.size w1 (w1.alloc (.cells #[.slice A3 n3 c3, .slice A4 n4 c4] 30)) := (by repeat' (first | with_reducible exact Below.refl _ _ | with_reducible assumption | with_reducible refine Below.drew ?_ | with_reducible refine Below.alloc ?_ ?_ _ | with_reducible refine Below.setCell ?_ ?_ _ | with_reducible refine below_drewN ?_ _ | (simp; done) | (simp; omega)))
  go_wp2_with fail
  refine (sPlanOk_any _ p _ (H.out.next (bstep hb01 hbA))).mono ?_
  rintro e w3 ⟨rfl, hb3⟩
  have hle01 := hb01.size
  have hx3 := (hb3.block w.heap.size (by simp; omega)).trans ((Below.heap_alloc _ _ _ hl0).trans HX.out)
  have hy3 := (hb3.block (w.heap.size + 1) (by simp; omega)).trans ((Below.heap_alloc _ _ _ hl1).trans HY.out)
  have hn3 := (hb3.block w1.heap.size (by simp)).trans (heap_alloc_new w1 _)
  have ho3 := ((HO.out.next hbA).next hb3).base (B' := w.heap.size + 2) (by simp)
  have hb03 := bstep (bstep hb01 hbA) hb3
  have hHY := Lib.hid hy3
  have hHX := Lib.hid hx3
  have hHN := Lib.hid hn3
  have HO3 := Lib.hid ho3
  have hlN := lt_of_block hn3
  have hcx3 := fun j => cell_of_row _ _ j _ _ (0, 0) hx3
  have hcy3 := fun j => cell_of_row _ _ j _ _ (0, 0) hy3
  have hfy3 := fun j => frozen_of_row _ _ j _ _ hy3
  have hcn3 := fun j => cell_of_row _ _ j _ _ (0, 0) hn3
  clear hx3 hy3 hn3 ho3 hcx
  by_cases hA : bp = true ∧ bn = true
  · obtain ⟨rfl, rfl⟩ := hA
    obtain ⟨va, vb, f1, f2, heq, hc, hs, hfe, hnd⟩ := HO3.out
    cases heq
    obtain ⟨hrow, rfl⟩ := own_of_OL hs (fun _ => rfl)
    obtain ⟨Aq, cq, hq⟩ := own_form hrow
    cases hq
    have HC := Lib.hid hc
    have HE := Lib.hid (And.intro hfe hnd)
    clear hc hs hfe hnd
    have hcn31 := hcn3 1
    have hcx31 := hcx3 1
    simp at hcn31 hcx31
    go_wp2_with (go_at_call 26; refine (l1In_any n 1 100 _).mono ?_; rintro e w4 ⟨rfl, rfl⟩; rw [HBN.out])
    go_loopw [6] (fun i wr => ∃ k : Nat, k ≤ p.spots.length ∧ i = .int .i64 k ∧ wr.ownsRow (w.heap.size + 2) 36 4 (.slice A4 p.spots.length c4) p.spots.length ((mixed n k p.spots).flatMap Spot.cells) ∧ w3.heap.size ≤ wr.heap.size ∧ (∀ b, b < w3.heap.size → (Value.slice A4 p.spots.length c4).ownBlock ≠ some b → wr.heap[b]? = w3.heap[b]?) ∧ Below w.heap.size w wr) (fun i _ => p.spots.length - (intOf i).toNat)
    case atStart => exact ⟨0, Nat.zero_le _, rfl, by rw [mixed_zero]; exact hrow, Nat.le_refl _, fun _ _ _ => rfl, hb03⟩
    case round =>
      obtain ⟨k, hk, rfl, hown, hsz, hkeep, hbl⟩ := hrel
      have hNb : ∀ b, b < w.heap.size + 2 → (Value.slice A4 p.spots.length c4).ownBlock ≠ some b := fun b hb he => by have := (hrow.lt b he).1; omega
      by_cases hlt : k < p.spots.length
      · obtain ⟨g, rfl⟩ : ∃ g, A4 = some ⟨g, 0, none⟩ := by
          rcases hown.2 with ⟨hv, _⟩ | ⟨g, cap, cur, hv, _⟩
          · have hv' := congrArg (fun v => match v with | .slice _ m _ => m | _ => 0) hv; simp at hv'; omega
          · cases hv; exact ⟨g, rfl⟩
        have hg1 := (hrow.lt g rfl).1
        have hg2 : g < w1.heap.size := (hfl g (by rw [HE.out.1]; simp [Value.ownBlock])).2
        obtain ⟨b, off, x, _, heq, hb, hxk, _, hfx, hc⟩ := (H2.out.below (flat_mono _) hbl).at_ k hlt
        cases heq
        cases hfx
        have hc1 := hc 1 _ rfl
        have hc2 := hc 2 _ rfl
        have hc3 := hc 3 _ rfl
        have hcnr := fun j => cell_of_row _ _ j _ _ (0, 0) ((hkeep w1.heap.size (by omega) (by simp [Value.ownBlock]; omega)).trans hHN.out)
        have hcxr := fun j => cell_of_row _ _ j _ _ (0, 0) ((hkeep w.heap.size (by omega) (hNb _ (by omega))).trans hHX.out)
        have hn1 := hcnr 1
        have hx1 := hcxr 1
        simp at hn1 hx1
        have hf := hown.frozenAt
        obtain ⟨o1, ho1⟩ := own_room hown k 1 hlt (by omega)
        obtain ⟨o2, ho2⟩ := own_room hown k 2 hlt (by omega)
        obtain ⟨o3, ho3⟩ := own_room hown k 3 hlt (by omega)
        have hne1 : ¬ (g = w1.heap.size) := by omega
        have hne2 : ¬ (w1.heap.size = g) := by omega
        have hne3 : ¬ (g = w.heap.size) := by omega
        have hne4 : ¬ (w.heap.size = g) := by omega
        have hne5 : ¬ (g = b) := by omega
        have hne6 : ¬ (b = g) := by omega
        clear hc hcnr hcxr hcn3 hcx3 hcy3 hfy3
        go_wp2
        go_region_held3 (fun W' => W'.cell? ⟨w1.heap.size, 1, none⟩ = some (.slice (some ⟨g, 0, none⟩) p.spots.length c4) ∧ W'.cell? ⟨w.heap.size, 1, none⟩ = some (.slice (some ⟨b, off, none⟩) p.spots.length c2) ∧ W'.cell? ⟨b, off + k * 4 + 1, none⟩ = some (.int .i64 x.x) ∧ W'.cell? ⟨b, off + k * 4 + 2, none⟩ = some (.int .i64 x.y) ∧ W'.cell? ⟨b, off + k * 4 + 3, none⟩ = some (.int .i64 x.z)) (go_keep) (fail)
        go_wp2
        go_region_held3 (fun W' => W'.cell? ⟨w1.heap.size, 1, none⟩ = some (.slice (some ⟨g, 0, none⟩) p.spots.length c4) ∧ W'.cell? ⟨w.heap.size, 1, none⟩ = some (.slice (some ⟨b, off, none⟩) p.spots.length c2) ∧ W'.cell? ⟨b, off + k * 4 + 1, none⟩ = some (.int .i64 x.x) ∧ W'.cell? ⟨b, off + k * 4 + 2, none⟩ = some (.int .i64 x.y) ∧ W'.cell? ⟨b, off + k * 4 + 3, none⟩ = some (.int .i64 x.z)) (go_keep) (fail)
        go_wp2
        go_region_held3 (fun W' => W'.cell? ⟨w1.heap.size, 1, none⟩ = some (.slice (some ⟨g, 0, none⟩) p.spots.length c4) ∧ W'.cell? ⟨w.heap.size, 1, none⟩ = some (.slice (some ⟨b, off, none⟩) p.spots.length c2) ∧ W'.cell? ⟨b, off + k * 4 + 1, none⟩ = some (.int .i64 x.x) ∧ W'.cell? ⟨b, off + k * 4 + 2, none⟩ = some (.int .i64 x.y) ∧ W'.cell? ⟨b, off + k * 4 + 3, none⟩ = some (.int .i64 x.z)) (go_keep) (fail)
        go_wp2
        have hst := storedL [.int .i64 (wrap64 (n * x.x)), .int .i64 (wrap64 (n * x.y)), .int .i64 (wrap64 (n * x.z))] _ wr (k * 4 + 1) hown
        rw [mixed_step hxk] at hst
        have hkw := fun b (hb : b ≠ g) => heap_setW hb [.int .i64 (wrap64 (n * x.x)), .int .i64 (wrap64 (n * x.y)), .int .i64 (wrap64 (n * x.z))] wr (k * 4 + 1)
        have hbw := Below.setW (show w.heap.size ≤ g by omega) [.int .i64 (wrap64 (n * x.x)), .int .i64 (wrap64 (n * x.y)), .int .i64 (wrap64 (n * x.z))] wr (k * 4 + 1) hbl
        have hsw := size_setW (g := g) [.int .i64 (wrap64 (n * x.x)), .int .i64 (wrap64 (n * x.y)), .int .i64 (wrap64 (n * x.z))] wr (k * 4 + 1)
        have HST := Lib.hid hst
        have HKW := Lib.hid hkw
        have HBW := Lib.hid hbw
        have HSW := Lib.hid hsw
        clear hst hkw hbw hsw
        go_roundw
        case rel =>
          refine ⟨k + 1, hlt, by go_num, own_block HST.out (fun _ _ => rfl), Nat.le_trans hsz (Nat.le_of_eq HSW.out.symm), fun b hb hne => (HKW.out b (fun e => hne (by rw [e]; rfl))).trans (hkeep b hb hne), HBW.out.drew.drew.drew⟩
        case measure => simp [intOf]; omega
      · obtain rfl : k = p.spots.length := by omega
        rw [mixed_all] at hown
        have hle : ∀ b ∈ f1, b < w3.heap.size ∧ (Value.slice A4 p.spots.length c4).ownBlock ≠ some b := fun b hb => ⟨(OL.lt HC.out b hb).2, fun e => by
          obtain ⟨h1, h2⟩ := HE.out
          rw [h1, List.nodup_append] at h2
          exact h2.2.2 b hb b (by rw [e]; simp) rfl⟩
        have hop : OPlan wr (w.heap.size + 2) (.agg #[.slice A3 n3 c3, .slice A4 p.spots.length c4]) (planTimes p n) fp :=
          ⟨_, _, f1, _, rfl, OL.keep HC.out ECarton_fr hsz (fun b hb => hkeep b (hle b hb).1 (hle b hb).2), OL_of_own (xs := p.spots.map (Spot.scaled n)) (by simpa using hown) (fun _ => rfl), HE.out.1, HE.out.2⟩
        have hrp : RPlan 16777216 wr wr.heap.size (.agg #[.slice A3 n3 c3, .slice A4 p.spots.length c4]) (planTimes p n) := hop.read (by simpa [Plan.bulk, planTimes] using hL)
        have HOP := Lib.hid hop
        have hNn : (Value.slice A4 p.spots.length c4).ownBlock ≠ some w1.heap.size := fun e => by have := (hfl w1.heap.size (by rw [HE.out.1]; simp [e])).2; omega
        have hcnr := fun j => cell_of_row _ _ j _ _ (0, 0) ((hkeep w1.heap.size (by omega) hNn).trans hHN.out)
        have hcxr := fun j => cell_of_row _ _ j _ _ (0, 0) ((hkeep w.heap.size (by omega) (hNb _ (by omega))).trans hHX.out)
        obtain ⟨bt, hbt⟩ : ∃ x, planOk (planTimes p n) = x := ⟨_, rfl⟩
        have HP : Hid (planScaled p n = if bt = true then planTimes p n else p) := Lib.hid (by unfold planScaled; rw [HBP.out, HBN.out, hbt]; rfl)
        have HBT := Lib.hid hbt
        clear hop hbt hcn3 hcx3 hcy3 hfy3 hown
        go_wp2_with fail
        refine (sPlanOk_any _ (planTimes p n) _ hrp).mono ?_
        rintro e w5 ⟨rfl, hb5⟩
        have hl5 := lt_of_block ((hkeep (w.heap.size + 1) (by omega) (hNb _ (by omega))).trans hHY.out)
        have hl6 := lt_of_block ((hkeep w1.heap.size (by omega) hNn).trans hHN.out)
        have hy5 := (hb5.block (w.heap.size + 1) hl5).trans ((hkeep (w.heap.size + 1) (by omega) (hNb _ (by omega))).trans hHY.out)
        have hx5 := (hb5.block w.heap.size (by omega)).trans ((hkeep w.heap.size (by omega) (hNb _ (by omega))).trans hHX.out)
        have hn5 := (hb5.block w1.heap.size hl6).trans ((hkeep w1.heap.size (by omega) hNn).trans hHN.out)
        have hcy5 := fun j => cell_of_row _ _ j _ _ (0, 0) hy5
        have hfy5 := fun j => frozen_of_row _ _ j _ _ hy5
        have hcx5 := fun j => cell_of_row _ _ j _ _ (0, 0) hx5
        have hcn5 := fun j => cell_of_row _ _ j _ _ (0, 0) hn5
        have hb05 := bstep hbl hb5
        have HY5 := Lib.hid hy5
        clear hy5 hx5 hn5 hcnr hcxr
        rw [HBT.out]
        cases bt
        · clear hcy5 hfy5
          go_wp2_with fail
          refine (l13Copy_any _ p _ (H.out.next hb05)).mono ?_
          rintro e w6 ⟨v6, fp6, rfl, ho6, hb6⟩
          obtain ⟨B3, m3, d3, B4, m4, d4, rfl⟩ := OPlan.form ho6
          have hl7 := lt_of_block HY5.out
          have hy6 := (hb6.block (w.heap.size + 1) hl7).trans HY5.out
          have hcy6 := fun j => cell_of_row _ _ j _ _ (0, 0) hy6
          have hfy6 := fun j => frozen_of_row _ _ j _ _ hy6
          have hb06 := bstep hb05 hb6
          have HO6 := Lib.hid ho6
          clear hy6 ho6
          go_wp2
          refine bodyPost_ret (v := .agg #[.slice B3 m3 d3, .slice B4 m4 d4]) (by simp [results, Try.results13, go_sem, hcy6]) rfl ?_
          rw [HP.out]
          exact ⟨_, fp6, rfl, (HO6.out.stored hl7 _ _).base (by omega), (by repeat' (first | with_reducible exact Below.refl _ _ | with_reducible assumption | with_reducible refine Below.drew ?_ | with_reducible refine Below.alloc ?_ ?_ _ | with_reducible refine Below.setCell ?_ ?_ _ | with_reducible refine below_drewN ?_ _ | (simp; done) | (simp; omega)))⟩
        · go_wp2
          refine bodyPost_ret (v := .agg #[.slice A3 n3 c3, .slice A4 p.spots.length c4]) (by simp [results, Try.results13, go_sem, hcy5]) rfl ?_
          rw [HP.out]
          exact ⟨_, fp, rfl, ((HOP.out.next hb5).stored (by omega) _ _).base (by omega), (by repeat' (first | with_reducible exact Below.refl _ _ | with_reducible assumption | with_reducible refine Below.drew ?_ | with_reducible refine Below.alloc ?_ ?_ _ | with_reducible refine Below.setCell ?_ ?_ _ | with_reducible refine below_drewN ?_ _ | (simp; done) | (simp; omega)))⟩
  · have HP : Hid (planScaled p n = p) := Lib.hid (by unfold planScaled; rw [HBP.out, HBN.out, if_neg (by simpa using hA)])
    rw [HBP.out]
    cases bp
    · go_wp2
      refine bodyPost_ret (v := .agg #[.slice A3 n3 c3, .slice A4 n4 c4]) (by simp [results, Try.results13, go_sem, hcy3]) rfl ?_
      rw [HP.out]
      exact ⟨_, fp, rfl, (HO3.out.stored (by omega) _ _).base (by omega), (by repeat' (first | with_reducible exact Below.refl _ _ | with_reducible assumption | with_reducible refine Below.drew ?_ | with_reducible refine Below.alloc ?_ ?_ _ | with_reducible refine Below.setCell ?_ ?_ _ | with_reducible refine below_drewN ?_ _ | (simp; done) | (simp; omega)))⟩
    · obtain rfl : bn = false := by simpa using hA
      go_wp2_with (go_at_call 26; refine (l1In_any n 1 100 _).mono ?_; rintro e w4 ⟨rfl, rfl⟩; rw [HBN.out])
      refine bodyPost_ret (v := .agg #[.slice A3 n3 c3, .slice A4 n4 c4]) (by simp [results, Try.results13, go_sem, hcy3]) rfl ?_
      rw [HP.out]
      exact ⟨_, fp, rfl, (HO3.out.stored (by omega) _ _).base (by omega), (by repeat' (first | with_reducible exact Below.refl _ _ | with_reducible assumption | with_reducible refine Below.drew ?_ | with_reducible refine Below.alloc ?_ ?_ _ | with_reducible refine Below.setCell ?_ ?_ _ | with_reducible refine below_drewN ?_ _ | (simp; done) | (simp; omega)))⟩
end Go.Proofs.Ytlhniekjdoeidaa

/-
  The walk over impl.PlanScaled.
-/
namespace Go.Proofs.Ytlhniekjdoeidaa
set_option linter.unusedVariables false
set_option linter.unusedSimpArgs false
set_option maxRecDepth 100000
open Go.RowKit
set_option maxHeartbeats 400000 in
theorem iPlanScaled_any (v : Value) (p : Plan) (n : Int) (w : World) (h : RPlan 16777216 w w.heap.size v p) (hL : p.bulk ≤ 16777216) :
    Calls Try.prog 11 #[v, .int .i64 n] w fun e w' => ∃ v' fp, e = .returned v' ∧ OPlan w' w.heap.size v' (planScaled p n) fp ∧ Below w.heap.size w w' := by
  have H := Lib.hid h
  obtain ⟨v1, v2, rfl, h1, h2⟩ := h
  have H2 := Lib.hid h2
  clear h1
  obtain ⟨A2, c2, rfl, hbd2, _⟩ := h2
  obtain ⟨bp, hbp⟩ : ∃ x, planOk p = x := ⟨_, rfl⟩
  obtain ⟨bn, hbn⟩ : ∃ x, inB n 1 100 = x := ⟨_, rfl⟩
  have HBP := Lib.hid hbp
  have HBN := Lib.hid hbn
  clear hbp hbn
  have hb0 : Below w.heap.size w ((w.alloc (.cells #[v1, .slice A2 p.spots.length c2] 30)).alloc (.cells #[.slice none 0 0, .slice none 0 0] 30)) := (by repeat' (first | with_reducible exact Below.refl _ _ | with_reducible assumption | with_reducible refine Below.drew ?_ | with_reducible refine Below.alloc ?_ ?_ _ | with_reducible refine Below.setCell ?_ ?_ _ | with_reducible refine below_drewN ?_ _ | (simp; done) | (simp; omega)))
  go_enter Try.func11, Try.ntmps11
  go_wp2_with fail
  refine (clonePlan_any _ p _ (H.out.next hb0)).mono ?_
  rintro e w1 ⟨v', fp, rfl, ho, hb1⟩
  obtain ⟨A3, n3, c3, A4, n4, c4, rfl⟩ := OPlan.form ho
  have hb01 := bstep hb0 hb1
  have hbx := (hb1.block w.heap.size (by simp; omega)).trans (show _ = some (.cells #[v1, .slice A2 p.spots.length c2] 30 (0, 0)) by (simp only [heap_alloc_if, World.size_alloc]; repeat (first | rw [if_neg (by omega)] | rw [if_pos (by omega)] | rw [if_pos trivial])))
  have hby := (hb1.block (w.heap.size + 1) (by simp)).trans (show _ = some (.cells #[.slice none 0 0, .slice none 0 0] 30 (0, 0)) by (simp only [heap_alloc_if, World.size_alloc]; repeat (first | rw [if_neg (by omega)] | rw [if_pos (by omega)] | rw [if_pos trivial])))
  have HX := Lib.hid hbx
  have HY := Lib.hid hby
  have HO := Lib.hid ho
  have hl1 := lt_of_block hby
  have hl0 := lt_of_block hbx
  have hfl := ho.lt
  have hcx := fun j => cell_of_row _ _ j _ _ (0, 0) hbx
  clear hbx hby ho
  have hbA : Below w1.heap.size w1 (w1.alloc (.cells #[.slice A3 n3 c3, .slice A4 n4 c4] 30)) := (by repeat' (first | with_reducible exact Below.refl _ _ | with_reducible assumption | with_reducible refine Below.drew ?_ | with_reducible refine Below.alloc ?_ ?_ _ | with_reducible refine Below.setCell ?_ ?_ _ | with_reducible refine below_drewN ?_ _ | (simp; done) | (simp; omega)))
  go_wp2_with fail
  refine (iPlanOk_any _ p _ (H.out.next (bstep hb01 hbA))).mono ?_
  rintro e w3 ⟨rfl, hb3⟩
  have hle01 := hb01.size
  have hx3 := (hb3.block w.heap.size (by simp; omega)).trans ((Below.heap_alloc _ _ _ hl0).trans HX.out)
  have hy3 := (hb3.block (w.heap.size + 1) (by simp; omega)).trans ((Below.heap_alloc _ _ _ hl1).trans HY.out)
  have hn3 := (hb3.block w1.heap.size (by simp)).trans (heap_alloc_new w1 _)
  have ho3 := ((HO.out.next hbA).next hb3).base (B' := w.heap.size + 2) (by simp)
  have hb03 := bstep (bstep hb01 hbA) hb3
  have hHY := Lib.hid hy3
  have hHX := Lib.hid hx3
  have hHN := Lib.hid hn3
  have HO3 := Lib.hid ho3
  have hlN := lt_of_block hn3
  have hcx3 := fun j => cell_of_row _ _ j _ _ (0, 0) hx3
  have hcy3 := fun j => cell_of_row _ _ j _ _ (0, 0) hy3
  have hfy3 := fun j => frozen_of_row _ _ j _ _ hy3
  have hcn3 := fun j => cell_of_row _ _ j _ _ (0, 0) hn3
  clear hx3 hy3 hn3 ho3 hcx
  by_cases hA : bp = true ∧ bn = true
  · obtain ⟨rfl, rfl⟩ := hA
    obtain ⟨va, vb, f1, f2, heq, hc, hs, hfe, hnd⟩ := HO3.out
    cases heq
    obtain ⟨hrow, rfl⟩ := own_of_OL hs (fun _ => rfl)
    obtain ⟨Aq, cq, hq⟩ := own_form hrow
    cases hq
    have HC := Lib.hid hc
    have HE := Lib.hid (And.intro hfe hnd)
    clear hc hs hfe hnd
    have hcn31 := hcn3 1
    have hcx31 := hcx3 1
    simp at hcn31 hcx31
    go_wp2_with (go_at_call 19; refine (in_any n 1 100 _).mono ?_; rintro e w4 ⟨rfl, rfl⟩; rw [HBN.out])
    go_loopw [22] (fun i wr => ∃ k : Nat, k ≤ p.spots.length ∧ i = .int .i64 k ∧ wr.ownsRow (w.heap.size + 2) 36 4 (.slice A4 p.spots.length c4) p.spots.length ((mixed n k p.spots).flatMap Spot.cells) ∧ w3.heap.size ≤ wr.heap.size ∧ (∀ b, b < w3.heap.size → (Value.slice A4 p.spots.length c4).ownBlock ≠ some b → wr.heap[b]? = w3.heap[b]?) ∧ Below w.heap.size w wr) (fun i _ => p.spots.length - (intOf i).toNat)
    case atStart => exact ⟨0, Nat.zero_le _, rfl, by rw [mixed_zero]; exact hrow, Nat.le_refl _, fun _ _ _ => rfl, hb03⟩
    case round =>
      obtain ⟨k, hk, rfl, hown, hsz, hkeep, hbl⟩ := hrel
      have hNb : ∀ b, b < w.heap.size + 2 → (Value.slice A4 p.spots.length c4).ownBlock ≠ some b := fun b hb he => by have := (hrow.lt b he).1; omega
      by_cases hlt : k < p.spots.length
      · obtain ⟨g, rfl⟩ : ∃ g, A4 = some ⟨g, 0, none⟩ := by
          rcases hown.2 with ⟨hv, _⟩ | ⟨g, cap, cur, hv, _⟩
          · have hv' := congrArg (fun v => match v with | .slice _ m _ => m | _ => 0) hv; simp at hv'; omega
          · cases hv; exact ⟨g, rfl⟩
        have hg1 := (hrow.lt g rfl).1
        have hg2 : g < w1.heap.size := (hfl g (by rw [HE.out.1]; simp [Value.ownBlock])).2
        obtain ⟨b, off, x, _, heq, hb, hxk, _, hfx, hc⟩ := (H2.out.below (flat_mono _) hbl).at_ k hlt
        cases heq
        cases hfx
        have hc0 := hc 0 _ rfl
        simp only [Nat.add_zero] at hc0
        obtain ⟨o0, ho0⟩ := own_room0 hown k hlt (by omega)
        have hc1 := hc 1 _ rfl
        have hc2 := hc 2 _ rfl
        have hc3 := hc 3 _ rfl
        have hcnr := fun j => cell_of_row _ _ j _ _ (0, 0) ((hkeep w1.heap.size (by omega) (by simp [Value.ownBlock]; omega)).trans hHN.out)
        have hcxr := fun j => cell_of_row _ _ j _ _ (0, 0) ((hkeep w.heap.size (by omega) (hNb _ (by omega))).trans hHX.out)
        have hn1 := hcnr 1
        have hx1 := hcxr 1
        simp at hn1 hx1
        have hf := hown.frozenAt
        obtain ⟨o1, ho1⟩ := own_room hown k 1 hlt (by omega)
        obtain ⟨o2, ho2⟩ := own_room hown k 2 hlt (by omega)
        obtain ⟨o3, ho3⟩ := own_room hown k 3 hlt (by omega)
        have hne1 : ¬ (g = w1.heap.size) := by omega
        have hne2 : ¬ (w1.heap.size = g) := by omega
        have hne3 : ¬ (g = w.heap.size) := by omega
        have hne4 : ¬ (w.heap.size = g) := by omega
        have hne5 : ¬ (g = b) := by omega
        have hne6 : ¬ (b = g) := by omega
        clear hc hcnr hcxr hcn3 hcx3 hcy3 hfy3
        have hgr : g < wr.heap.size := by omega
        have hNr : w1.heap.size < wr.heap.size := by omega
        go_wp2
        have hst := storedL [.int .i64 x.pallet, .int .i64 (wrap64 (n * x.x)), .int .i64 (wrap64 (n * x.y)), .int .i64 (wrap64 (n * x.z))] _ wr (k * 4) hown
        rw [mixed_step0 hxk] at hst
        have hkw := fun b (hb : b ≠ g) => heap_setW hb [.int .i64 x.pallet, .int .i64 (wrap64 (n * x.x)), .int .i64 (wrap64 (n * x.y)), .int .i64 (wrap64 (n * x.z))] wr (k * 4)
        have hbw := Below.setW (show w.heap.size ≤ g by omega) [.int .i64 x.pallet, .int .i64 (wrap64 (n * x.x)), .int .i64 (wrap64 (n * x.y)), .int .i64 (wrap64 (n * x.z))] wr (k * 4) hbl
        have hsw := size_setW (g := g) [.int .i64 x.pallet, .int .i64 (wrap64 (n * x.x)), .int .i64 (wrap64 (n * x.y)), .int .i64 (wrap64 (n * x.z))] wr (k * 4)
        have hWr : setW wr g (k * 4) [.int .i64 x.pallet, .int .i64 (wrap64 (n * x.x)), .int .i64 (wrap64 (n * x.y)), .int .i64 (wrap64 (n * x.z))] = (((wr.setCell ⟨g, k * 4, none⟩ (.int .i64 x.pallet)).setCell ⟨g, k * 4 + 1, none⟩ (.int .i64 (wrap64 (n * x.x)))).setCell ⟨g, k * 4 + 2, none⟩ (.int .i64 (wrap64 (n * x.y)))).setCell ⟨g, k * 4 + 3, none⟩ (.int .i64 (wrap64 (n * x.z))) := rfl
        go_roundw
        case rel =>
          rw [← hWr]
          generalize setW wr g (k * 4) [.int .i64 x.pallet, .int .i64 (wrap64 (n * x.x)), .int .i64 (wrap64 (n * x.y)), .int .i64 (wrap64 (n * x.z))] = W at *
          refine ⟨k + 1, hlt, by go_num, hst.alloc _, by simp; omega, fun b hb hne => (Below.heap_alloc _ _ _ (by omega)).trans ((hkw b (fun e => hne (by rw [e]; rfl))).trans (hkeep b hb hne)), hbw.alloc hbw.size _⟩
        case measure => simp [intOf]; omega
      · obtain rfl : k = p.spots.length := by omega
        rw [mixed_all] at hown
        have hle : ∀ b ∈ f1, b < w3.heap.size ∧ (Value.slice A4 p.spots.length c4).ownBlock ≠ some b := fun b hb => ⟨(OL.lt HC.out b hb).2, fun e => by
          obtain ⟨h1, h2⟩ := HE.out
          rw [h1, List.nodup_append] at h2
          exact h2.2.2 b hb b (by rw [e]; simp) rfl⟩
        have hop : OPlan wr (w.heap.size + 2) (.agg #[.slice A3 n3 c3, .slice A4 p.spots.length c4]) (planTimes p n) fp :=
          ⟨_, _, f1, _, rfl, OL.keep HC.out ECarton_fr hsz (fun b hb => hkeep b (hle b hb).1 (hle b hb).2), OL_of_own (xs := p.spots.map (Spot.scaled n)) (by simpa using hown) (fun _ => rfl), HE.out.1, HE.out.2⟩
        have hrp : RPlan 16777216 wr wr.heap.size (.agg #[.slice A3 n3 c3, .slice A4 p.spots.length c4]) (planTimes p n) := hop.read (by simpa [Plan.bulk, planTimes] using hL)
        have HOP := Lib.hid hop
        have hNn : (Value.slice A4 p.spots.length c4).ownBlock ≠ some w1.heap.size := fun e => by have := (hfl w1.heap.size (by rw [HE.out.1]; simp [e])).2; omega
        have hcnr := fun j => cell_of_row _ _ j _ _ (0, 0) ((hkeep w1.heap.size (by omega) hNn).trans hHN.out)
        have hcxr := fun j => cell_of_row _ _ j _ _ (0, 0) ((hkeep w.heap.size (by omega) (hNb _ (by omega))).trans hHX.out)
        obtain ⟨bt, hbt⟩ : ∃ x, planOk (planTimes p n) = x := ⟨_, rfl⟩
        have HP : Hid (planScaled p n = if bt = true then planTimes p n else p) := Lib.hid (by unfold planScaled; rw [HBP.out, HBN.out, hbt]; rfl)
        have HBT := Lib.hid hbt
        clear hop hbt hcn3 hcx3 hcy3 hfy3 hown
        go_wp2_with fail
        refine (iPlanOk_any _ (planTimes p n) _ hrp).mono ?_
        rintro e w5 ⟨rfl, hb5⟩
        have hl5 := lt_of_block ((hkeep (w.heap.size + 1) (by omega) (hNb _ (by omega))).trans hHY.out)
        have hl6 := lt_of_block ((hkeep w1.heap.size (by omega) hNn).trans hHN.out)
        have hy5 := (hb5.block (w.heap.size + 1) hl5).trans ((hkeep (w.heap.size + 1) (by omega) (hNb _ (by omega))).trans hHY.out)
        have hx5 := (hb5.block w.heap.size (by omega)).trans ((hkeep w.heap.size (by omega) (hNb _ (by omega))).trans hHX.out)
        have hn5 := (hb5.block w1.heap.size hl6).trans ((hkeep w1.heap.size (by omega) hNn).trans hHN.out)
        have hcy5 := fun j => cell_of_row _ _ j _ _ (0, 0) hy5
        have hfy5 := fun j => frozen_of_row _ _ j _ _ hy5
        have hcx5 := fun j => cell_of_row _ _ j _ _ (0, 0) hx5
        have hcn5 := fun j => cell_of_row _ _ j _ _ (0, 0) hn5
        have hb05 := bstep hbl hb5
        have HY5 := Lib.hid hy5
        clear hy5 hx5 hn5 hcnr hcxr
        rw [HBT.out]
        cases bt
        · clear hcy5 hfy5
          go_wp2_with fail
          refine (clonePlan_any _ p _ (H.out.next hb05)).mono ?_
          rintro e w6 ⟨v6, fp6, rfl, ho6, hb6⟩
          obtain ⟨B3, m3, d3, B4, m4, d4, rfl⟩ := OPlan.form ho6
          have hl7 := lt_of_block HY5.out
          have hy6 := (hb6.block (w.heap.size + 1) hl7).trans HY5.out
          have hcy6 := fun j => cell_of_row _ _ j _ _ (0, 0) hy6
          have hfy6 := fun j => frozen_of_row _ _ j _ _ hy6
          have hb06 := bstep hb05 hb6
          have HO6 := Lib.hid ho6
          clear hy6 ho6
          go_wp2
          refine bodyPost_ret (v := .agg #[.slice B3 m3 d3, .slice B4 m4 d4]) (by simp [results, Try.results11, go_sem, hcy6]) rfl ?_
          rw [HP.out]
          exact ⟨_, fp6, rfl, (HO6.out.stored hl7 _ _).base (by omega), (by repeat' (first | with_reducible exact Below.refl _ _ | with_reducible assumption | with_reducible refine Below.drew ?_ | with_reducible refine Below.alloc ?_ ?_ _ | with_reducible refine Below.setCell ?_ ?_ _ | with_reducible refine below_drewN ?_ _ | (simp; done) | (simp; omega)))⟩
        · go_wp2
          refine bodyPost_ret (v := .agg #[.slice A3 n3 c3, .slice A4 p.spots.length c4]) (by simp [results, Try.results11, go_sem, hcy5]) rfl ?_
          rw [HP.out]
          exact ⟨_, fp, rfl, ((HOP.out.next hb5).stored (by omega) _ _).base (by omega), (by repeat' (first | with_reducible exact Below.refl _ _ | with_reducible assumption | with_reducible refine Below.drew ?_ | with_reducible refine Below.alloc ?_ ?_ _ | with_reducible refine Below.setCell ?_ ?_ _ | with_reducible refine below_drewN ?_ _ | (simp; done) | (simp; omega)))⟩
  · have HP : Hid (planScaled p n = p) := Lib.hid (by unfold planScaled; rw [HBP.out, HBN.out, if_neg (by simpa using hA)])
    rw [HBP.out]
    cases bp
    · go_wp2
      refine bodyPost_ret (v := .agg #[.slice A3 n3 c3, .slice A4 n4 c4]) (by simp [results, Try.results11, go_sem, hcy3]) rfl ?_
      rw [HP.out]
      exact ⟨_, fp, rfl, (HO3.out.stored (by omega) _ _).base (by omega), (by repeat' (first | with_reducible exact Below.refl _ _ | with_reducible assumption | with_reducible refine Below.drew ?_ | with_reducible refine Below.alloc ?_ ?_ _ | with_reducible refine Below.setCell ?_ ?_ _ | with_reducible refine below_drewN ?_ _ | (simp; done) | (simp; omega)))⟩
    · obtain rfl : bn = false := by simpa using hA
      go_wp2_with (go_at_call 19; refine (in_any n 1 100 _).mono ?_; rintro e w4 ⟨rfl, rfl⟩; rw [HBN.out])
      refine bodyPost_ret (v := .agg #[.slice A3 n3 c3, .slice A4 n4 c4]) (by simp [results, Try.results11, go_sem, hcy3]) rfl ?_
      rw [HP.out]
      exact ⟨_, fp, rfl, (HO3.out.stored (by omega) _ _).base (by omega), (by repeat' (first | with_reducible exact Below.refl _ _ | with_reducible assumption | with_reducible refine Below.drew ?_ | with_reducible refine Below.alloc ?_ ?_ _ | with_reducible refine Below.setCell ?_ ?_ _ | with_reducible refine below_drewN ?_ _ | (simp; done) | (simp; omega)))⟩
end Go.Proofs.Ytlhniekjdoeidaa
