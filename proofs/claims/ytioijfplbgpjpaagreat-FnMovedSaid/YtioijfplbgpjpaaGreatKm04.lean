/-
  The walks over the bounds of an item, a type, a pallet.
-/
import Derived.Test.YtioijfplbgpjpaaGreatKm00
import Derived.Test.YtioijfplbgpjpaaGreatKm01
import Derived.Test.YtioijfplbgpjpaaGreatKm03
import Derived.Test.YtioijfplbgpjpaaGreatKm02
import Derived.Deep.Light
import Derived.Deep.RegionHeld3
namespace Go.Proofs.YtioijfplbgpjpaaGreat
set_option linter.unusedVariables false
set_option linter.unusedSimpArgs false
set_option maxRecDepth 100000
open Go.RowKit
theorem dropC {α : Type} {xs : List α} {k : Nat} {x : α} (h : xs[k]? = some x) : xs.drop k = x :: xs.drop (k + 1) := by
 have hk := (List.getElem?_eq_some_iff.1 h).1
 rw [List.drop_eq_getElem_cons hk, (List.getElem?_eq_some_iff.1 h).2]
set_option maxHeartbeats 400000 in
theorem l2Side_any (a : Int) (w : World) : Calls Tryz.prog 337 #[.int .i64 a] w fun e w' => e = .returned (.bool (sideOk a)) ∧ w = w' := by
 go_enter Tryz.func337, Tryz.ntmps337
 go_wp2_with (go_at_call 104; refine (l1In_any _ _ _ _).mono ?_; rintro e w' ⟨rfl, rfl⟩)
 go_ret
 exact ⟨rfl, rfl⟩
set_option maxHeartbeats 400000 in
theorem sItemOk_any (x : Item) (w : World) : Calls Tryz.prog 294 #[x.val] w fun e w' => e = .returned (.bool (itemOk x)) ∧ Below w.heap.size w w' := by
 go_enter Tryz.func294, Tryz.ntmps294
 go_wp2_with (first | (go_at_call 337; refine (l2Side_any _ _).mono ?_; rintro e w' ⟨rfl, rfl⟩) | (go_at_call 292; refine (l2Id_any _ _).mono ?_; rintro e w' ⟨rfl, rfl⟩) | (go_at_call 104; refine (l1In_any _ _ _ _).mono ?_; rintro e w' ⟨rfl, rfl⟩))
 all_goals go_ret
 all_goals exact ⟨ret_bool (by simp [itemOk, *]), (by repeat' (first | with_reducible exact Below.refl _ _ | with_reducible assumption | with_reducible refine Below.drew ?_ | with_reducible refine Below.alloc ?_ ?_ _ | with_reducible refine Below.setCell ?_ ?_ _ | with_reducible refine below_drewN ?_ _ | (simp; done) | (simp; omega)))⟩
set_option maxHeartbeats 400000 in
theorem sTypeOk_any (x : GType) (w : World) : Calls Tryz.prog 293 #[x.val] w fun e w' => e = .returned (.bool (typeOk x)) ∧ Below w.heap.size w w' := by
 go_enter Tryz.func293, Tryz.ntmps293
 go_wp2_with (first | (go_at_call 337; refine (l2Side_any _ _).mono ?_; rintro e w' ⟨rfl, rfl⟩) | (go_at_call 292; refine (l2Id_any _ _).mono ?_; rintro e w' ⟨rfl, rfl⟩) | (go_at_call 104; refine (l1In_any _ _ _ _).mono ?_; rintro e w' ⟨rfl, rfl⟩))
 all_goals go_ret
 all_goals exact ⟨ret_bool (by simp [typeOk, *]), (by repeat' (first | with_reducible exact Below.refl _ _ | with_reducible assumption | with_reducible refine Below.drew ?_ | with_reducible refine Below.alloc ?_ ?_ _ | with_reducible refine Below.setCell ?_ ?_ _ | with_reducible refine below_drewN ?_ _ | (simp; done) | (simp; omega)))⟩
set_option maxHeartbeats 400000 in
theorem sPalletOk_any (x : Pallet) (w : World) : Calls Tryz.prog 291 #[x.val] w fun e w' => e = .returned (.bool (palletOk x)) ∧ Below w.heap.size w w' := by
 go_enter Tryz.func291, Tryz.ntmps291
 go_wp2_with (first | (go_at_call 337; refine (l2Side_any _ _).mono ?_; rintro e w' ⟨rfl, rfl⟩) | (go_at_call 104; refine (l1In_any _ _ _ _).mono ?_; rintro e w' ⟨rfl, rfl⟩))
 all_goals go_ret
 all_goals exact ⟨ret_bool (by simp [palletOk, *]), (by repeat' (first | with_reducible exact Below.refl _ _ | with_reducible assumption | with_reducible refine Below.drew ?_ | with_reducible refine Below.alloc ?_ ?_ _ | with_reducible refine Below.setCell ?_ ?_ _ | with_reducible refine below_drewN ?_ _ | (simp; done) | (simp; omega)))⟩
set_option maxHeartbeats 400000 in
theorem sBeside_any (v : Value) (ps : List Pair) (a b : Int) (w : World) (h : RPairs 16777216 w w.heap.size v ps) : Calls Tryz.prog 295 #[v, .int .i64 a, .int .i64 b] w fun e w' => e = .returned (.bool (beside ps a b)) ∧ w = w' := by
 have H := Lib.hid h
 obtain ⟨A, c, rfl, hbd, _⟩ := h
 go_enter Tryz.func295, Tryz.ntmps295
 go_wp2
 go_loop [7] (fun i => ∃ k : Nat, k ≤ ps.length ∧ i = .int .i64 k ∧ beside (ps.drop k) a b = beside ps a b) (fun i => ps.length - (intOf i).toNat)
 case atStart => exact ⟨0, Nat.zero_le _, rfl, rfl⟩
 case round =>
  obtain ⟨k, hk, rfl, hin⟩ := hrel
  by_cases hlt : k < ps.length
  ·obtain ⟨b', off, x, cs, rfl, hb, hx, _, rfl, hc⟩ := H.out.at_ k hlt
   have hc0 := hc 0 _ rfl
   have hc1 := hc 1 _ rfl
   simp only [Nat.add_zero] at hc0
   have HD := Lib.hid (show beside ps a b = ((x.a == a && x.b == b) || beside (ps.drop (k + 1)) a b) by rw [← hin, dropC hx]; rfl)
   clear hc hin
   go_wp2
   all_goals first | (go_ret; exact ⟨ret_bool (by rw [HD.out]; simp [*]), rfl⟩) | (go_round; (case rel => exact ⟨k + 1, by omega, by go_num, by rw [HD.out]; simp [*]⟩); (case measure => (simp [intOf]; omega)))
  ·have HD := Lib.hid (show beside ps a b = false by rw [← hin, List.drop_of_length_le (by omega)]; rfl)
   clear hin
   go_wp2
   go_ret
   exact ⟨ret_bool HD.out.symm, rfl⟩
end Go.Proofs.YtioijfplbgpjpaaGreat
namespace Go.Proofs.YtioijfplbgpjpaaGreat
set_option linter.unusedVariables false
set_option linter.unusedSimpArgs false
set_option maxRecDepth 100000
open Go.RowKit
set_option maxHeartbeats 1000000 in
theorem sMasterOf_any (v : Value) (r : Request) (w : World) (h : RReq 16777216 w w.heap.size v r) :
    Calls Tryz.prog 227 #[v] w fun e w' => e = .returned (.tuple #[(masterOf r).1.val, .bool (masterOf r).2]) ∧ Below w.heap.size w w' := by
  obtain ⟨A1, c1, A2, c2, A3, c3, rfl, ⟨_, H2, _⟩, _, hbt, _⟩ := h.opn
  have hq0 := lay_box0 w [.cells #[.int .i64 r.way, .int .i64 r.pallet.w, .int .i64 r.pallet.d, .int .i64 r.pallet.h, .int .i64 r.pallet.gram, .int .i64 r.classes, .slice A1 r.pairs.length c1, .slice A2 r.types.length c2, .int .i64 r.master, .slice A3 r.items.length c3] 41, .cells #[.int .i64 0, .int .i64 0, .int .i64 0, .int .i64 0, .int .i64 0, .int .i64 0, .int .i64 0] 142] _ _ rfl
  have hq1 := lay_box w [.cells #[.int .i64 r.way, .int .i64 r.pallet.w, .int .i64 r.pallet.d, .int .i64 r.pallet.h, .int .i64 r.pallet.gram, .int .i64 r.classes, .slice A1 r.pairs.length c1, .slice A2 r.types.length c2, .int .i64 r.master, .slice A3 r.items.length c3] 41, .cells #[.int .i64 0, .int .i64 0, .int .i64 0, .int .i64 0, .int .i64 0, .int .i64 0, .int .i64 0] 142] 1 _ _ rfl
  have hf1 := lay_free w [.cells #[.int .i64 r.way, .int .i64 r.pallet.w, .int .i64 r.pallet.d, .int .i64 r.pallet.h, .int .i64 r.pallet.gram, .int .i64 r.classes, .slice A1 r.pairs.length c1, .slice A2 r.types.length c2, .int .i64 r.master, .slice A3 r.items.length c3] 41, .cells #[.int .i64 0, .int .i64 0, .int .i64 0, .int .i64 0, .int .i64 0, .int .i64 0, .int .i64 0] 142] 1 _ _ rfl
  have HL := Lib.hid (lay_low w [.cells #[.int .i64 r.way, .int .i64 r.pallet.w, .int .i64 r.pallet.d, .int .i64 r.pallet.h, .int .i64 r.pallet.gram, .int .i64 r.classes, .slice A1 r.pairs.length c1, .slice A2 r.types.length c2, .int .i64 r.master, .slice A3 r.items.length c3] 41, .cells #[.int .i64 0, .int .i64 0, .int .i64 0, .int .i64 0, .int .i64 0, .int .i64 0, .int .i64 0] 142])
  go_enter Tryz.func227, Tryz.ntmps227
  go_wp2
  go_loopw [4] (fun i wr => ∃ (k : Nat) (X : Ext (w.heap.size + 2) (lay w [.cells #[.int .i64 r.way, .int .i64 r.pallet.w, .int .i64 r.pallet.d, .int .i64 r.pallet.h, .int .i64 r.pallet.gram, .int .i64 r.classes, .slice A1 r.pairs.length c1, .slice A2 r.types.length c2, .int .i64 r.master, .slice A3 r.items.length c3] 41, .cells #[.int .i64 0, .int .i64 0, .int .i64 0, .int .i64 0, .int .i64 0, .int .i64 0, .int .i64 0] 142])), wr = X.world ∧ k ≤ r.types.length ∧ i = .int .i64 k ∧ (r.types.drop k).find? (fun t => t.id == r.master) = r.types.find? (fun t => t.id == r.master)) (fun i _ => r.types.length - (intOf i).toNat)
  case atStart => exact ⟨0, Ext.here _ _, rfl, Nat.zero_le _, rfl, rfl⟩
  case round =>
    obtain ⟨k, X, rfl, hk, rfl, hin⟩ := hrel
    by_cases hlt : k < r.types.length
    · obtain ⟨b, off, x, rfl, hb, hx, hc⟩ := H2.out.flatX HL.out k hlt
      have hc0 := hc 0 _ rfl
      have hc1 := hc 1 _ rfl
      have hc2 := hc 2 _ rfl
      have hc3 := hc 3 _ rfl
      have hc4 := hc 4 _ rfl
      have hc5 := hc 5 _ rfl
      have hc6 := hc 6 _ rfl
      simp only [Nat.add_zero] at hc0
      obtain ⟨hl0, hl1⟩ : (0 : Int) ≤ (k : Int) ∧ (k : Int) < (r.types.length : Int) := by omega
      have HD := Lib.hid (show r.types.find? (fun t => t.id == r.master) = if (x.id == r.master) = true then some x else (r.types.drop (k + 1)).find? (fun t => t.id == r.master) by rw [← hin, dropC hx]; cases hq : (x.id == r.master) <;> simp [List.find?_cons, hq])
      clear hc hin
      go_wp2
      refine wp_region_in (by kernel_rfl) (by kernel_rfl) ?_
      repeat (go_big_quiet_step (fail))
      refine wpQuiet_nil ?_
      intro _ hw'
      obtain ⟨Y, rfl⟩ := hw'
      go_wp2
      all_goals first
        | (refine bodyPost_ret (v := .tuple #[x.val, .bool true]) (by simp [results, Tryz.results227, go_sem, hq1, hf1]) rfl ⟨?_, ?_⟩
           · rw [show masterOf r = (x, true) by unfold masterOf typeById; rw [HD.out, if_pos (by simp [*])]]
           · have := HL.out Y
             (repeat' (first | with_reducible exact Below.refl _ _ | with_reducible assumption | with_reducible refine Below.drew ?_ | with_reducible refine Below.alloc ?_ ?_ _ | with_reducible refine Below.setCell ?_ ?_ _ | with_reducible refine below_drewN ?_ _ | (simp; done) | (simp; omega))))
        | (go_roundw; (case rel => exact ⟨k + 1, Y, rfl, hlt, by go_num, by rw [HD.out, if_neg (by simp [*])]⟩); (case measure => (simp [intOf]; omega)))
    · have HD := Lib.hid (show r.types.find? (fun t => t.id == r.master) = none by rw [← hin, List.drop_of_length_le (by omega)]; rfl)
      clear hin
      go_wp2
      refine bodyPost_ret (v := .tuple #[.agg #[.int .i64 0, .int .i64 0, .int .i64 0, .int .i64 0, .int .i64 0, .int .i64 0, .int .i64 0], .bool false]) (by simp [results, Tryz.results227, go_sem, hq1, hf1]) rfl ⟨?_, ?_⟩
      · rw [show masterOf r = (⟨0, 0, 0, 0, 0, 0, 0⟩, false) by unfold masterOf typeById; rw [HD.out]]
      · have := HL.out X
        (repeat' (first | with_reducible exact Below.refl _ _ | with_reducible assumption | with_reducible refine Below.drew ?_ | with_reducible refine Below.alloc ?_ ?_ _ | with_reducible refine Below.setCell ?_ ?_ _ | with_reducible refine below_drewN ?_ _ | (simp; done) | (simp; omega)))
end Go.Proofs.YtioijfplbgpjpaaGreat
namespace Go.Proofs.YtioijfplbgpjpaaGreat
set_option linter.unusedVariables false
set_option linter.unusedSimpArgs false
set_option maxRecDepth 100000
open Go.RowKit
theorem all_cons {α : Type} {p : α → Bool} {xs : List α} {k : Nat} {x : α} (h : (xs.drop k).all p = xs.all p) (hx : xs[k]? = some x) : Hid (xs.all p = (p x && (xs.drop (k + 1)).all p)) := Lib.hid (by rw [← h, dropC hx]; rfl)
theorem all_end {α : Type} {p : α → Bool} {xs : List α} {k : Nat} (h : (xs.drop k).all p = xs.all p) (hk : ¬ k < xs.length) : Hid (xs.all p = true) := Lib.hid (by rw [← h, List.drop_of_length_le (by omega)]; rfl)
theorem sumCount_app (xs ys : List Item) : sumCount (xs ++ ys) = sumCount xs + sumCount ys := by
 induction xs with
 |nil => simp [sumCount]
 |cons x xs ih => simp only [List.cons_append, sumCount, ih]; omega
theorem sumCount_take {xs : List Item} {k : Nat} {x : Item} (h : xs[k]? = some x) : sumCount (xs.take (k + 1)) = sumCount (xs.take k) + x.count := by
 rw [List.take_add_one, h, sumCount_app]; simp [sumCount]
theorem item_count {x : Item} (h : itemOk x = true) : 1 ≤ x.count ∧ x.count ≤ 6 := by
 unfold itemOk inB at h; simp at h; omega
set_option maxHeartbeats 1000000 in
theorem sBoundsOk_any (v : Value) (r : Request) (w : World) (h : RReq 16777216 w w.heap.size v r) : Calls Tryz.prog 224 #[v] w fun e w' => e = .returned (.bool (boundsOk r)) ∧ Below w.heap.size w w' := by
 obtain ⟨A1, c1, A2, c2, A3, c3, rfl, ⟨H1, H2, H3⟩, hb1, hb2, hb3, _⟩ := h.opn
 have hq := lay_box0 w [.cells #[.int .i64 r.way, .int .i64 r.pallet.w, .int .i64 r.pallet.d, .int .i64 r.pallet.h, .int .i64 r.pallet.gram, .int .i64 r.classes, .slice A1 r.pairs.length c1, .slice A2 r.types.length c2, .int .i64 r.master, .slice A3 r.items.length c3] 41] _ _ rfl
 have HL := Lib.hid (lay_low w [.cells #[.int .i64 r.way, .int .i64 r.pallet.w, .int .i64 r.pallet.d, .int .i64 r.pallet.h, .int .i64 r.pallet.gram, .int .i64 r.classes, .slice A1 r.pairs.length c1, .slice A2 r.types.length c2, .int .i64 r.master, .slice A3 r.items.length c3] 41])
 have HP := extC (lay_le w [.cells #[.int .i64 r.way, .int .i64 r.pallet.w, .int .i64 r.pallet.d, .int .i64 r.pallet.h, .int .i64 r.pallet.gram, .int .i64 r.classes, .slice A1 r.pairs.length c1, .slice A2 r.types.length c2, .int .i64 r.master, .slice A3 r.items.length c3] 41]) fun X => sPalletOk_any r.pallet X.world
 have HT := fun x => extC (lay_le w [.cells #[.int .i64 r.way, .int .i64 r.pallet.w, .int .i64 r.pallet.d, .int .i64 r.pallet.h, .int .i64 r.pallet.gram, .int .i64 r.classes, .slice A1 r.pairs.length c1, .slice A2 r.types.length c2, .int .i64 r.master, .slice A3 r.items.length c3] 41]) fun X => sTypeOk_any x X.world
 have HI := fun x => extC (lay_le w [.cells #[.int .i64 r.way, .int .i64 r.pallet.w, .int .i64 r.pallet.d, .int .i64 r.pallet.h, .int .i64 r.pallet.gram, .int .i64 r.classes, .slice A1 r.pairs.length c1, .slice A2 r.types.length c2, .int .i64 r.master, .slice A3 r.items.length c3] 41]) fun X => sItemOk_any x X.world
 go_enter Tryz.func224, Tryz.ntmps224
 go_wp2_with (first | (go_at_call 104; refine (l1In_any _ _ _ _).mono ?_; rintro e w' ⟨rfl, rfl⟩) | (go_at_call 292; refine (l2Id_any _ _).mono ?_; rintro e w' ⟨rfl, rfl⟩) | (go_at_call 291; (first | refine (HP.out _).mono ?_ | refine (HP.out (Ext.here _ _)).mono ?_); rintro e w' ⟨rfl, Y, rfl⟩))
 all_goals first | (go_ret; go_light; exact ⟨ret_bool (by first | (simp [boundsOk, *]; done) | (simp [boundsOk, *]; intros; omega)), by first | exact HL.out _ | (repeat' (first | with_reducible exact Below.refl _ _ | with_reducible assumption | with_reducible refine Below.drew ?_ | with_reducible refine Below.alloc ?_ ?_ _ | with_reducible refine Below.setCell ?_ ?_ _ | with_reducible refine below_drewN ?_ _ | (simp; done) | (simp; omega)))⟩) | skip
 go_loopw [3] (fun i wr => ∃ (k : Nat) (X : Ext (w.heap.size + 1) (lay w [.cells #[.int .i64 r.way, .int .i64 r.pallet.w, .int .i64 r.pallet.d, .int .i64 r.pallet.h, .int .i64 r.pallet.gram, .int .i64 r.classes, .slice A1 r.pairs.length c1, .slice A2 r.types.length c2, .int .i64 r.master, .slice A3 r.items.length c3] 41])), wr = X.world ∧ k ≤ r.pairs.length ∧ i = .int .i64 k ∧ (r.pairs.drop k).all pairOk = r.pairs.all pairOk) (fun i _ => r.pairs.length - (intOf i).toNat)
 case atStart => exact ⟨0, _, rfl, Nat.zero_le _, rfl, rfl⟩
 case round =>
  obtain ⟨k, X, rfl, hk, rfl, hin⟩ := hrel
  by_cases hlt : k < r.pairs.length
  ·obtain ⟨b, off, x, rfl, hb, hx, hc⟩ := H1.out.flatX HL.out k hlt
   have hc0 := hc 0 _ rfl
   have hc1 := hc 1 _ rfl
   simp only [Nat.add_zero] at hc0
   have HD := all_cons hin hx
   clear hc hin
   go_wp2_with (go_at_call 104; refine (l1In_any _ _ _ _).mono ?_; rintro e w' ⟨rfl, rfl⟩)
   all_goals first
    |(go_ret; go_light; (try simp only [Bool.not_eq_true', Bool.not_eq_false'] at *); exact ⟨ret_bool (by simp [boundsOk, HD.out, pairOk, *]), HL.out _⟩)
    |(go_roundw; (case rel => go_light; (try simp only [Bool.not_eq_true', Bool.not_eq_false'] at *); exact ⟨k + 1, X, rfl, hlt, by go_num, by rw [HD.out]; simp [pairOk, *]⟩); (case measure => (simp [intOf]; omega)))
  ·have HD1 := all_end hin hlt
   clear hin
   go_wp2
   go_loopw [4] (fun i wr => ∃ (k : Nat) (X : Ext (w.heap.size + 1) (lay w [.cells #[.int .i64 r.way, .int .i64 r.pallet.w, .int .i64 r.pallet.d, .int .i64 r.pallet.h, .int .i64 r.pallet.gram, .int .i64 r.classes, .slice A1 r.pairs.length c1, .slice A2 r.types.length c2, .int .i64 r.master, .slice A3 r.items.length c3] 41])), wr = X.world ∧ k ≤ r.types.length ∧ i = .int .i64 k ∧ (r.types.drop k).all typeOk = r.types.all typeOk) (fun i _ => r.types.length - (intOf i).toNat)
   case atStart => exact ⟨0, _, rfl, Nat.zero_le _, rfl, rfl⟩
   case round =>
    obtain ⟨k2, X2, rfl, hk2, rfl, hin⟩ := hrel
    by_cases hlt2 : k2 < r.types.length
    ·obtain ⟨b, off, x, rfl, hb, hx, hc⟩ := H2.out.flatX HL.out k2 hlt2
     have hc0 := hc 0 _ rfl
     have hc1 := hc 1 _ rfl
     have hc2 := hc 2 _ rfl
     have hc3 := hc 3 _ rfl
     have hc4 := hc 4 _ rfl
     have hc5 := hc 5 _ rfl
     have hc6 := hc 6 _ rfl
     simp only [Nat.add_zero] at hc0
     have HD := all_cons hin hx
     have HTx := HT x
     clear hc hin
     go_wp2_with (go_at_call 293; (first | refine (HTx.out _).mono ?_ | refine (HTx.out (Ext.here _ _)).mono ?_); rintro e w' ⟨rfl, Y, rfl⟩)
     all_goals first
      |(go_ret; go_light; (try simp only [Bool.not_eq_true', Bool.not_eq_false'] at *); exact ⟨ret_bool (by simp [boundsOk, HD.out, *]), HL.out _⟩)
      |(go_roundw; (case rel => go_light; (try simp only [Bool.not_eq_true', Bool.not_eq_false'] at *); exact ⟨k2 + 1, Y, rfl, hlt2, by go_num, by rw [HD.out]; simp [*]⟩); (case measure => (simp [intOf]; omega)))
    ·have HD2 := all_end hin hlt2
     clear hin
     go_wp2
     go_loopw [5, 6] (fun u i wr => ∃ (k : Nat) (m : Int) (X : Ext (w.heap.size + 1) (lay w [.cells #[.int .i64 r.way, .int .i64 r.pallet.w, .int .i64 r.pallet.d, .int .i64 r.pallet.h, .int .i64 r.pallet.gram, .int .i64 r.classes, .slice A1 r.pairs.length c1, .slice A2 r.types.length c2, .int .i64 r.master, .slice A3 r.items.length c3] 41])), wr = X.world ∧ k ≤ r.items.length ∧ i = .int .i64 k ∧ u = .int .i64 m ∧ 0 ≤ m ∧ m ≤ 6 * k ∧ m = sumCount (r.items.take k) ∧ (r.items.drop k).all itemOk = r.items.all itemOk) (fun _ i _ => r.items.length - (intOf i).toNat)
     case atStart => exact ⟨0, 0, _, rfl, Nat.zero_le _, rfl, rfl, by omega, by omega, rfl, rfl⟩
     case round =>
      obtain ⟨k3, m, X3, rfl, hk3, rfl, rfl, hm0, hm1, hm, hin⟩ := hrel
      have HM := Lib.hid hm
      clear hm
      by_cases hlt3 : k3 < r.items.length
      ·obtain ⟨b, off, x, rfl, hb, hx, hc⟩ := H3.out.flatX HL.out k3 hlt3
       have hc0 := hc 0 _ rfl
       have hc1 := hc 1 _ rfl
       have hc2 := hc 2 _ rfl
       have hc3 := hc 3 _ rfl
       have hc4 := hc 4 _ rfl
       have hc5 := hc 5 _ rfl
       have hc6 := hc 6 _ rfl
       simp only [Nat.add_zero] at hc0
       have HD := all_cons hin hx
       have HIx := HI x
       have HS := Lib.hid (sumCount_take hx)
       obtain ⟨q, hq⟩ : ∃ q, itemOk x = q := ⟨_, rfl⟩
       have HQ := Lib.hid hq
       rw [hq] at HIx
       clear hc hin hq
       cases q
       ·go_wp2_with (go_at_call 294; (first | refine (HIx.out _).mono ?_ | refine (HIx.out (Ext.here _ _)).mono ?_); rintro e w' ⟨rfl, Y, rfl⟩)
        go_ret
        go_light
        exact ⟨ret_bool (by simp [boundsOk, HD.out, HQ.out]), HL.out _⟩
       ·obtain ⟨hx0, hx1⟩ := item_count HQ.out
        go_wp2_with (go_at_call 294; (first | refine (HIx.out _).mono ?_ | refine (HIx.out (Ext.here _ _)).mono ?_); rintro e w' ⟨rfl, Y, rfl⟩)
        go_roundw
        case rel => go_light; exact ⟨k3 + 1, m + x.count, Y, rfl, hlt3, by go_num, rfl, by omega, by omega, by rw [HS.out, HM.out], by rw [HD.out, HQ.out]; simp⟩
        case measure => simp [intOf]; omega
      ·have HD3 := all_end hin hlt3
       rw [List.take_of_length_le (by omega)] at HM
       clear hin
       go_wp2
       all_goals go_ret
       all_goals go_light
       all_goals exact ⟨ret_bool (by simp [boundsOk, HD1.out, HD2.out, HD3.out, ← HM.out, *]; try omega), HL.out _⟩
end Go.Proofs.YtioijfplbgpjpaaGreat
namespace Go.Proofs.YtioijfplbgpjpaaGreat
set_option linter.unusedVariables false
set_option linter.unusedSimpArgs false
set_option maxRecDepth 100000
open Go.RowKit
def tabG (ps : List Pair) (a b : Nat) : Bool := !(a == b && !beside ps a a) && (beside ps a b == beside ps b a)
def tabRow (ps : List Pair) (n a : Nat) : Bool := (List.range n).all fun b => tabG ps a b
theorem tableOk_rows (ps : List Pair) (n : Nat) : tableOk ps n = (inB n 1 4 && (List.range n).all fun a => tabRow ps n a) := by
 unfold tableOk
 rw [Int.toNat_natCast]
 congr 1
 rw [Bool.eq_iff_iff]
 simp only [List.all_eq_true, List.mem_range, tabRow, tabG, Bool.and_eq_true, Bool.not_eq_true', Bool.and_eq_false_iff, beq_iff_eq, Bool.not_eq_false', beq_eq_false_iff_ne]
 constructor
 ·intro h a ha b hb
  refine ⟨?_, (h a ha).2 b hb⟩
  by_cases e : a = b
  ·exact .inr (h a ha).1
  ·exact .inl e
 ·intro h a ha
  refine ⟨?_, fun b hb => (h a ha b hb).2⟩
  rcases (h a ha a ha).1 with e | e
  ·exact absurd rfl e
  ·exact e
set_option maxHeartbeats 1000000 in
theorem sTableOk_any (v : Value) (ps : List Pair) (n : Int) (w : World) (h : RPairs 16777216 w w.heap.size v ps) : Calls Tryz.prog 226 #[v, .int .i64 n] w fun e w' => e = .returned (.bool (tableOk ps n)) ∧ w = w' := by
 have HB := Lib.hid (fun a b => sBeside_any v ps a b w h)
 obtain ⟨A, c, rfl, hbd, _⟩ := h
 obtain ⟨q, hq⟩ : ∃ q, inB n 1 4 = q := ⟨_, rfl⟩
 have HQ := Lib.hid hq
 cases q
 ·have HT := Lib.hid (show tableOk ps n = false by unfold tableOk; rw [hq]; rfl)
  clear hq
  go_enter Tryz.func226, Tryz.ntmps226
  go_wp2_with (go_at_call 104; refine (l1In_any n 1 4 _).mono ?_; rintro e w' ⟨rfl, rfl⟩; rw [HQ.out])
  go_ret
  exact ⟨ret_bool HT.out.symm, rfl⟩
 ·have hn := hq
  unfold inB at hn
  simp only [Bool.and_eq_true, decide_eq_true_eq] at hn
  obtain ⟨N, rfl⟩ : ∃ N : Nat, n = N := ⟨n.toNat, by omega⟩
  have HT := Lib.hid (show tableOk ps N = (List.range N).all fun a => tabRow ps N a by rw [tableOk_rows, hq]; rfl)
  obtain ⟨hn1, hn4⟩ := hn
  clear hq
  go_enter Tryz.func226, Tryz.ntmps226
  go_wp2_with (go_at_call 104; refine (l1In_any (N : Int) 1 4 _).mono ?_; rintro e w' ⟨rfl, rfl⟩; rw [HQ.out])
  go_loop [5] (fun i => ∃ k : Nat, k ≤ N ∧ i = .int .i64 k ∧ ∀ i, i < k → tabRow ps N i = true) (fun i => N - (intOf i).toNat)
  case atStart => exact ⟨0, Nat.zero_le _, rfl, fun _ h => by omega⟩
  case round =>
   obtain ⟨k, hk, rfl, hno⟩ := hrel
   have HN := Lib.hid hno
   clear hno
   by_cases hlt : k < N
   ·go_wp2
    go_loop [6] (fun i => ∃ m : Nat, m ≤ N ∧ i = .int .i64 m ∧ ∀ i, i < m → tabG ps k i = true) (fun i => N - (intOf i).toNat)
    case atStart => exact ⟨0, Nat.zero_le _, rfl, fun _ h => by omega⟩
    case round =>
     obtain ⟨m, hm, rfl, hno⟩ := hrel
     have HN2 := Lib.hid hno
     clear hno
     by_cases hlt2 : m < N
     ·have HG := Lib.hid (show tabG ps k m = (!((k : Int) == (m : Int) && !beside ps k k) && (beside ps k m == beside ps m k)) by
       unfold tabG; congr 3; rw [Bool.eq_iff_iff]; simp; exact ⟨fun h => by omega, fun h => by omega⟩)
      have B1 := HB.out k k
      have B2 := HB.out k m
      have B3 := HB.out m k
      obtain ⟨b1, hb1⟩ : ∃ b, beside ps k k = b := ⟨_, rfl⟩
      obtain ⟨b2, hb2⟩ : ∃ b, beside ps k m = b := ⟨_, rfl⟩
      obtain ⟨b3, hb3⟩ : ∃ b, beside ps m k = b := ⟨_, rfl⟩
      rw [hb1] at B1 HG
      rw [hb2] at B2 HG
      rw [hb3] at B3 HG
      have B1 := Lib.hid B1
      have B2 := Lib.hid B2
      have B3 := Lib.hid B3
      have HX := Lib.hid (fun h : tabG ps k m = false => range_all_false (f := fun a => tabRow ps N a) hlt (by unfold tabRow; exact range_all_false hlt2 h))
      have HY := Lib.hid (fun h : tabG ps k m = true => below_step (f := fun i => tabG ps k i) HN2.out h)
      obtain ⟨e, he⟩ : ∃ e, ((k : Int) == (m : Int)) = e := ⟨_, rfl⟩
      rw [he] at HG
      clear hb1 hb2 hb3
      cases e <;> cases b1 <;> cases b2 <;> cases b3
      all_goals
       go_wp2_with (go_at_call 295; (first | (with_reducible refine (B1.out).mono ?_) | (with_reducible refine (B2.out).mono ?_) | (with_reducible refine (B3.out).mono ?_)); rintro e w' ⟨rfl, rfl⟩)
      all_goals first
       |(go_ret; exact ⟨ret_bool (by rw [HT.out, HX.out (by simp [HG.out])]), rfl⟩)
       |(go_round; (case rel => exact ⟨m + 1, hlt2, by go_num, HY.out (by simp [HG.out])⟩); (case measure => (simp [intOf]; omega)))
     ·have HR := Lib.hid (show tabRow ps N k = true by unfold tabRow; exact range_all_true (fun i hi => HN2.out i (by omega)))
      have HS := Lib.hid (below_step (f := fun i => tabRow ps N i) HN.out HR.out)
      go_wp2
      go_round
      case rel => exact ⟨k + 1, hlt, by go_num, HS.out⟩
      case measure => simp [intOf]; omega
   ·have HR := Lib.hid (show tableOk ps N = true by rw [HT.out]; exact range_all_true (fun i hi => HN.out i (by omega)))
    go_wp2
    go_ret
    exact ⟨ret_bool HR.out.symm, rfl⟩
end Go.Proofs.YtioijfplbgpjpaaGreat
namespace Go.Proofs.YtioijfplbgpjpaaGreat
set_option linter.unusedVariables false
set_option linter.unusedSimpArgs false
set_option maxRecDepth 100000
open Go.RowKit
theorem any_cons {α : Type} {p : α → Bool} {xs : List α} {k : Nat} {x : α} (h : (xs.drop k).any p = xs.any p) (hx : xs[k]? = some x) : Hid (xs.any p = (p x || (xs.drop (k + 1)).any p)) := Lib.hid (by rw [← h, dropC hx]; rfl)
theorem any_end {α : Type} {p : α → Bool} {xs : List α} {k : Nat} (h : (xs.drop k).any p = xs.any p) (hk : ¬ k < xs.length) : Hid (xs.any p = false) := Lib.hid (by rw [← h, List.drop_of_length_le (by omega)]; rfl)
theorem beq_ne {a b : Int} (h : (a == b) = false) : ¬ b = a := fun e => by rw [e] at h; simp at h
theorem take_get {α : Type} {xs : List α} {i k : Nat} {x : α} (h : xs[k]? = some x) (hk : k < i) : (xs.take i)[k]? = some x := by rw [List.getElem?_take, if_pos hk]; exact h
theorem names_types {r : Request} (h : ((List.range r.types.length).all fun i => !typeDup r.types i) = false) : Hid (namesOk r = false) := Lib.hid (by unfold namesOk; rw [h]; rfl)
theorem names_items {r : Request} (h : ((List.range r.items.length).all fun i => !itemBad r.classes r.items i) = false) : Hid (namesOk r = false) := Lib.hid (by unfold namesOk; rw [h]; simp)
theorem names_pairs {r : Request} (h : r.pairs.any (pairOut r.classes) = true) : Hid (namesOk r = false) := Lib.hid (by unfold namesOk; rw [h]; simp)
theorem names_all {r : Request} (h1 : ((List.range r.types.length).all fun i => !typeDup r.types i) = true) (h2 : ((List.range r.items.length).all fun i => !itemBad r.classes r.items i) = true) (h3 : r.pairs.any (pairOut r.classes) = false) : Hid (namesOk r = (masterOf r).2) := Lib.hid (by unfold namesOk; rw [h1, h2, h3]; simp)
set_option maxHeartbeats 1000000 in
theorem l5Names_any (v : Value) (r : Request) (w : World) (h : RReq 16777216 w w.heap.size v r) : Calls Tryz.prog 225 #[v] w fun e w' => e = .returned (.bool (namesOk r)) ∧ Below w.heap.size w w' := by
 have HRQ := Lib.hid h
 obtain ⟨A1, c1, A2, c2, A3, c3, rfl, ⟨H1, H2, H3⟩, hb1, hb2, hb3, _⟩ := h.opn
 have hq := lay_box0 w [.cells #[.int .i64 r.way, .int .i64 r.pallet.w, .int .i64 r.pallet.d, .int .i64 r.pallet.h, .int .i64 r.pallet.gram, .int .i64 r.classes, .slice A1 r.pairs.length c1, .slice A2 r.types.length c2, .int .i64 r.master, .slice A3 r.items.length c3] 41] _ _ rfl
 have HL := Lib.hid (lay_low w [.cells #[.int .i64 r.way, .int .i64 r.pallet.w, .int .i64 r.pallet.d, .int .i64 r.pallet.h, .int .i64 r.pallet.gram, .int .i64 r.classes, .slice A1 r.pairs.length c1, .slice A2 r.types.length c2, .int .i64 r.master, .slice A3 r.items.length c3] 41])
 have HM := extC (lay_le w [.cells #[.int .i64 r.way, .int .i64 r.pallet.w, .int .i64 r.pallet.d, .int .i64 r.pallet.h, .int .i64 r.pallet.gram, .int .i64 r.classes, .slice A1 r.pairs.length c1, .slice A2 r.types.length c2, .int .i64 r.master, .slice A3 r.items.length c3] 41]) fun X => sMasterOf_any _ r X.world (HRQ.out.next (HL.out X))
 obtain ⟨mm, hmm⟩ : ∃ m, masterOf r = m := ⟨_, rfl⟩
 have HMM := Lib.hid hmm
 rw [hmm] at HM
 obtain ⟨mt, mo⟩ := mm
 clear hmm
 go_enter Tryz.func225, Tryz.ntmps225
 go_wp2
 go_loopw [3] (fun i wr => ∃ (k : Nat) (X : Ext (w.heap.size + 1) (lay w [.cells #[.int .i64 r.way, .int .i64 r.pallet.w, .int .i64 r.pallet.d, .int .i64 r.pallet.h, .int .i64 r.pallet.gram, .int .i64 r.classes, .slice A1 r.pairs.length c1, .slice A2 r.types.length c2, .int .i64 r.master, .slice A3 r.items.length c3] 41])), wr = X.world ∧ k ≤ r.types.length ∧ i = .int .i64 k ∧ ∀ i, i < k → (!typeDup r.types i) = true) (fun i _ => r.types.length - (intOf i).toNat)
 case atStart => exact ⟨0, Ext.here _ _, rfl, Nat.zero_le _, rfl, fun _ h => by omega⟩
 case round =>
  obtain ⟨k, X, rfl, hk, rfl, hno⟩ := hrel
  have HN := Lib.hid hno
  clear hno
  by_cases hlt : k < r.types.length
  ·obtain ⟨b, off, x, rfl, hb, hx, hc⟩ := H2.out.flatX HL.out k hlt
   have hc0 := hc 0 _ rfl
   simp only [Nat.add_zero] at hc0
   have HX := Lib.hid hx
   have HTD := Lib.hid (show typeDup r.types k = (r.types.take k).any fun q => q.id == x.id by unfold typeDup; rw [getD_some hx])
   obtain ⟨hl0, hl1⟩ : (0 : Int) ≤ (k : Int) ∧ (k : Int) < (r.types.length : Int) := by omega
   clear hc hx
   go_wp2
   go_loopw [4] (fun i wr => ∃ (m : Nat) (X : X.Of), wr = X.world ∧ m ≤ k ∧ i = .int .i64 m ∧ ((r.types.take k).drop m).any (fun q => q.id == x.id) = (r.types.take k).any (fun q => q.id == x.id)) (fun i _ => k - (intOf i).toNat)
   case atStart => exact ⟨0, X, rfl, Nat.zero_le _, rfl, rfl⟩
   case round =>
    obtain ⟨m, X2, rfl, hm, rfl, hin⟩ := hrel
    by_cases hlt2 : m < k
    ·obtain ⟨b', off', y, hA, hb', hy, hd⟩ := H2.out.flatX HL.out m (by omega)
     cases hA
     have hd0 := hd 0 _ rfl
     simp only [Nat.add_zero] at hd0
     obtain ⟨hl2, hl3⟩ : (0 : Int) ≤ (m : Int) ∧ (m : Int) < (r.types.length : Int) := by omega
     have HD := any_cons hin (take_get hy hlt2)
     have HF := Lib.hid (fun h : typeDup r.types k = true => names_types (range_all_false (f := fun i => !typeDup r.types i) hlt (by rw [h]; rfl)))
     clear hd hin hy
     go_wp2
     refine wp_region_in (by kernel_rfl) (by kernel_rfl) ?_; (repeat (go_big_quiet_step (fail))); refine wpQuiet_nil ?_; intro _ hw'; obtain ⟨Y, rfl⟩ := hw'
     go_wp2
     all_goals first
      |(go_ret; go_light; exact ⟨ret_bool (HF.out (by have he : y.id = x.id := (beq_iff_eq.1 (by assumption : (x.id == y.id) = true)).symm; rw [HTD.out, HD.out]; simp [he])).out.symm, HL.out _⟩)
      |(go_roundw; (case rel => go_light; exact ⟨m + 1, Y, rfl, hlt2, by go_num, by have hne : ¬ y.id = x.id := beq_ne (by assumption : (x.id == y.id) = false); rw [HD.out]; simp [hne]⟩); (case measure => (simp [intOf]; omega)))
    ·have HD := any_end hin (by rw [List.length_take]; omega)
     have HS := Lib.hid (below_step (f := fun i => !typeDup r.types i) HN.out (by rw [HTD.out, HD.out]; rfl))
     clear hin
     go_wp2
     go_roundw
     case rel => exact ⟨k + 1, X2, rfl, hlt, by go_num, HS.out⟩
     case measure => simp [intOf]; omega
  ·have HT := Lib.hid (range_all_true (f := fun i => !typeDup r.types i) (n := r.types.length) (fun i hi => HN.out i (by omega)))
   go_wp2
   go_loopw [5] (fun i wr => ∃ (k : Nat) (X : X.Of), wr = X.world ∧ k ≤ r.items.length ∧ i = .int .i64 k ∧ ∀ i, i < k → (!itemBad r.classes r.items i) = true) (fun i _ => r.items.length - (intOf i).toNat)
   case atStart => exact ⟨0, X, rfl, Nat.zero_le _, rfl, fun _ h => by omega⟩
   case round =>
    obtain ⟨k, X, rfl, hk, rfl, hno⟩ := hrel
    have HN := Lib.hid hno
    clear hno
    by_cases hlt : k < r.items.length
    ·obtain ⟨b, off, x, rfl, hb, hx, hc⟩ := H3.out.flatX HL.out k hlt
     have hc0 := hc 0 _ rfl
     have hc5 := hc 5 _ rfl
     simp only [Nat.add_zero] at hc0
     have HTD := Lib.hid (show itemBad r.classes r.items k = (decide (r.classes ≤ x.cls) || (r.items.take k).any fun q => q.id == x.id) by unfold itemBad itemDup; rw [getD_some hx])
     have HF := Lib.hid (fun h : itemBad r.classes r.items k = true => names_items (range_all_false (f := fun i => !itemBad r.classes r.items i) hlt (by rw [h]; rfl)))
     obtain ⟨hl0, hl1⟩ : (0 : Int) ≤ (k : Int) ∧ (k : Int) < (r.items.length : Int) := by omega
     clear hc hx
     by_cases hcl : r.classes ≤ x.cls
     ·go_wp2
      refine wp_region_in (by kernel_rfl) (by kernel_rfl) ?_; (repeat (go_big_quiet_step (fail))); refine wpQuiet_nil ?_; intro _ hw'; obtain ⟨Y, rfl⟩ := hw'
      go_wp2
      go_ret
      go_light
      exact ⟨ret_bool (HF.out (by rw [HTD.out]; simp [hcl])).out.symm, HL.out _⟩
     have hcl' : x.cls < r.classes := by omega
     go_wp2
     refine wp_region_in (by kernel_rfl) (by kernel_rfl) ?_; (repeat (go_big_quiet_step (fail))); refine wpQuiet_nil ?_; intro _ hw'; obtain ⟨Y, rfl⟩ := hw'
     go_wp2
     go_loopw [6] (fun i wr => ∃ (m : Nat) (X : X.Of), wr = X.world ∧ m ≤ k ∧ i = .int .i64 m ∧ ((r.items.take k).drop m).any (fun q => q.id == x.id) = (r.items.take k).any (fun q => q.id == x.id)) (fun i _ => k - (intOf i).toNat)
     case atStart => exact ⟨0, Y, rfl, Nat.zero_le _, rfl, rfl⟩
     case round =>
      obtain ⟨m, X2, rfl, hm, rfl, hin⟩ := hrel
      by_cases hlt2 : m < k
      ·obtain ⟨b', off', y, hA, hb', hy, hd⟩ := H3.out.flatX HL.out m (by omega)
       cases hA
       have hd0 := hd 0 _ rfl
       simp only [Nat.add_zero] at hd0
       obtain ⟨hl2, hl3⟩ : (0 : Int) ≤ (m : Int) ∧ (m : Int) < (r.items.length : Int) := by omega
       have HD := any_cons hin (take_get hy hlt2)
       clear hd hin hy
       go_wp2
       refine wp_region_in (by kernel_rfl) (by kernel_rfl) ?_; (repeat (go_big_quiet_step (fail))); refine wpQuiet_nil ?_; intro _ hw'; obtain ⟨Y, rfl⟩ := hw'
       go_wp2
       all_goals first
        |(go_ret; go_light; exact ⟨ret_bool (HF.out (by have he : y.id = x.id := (beq_iff_eq.1 (by assumption : (x.id == y.id) = true)).symm; rw [HTD.out, HD.out]; simp [he])).out.symm, HL.out _⟩)
        |(go_roundw; (case rel => go_light; exact ⟨m + 1, Y, rfl, hlt2, by go_num, by have hne : ¬ y.id = x.id := beq_ne (by assumption : (x.id == y.id) = false); rw [HD.out]; simp [hne]⟩); (case measure => (simp [intOf]; omega)))
      ·have HD := any_end hin (by rw [List.length_take]; omega)
       have HS := Lib.hid (below_step (f := fun i => !itemBad r.classes r.items i) HN.out (by rw [HTD.out, HD.out]; simp; omega))
       clear hin
       go_wp2
       go_roundw
       case rel => exact ⟨k + 1, X2, rfl, hlt, by go_num, HS.out⟩
       case measure => simp [intOf]; omega
    ·have HU := Lib.hid (range_all_true (f := fun i => !itemBad r.classes r.items i) (n := r.items.length) (fun i hi => HN.out i (by omega)))
     go_wp2
     go_loopw [7] (fun i wr => ∃ (k : Nat) (X : X.Of), wr = X.world ∧ k ≤ r.pairs.length ∧ i = .int .i64 k ∧ (r.pairs.drop k).any (pairOut r.classes) = r.pairs.any (pairOut r.classes)) (fun i _ => r.pairs.length - (intOf i).toNat)
     case atStart => exact ⟨0, X, rfl, Nat.zero_le _, rfl, rfl⟩
     case round =>
      obtain ⟨k, X, rfl, hk, rfl, hin⟩ := hrel
      by_cases hlt : k < r.pairs.length
      ·obtain ⟨b, off, x, rfl, hb, hx, hc⟩ := H1.out.flatX HL.out k hlt
       have hc0 := hc 0 _ rfl; have hc1 := hc 1 _ rfl; simp only [Nat.add_zero] at hc0
       have HD := any_cons hin hx
       obtain ⟨hl0, hl1⟩ : (0 : Int) ≤ (k : Int) ∧ (k : Int) < (r.pairs.length : Int) := by omega
       clear hc hx hin
       by_cases ha : r.classes ≤ x.a
       ·go_wp2
        refine wp_region_in (by kernel_rfl) (by kernel_rfl) ?_; (repeat (go_big_quiet_step (fail))); refine wpQuiet_nil ?_; intro _ hw'; obtain ⟨Y, rfl⟩ := hw'
        go_wp2
        go_ret
        go_light
        exact ⟨ret_bool (names_pairs (by rw [HD.out]; simp [pairOut, ha])).out.symm, HL.out _⟩
       have ha' : decide (r.classes ≤ x.a) = false := by simp; omega
       by_cases hb' : r.classes ≤ x.b
       ·have hb2 : decide (r.classes ≤ x.b) = true := by simp; omega
        go_wp2
        refine wp_region_in (by kernel_rfl) (by kernel_rfl) ?_; (repeat (go_big_quiet_step (fail))); refine wpQuiet_nil ?_; intro _ hw'; obtain ⟨Y, rfl⟩ := hw'
        go_wp2
        go_ret
        go_light
        exact ⟨ret_bool (names_pairs (by rw [HD.out]; simp [pairOut, hb'])).out.symm, HL.out _⟩
       have hb2 : decide (r.classes ≤ x.b) = false := by simp; omega
       have HP := Lib.hid (show pairOut r.classes x = false by unfold pairOut; rw [ha', hb2]; rfl)
       go_wp2
       refine wp_region_in (by kernel_rfl) (by kernel_rfl) ?_; (repeat (go_big_quiet_step (fail))); refine wpQuiet_nil ?_; intro _ hw'; obtain ⟨Y, rfl⟩ := hw'
       go_wp2
       go_roundw
       case rel => exact ⟨k + 1, Y, rfl, hlt, by go_num, by rw [HD.out, HP.out]; rfl⟩
       case measure => simp [intOf]; omega
      ·have HE := any_end hin hlt
       have HA := Lib.hid (names_all HT.out HU.out HE.out)
       clear hin
       go_wp2_with (go_at_call 227; (first | refine (HM.out _).mono ?_ | refine (HM.out (Ext.here _ _)).mono ?_); rintro e w' ⟨rfl, Y, rfl⟩)
       go_ret
       go_light
       have hy1 := HL.out Y
       have hy2 := hy1.size
       exact ⟨ret_bool (by rw [HA.out.out, HMM.out]), (by repeat' (first | with_reducible exact Below.refl _ _ | with_reducible assumption | with_reducible refine Below.drew ?_ | with_reducible refine Below.alloc ?_ ?_ _ | with_reducible refine Below.setCell ?_ ?_ _ | with_reducible refine below_drewN ?_ _ | (simp; done) | (simp; omega)))⟩
end Go.Proofs.YtioijfplbgpjpaaGreat
namespace Go.Proofs.YtioijfplbgpjpaaGreat
set_option linter.unusedVariables false
set_option linter.unusedSimpArgs false
set_option maxRecDepth 100000
open Go.RowKit
theorem OPlan.base {w : World} {B B' : Nat} {v : Value} {p : Plan} {fp : List Nat} (h : OPlan w B v p fp) (hB : B' ≤ B) : OPlan w B' v p fp := by
 obtain ⟨v1, v2, f1, f2, rfl, h1, h2, rfl, hn⟩ := h
 exact ⟨v1, v2, f1, f2, rfl, OL.base h1 hB, OL.base h2 hB, rfl, hn⟩
theorem OPlan.stored {w : World} {B g : Nat} {v : Value} {p : Plan} {fp : List Nat} (h : OPlan w B v p fp) (hg : g < B) (u1 u2 : Value) : OPlan ((w.setCell ⟨g, 0, none⟩ u1).setCell ⟨g, 1, none⟩ u2) B v p fp := by
 refine OPlan.keep h (by simp) (fun b hb => ?_)
 have := (h.lt b hb).1
 rw [Below.heap_setCell, Below.heap_setCell] <;> simp <;> omega
end Go.Proofs.YtioijfplbgpjpaaGreat
