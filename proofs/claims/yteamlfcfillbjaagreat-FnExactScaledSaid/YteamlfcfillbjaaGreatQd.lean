/-
  The walks over BoundsOk, both sides.
-/
import Derived.Test.YteamlfcfillbjaaGreatQc
import Derived.Deep.Light
namespace Go.Proofs.YteamlfcfillbjaaGreat
set_option linter.unusedVariables false
set_option linter.unusedSimpArgs false
set_option maxRecDepth 100000
open Go.RowKit
theorem all_cons {α : Type} {p : α → Bool} {xs : List α} {k : Nat} {x : α} (h : (xs.drop k).all p = xs.all p) (hx : xs[k]? = some x) : Hid (xs.all p = (p x && (xs.drop (k + 1)).all p)) := Lib.hid (by rw [← h, dropC hx]; rfl)
theorem all_end {α : Type} {p : α → Bool} {xs : List α} {k : Nat} (h : (xs.drop k).all p = xs.all p) (hk : ¬ k < xs.length) : Hid (xs.all p = true) := Lib.hid (by rw [← h, List.drop_of_length_le (by omega)]; rfl)
theorem sumCount_app (xs ys : List Item) : sumCount (xs ++ ys) = sumCount xs + sumCount ys := by
  induction xs with
  | nil => simp [sumCount]
  | cons x xs ih => simp only [List.cons_append, sumCount, ih]; omega
theorem sumCount_take {xs : List Item} {k : Nat} {x : Item} (h : xs[k]? = some x) : sumCount (xs.take (k + 1)) = sumCount (xs.take k) + x.count := by
  rw [List.take_add_one, h, sumCount_app]; simp [sumCount]
theorem item_count {x : Item} (h : itemOk x = true) : 1 ≤ x.count ∧ x.count ≤ 6 := by
  unfold itemOk inB at h; simp at h; omega
set_option maxHeartbeats 1000000 in
theorem sBoundsOk_any (v : Value) (r : Request) (w : World) (h : RReq 16777216 w w.heap.size v r) : Calls Tryz.prog 52 #[v] w fun e w' => e = .returned (.bool (boundsOk r)) ∧ Below w.heap.size w w' := by
  obtain ⟨A1, c1, A2, c2, A3, c3, rfl, ⟨H1, H2, H3⟩, hb1, hb2, hb3, _⟩ := h.opn
  have hq := lay_box0 w [.cells #[.int .i64 r.way, .int .i64 r.pallet.w, .int .i64 r.pallet.d, .int .i64 r.pallet.h, .int .i64 r.pallet.gram, .int .i64 r.classes, .slice A1 r.pairs.length c1, .slice A2 r.types.length c2, .int .i64 r.master, .slice A3 r.items.length c3] 37] _ _ rfl
  have HL := Lib.hid (lay_low w [.cells #[.int .i64 r.way, .int .i64 r.pallet.w, .int .i64 r.pallet.d, .int .i64 r.pallet.h, .int .i64 r.pallet.gram, .int .i64 r.classes, .slice A1 r.pairs.length c1, .slice A2 r.types.length c2, .int .i64 r.master, .slice A3 r.items.length c3] 37])
  have HP := extC (lay_le w [.cells #[.int .i64 r.way, .int .i64 r.pallet.w, .int .i64 r.pallet.d, .int .i64 r.pallet.h, .int .i64 r.pallet.gram, .int .i64 r.classes, .slice A1 r.pairs.length c1, .slice A2 r.types.length c2, .int .i64 r.master, .slice A3 r.items.length c3] 37]) fun X => sPalletOk_any r.pallet X.world
  have HT := fun x => extC (lay_le w [.cells #[.int .i64 r.way, .int .i64 r.pallet.w, .int .i64 r.pallet.d, .int .i64 r.pallet.h, .int .i64 r.pallet.gram, .int .i64 r.classes, .slice A1 r.pairs.length c1, .slice A2 r.types.length c2, .int .i64 r.master, .slice A3 r.items.length c3] 37]) fun X => sTypeOk_any x X.world
  have HI := fun x => extC (lay_le w [.cells #[.int .i64 r.way, .int .i64 r.pallet.w, .int .i64 r.pallet.d, .int .i64 r.pallet.h, .int .i64 r.pallet.gram, .int .i64 r.classes, .slice A1 r.pairs.length c1, .slice A2 r.types.length c2, .int .i64 r.master, .slice A3 r.items.length c3] 37]) fun X => sItemOk_any x X.world
  go_enter Tryz.func52, Tryz.ntmps52
  go_wp2_with (first | (go_at_call 43; refine (l1In_any _ _ _ _).mono ?_; rintro e w' ⟨rfl, rfl⟩) | (go_at_call 70; refine (l2Id_any _ _).mono ?_; rintro e w' ⟨rfl, rfl⟩) | (go_at_call 69; (first | refine (HP.out _).mono ?_ | refine (HP.out (Ext.here _ _)).mono ?_); rintro e w' ⟨rfl, Y, rfl⟩))
  all_goals first | (go_ret; go_light; exact ⟨ret_bool (by first | (simp [boundsOk, *]; done) | (simp [boundsOk, *]; intros; omega)), by first | exact HL.out _ | (repeat' (first | with_reducible exact Below.refl _ _ | with_reducible assumption | with_reducible refine Below.drew ?_ | with_reducible refine Below.alloc ?_ ?_ _ | with_reducible refine Below.setCell ?_ ?_ _ | with_reducible refine below_drewN ?_ _ | (simp; done) | (simp; omega)))⟩) | skip
  go_loopw [3] (fun i wr => ∃ (k : Nat) (X : Ext (w.heap.size + 1) (lay w [.cells #[.int .i64 r.way, .int .i64 r.pallet.w, .int .i64 r.pallet.d, .int .i64 r.pallet.h, .int .i64 r.pallet.gram, .int .i64 r.classes, .slice A1 r.pairs.length c1, .slice A2 r.types.length c2, .int .i64 r.master, .slice A3 r.items.length c3] 37])), wr = X.world ∧ k ≤ r.pairs.length ∧ i = .int .i64 k ∧ (r.pairs.drop k).all pairOk = r.pairs.all pairOk) (fun i _ => r.pairs.length - (intOf i).toNat)
  case atStart => exact ⟨0, _, rfl, Nat.zero_le _, rfl, rfl⟩
  case round =>
    obtain ⟨k, X, rfl, hk, rfl, hin⟩ := hrel
    by_cases hlt : k < r.pairs.length
    · obtain ⟨b, off, x, rfl, hb, hx, hc⟩ := H1.out.flatX HL.out k hlt
      have hc0 := hc 0 _ rfl
      have hc1 := hc 1 _ rfl
      simp only [Nat.add_zero] at hc0
      have HD := all_cons hin hx
      clear hc hin
      go_wp2_with (go_at_call 43; refine (l1In_any _ _ _ _).mono ?_; rintro e w' ⟨rfl, rfl⟩)
      all_goals first
        | (go_ret; go_light; (try simp only [Bool.not_eq_true', Bool.not_eq_false'] at *); exact ⟨ret_bool (by simp [boundsOk, HD.out, pairOk, *]), HL.out _⟩)
        | (go_roundw; (case rel => go_light; (try simp only [Bool.not_eq_true', Bool.not_eq_false'] at *); exact ⟨k + 1, X, rfl, hlt, by go_num, by rw [HD.out]; simp [pairOk, *]⟩); (case measure => (simp [intOf]; omega)))
    · have HD1 := all_end hin hlt
      clear hin
      go_wp2
      go_loopw [4] (fun i wr => ∃ (k : Nat) (X : Ext (w.heap.size + 1) (lay w [.cells #[.int .i64 r.way, .int .i64 r.pallet.w, .int .i64 r.pallet.d, .int .i64 r.pallet.h, .int .i64 r.pallet.gram, .int .i64 r.classes, .slice A1 r.pairs.length c1, .slice A2 r.types.length c2, .int .i64 r.master, .slice A3 r.items.length c3] 37])), wr = X.world ∧ k ≤ r.types.length ∧ i = .int .i64 k ∧ (r.types.drop k).all typeOk = r.types.all typeOk) (fun i _ => r.types.length - (intOf i).toNat)
      case atStart => exact ⟨0, _, rfl, Nat.zero_le _, rfl, rfl⟩
      case round =>
        obtain ⟨k2, X2, rfl, hk2, rfl, hin⟩ := hrel
        by_cases hlt2 : k2 < r.types.length
        · obtain ⟨b, off, x, rfl, hb, hx, hc⟩ := H2.out.flatX HL.out k2 hlt2
          have hc0 := hc 0 _ rfl
          have hc1 := hc 1 _ rfl
          have hc2 := hc 2 _ rfl
          have hc3 := hc 3 _ rfl
          have hc4 := hc 4 _ rfl
          have hc5 := hc 5 _ rfl
          have hc6 := hc 6 _ rfl
          simp only [Nat.add_zero] at hc0
          have HD := all_cons hin hx
          have HTx := HT x
          clear hc hin
          go_wp2_with (go_at_call 71; (first | refine (HTx.out _).mono ?_ | refine (HTx.out (Ext.here _ _)).mono ?_); rintro e w' ⟨rfl, Y, rfl⟩)
          all_goals first
            | (go_ret; go_light; (try simp only [Bool.not_eq_true', Bool.not_eq_false'] at *); exact ⟨ret_bool (by simp [boundsOk, HD.out, *]), HL.out _⟩)
            | (go_roundw; (case rel => go_light; (try simp only [Bool.not_eq_true', Bool.not_eq_false'] at *); exact ⟨k2 + 1, Y, rfl, hlt2, by go_num, by rw [HD.out]; simp [*]⟩); (case measure => (simp [intOf]; omega)))
        · have HD2 := all_end hin hlt2
          clear hin
          go_wp2
          go_loopw [5, 6] (fun u i wr => ∃ (k : Nat) (m : Int) (X : Ext (w.heap.size + 1) (lay w [.cells #[.int .i64 r.way, .int .i64 r.pallet.w, .int .i64 r.pallet.d, .int .i64 r.pallet.h, .int .i64 r.pallet.gram, .int .i64 r.classes, .slice A1 r.pairs.length c1, .slice A2 r.types.length c2, .int .i64 r.master, .slice A3 r.items.length c3] 37])), wr = X.world ∧ k ≤ r.items.length ∧ i = .int .i64 k ∧ u = .int .i64 m ∧ 0 ≤ m ∧ m ≤ 6 * k ∧ m = sumCount (r.items.take k) ∧ (r.items.drop k).all itemOk = r.items.all itemOk) (fun _ i _ => r.items.length - (intOf i).toNat)
          case atStart => exact ⟨0, 0, _, rfl, Nat.zero_le _, rfl, rfl, by omega, by omega, rfl, rfl⟩
          case round =>
            obtain ⟨k3, m, X3, rfl, hk3, rfl, rfl, hm0, hm1, hm, hin⟩ := hrel
            have HM := Lib.hid hm
            clear hm
            by_cases hlt3 : k3 < r.items.length
            · obtain ⟨b, off, x, rfl, hb, hx, hc⟩ := H3.out.flatX HL.out k3 hlt3
              have hc0 := hc 0 _ rfl
              have hc1 := hc 1 _ rfl
              have hc2 := hc 2 _ rfl
              have hc3 := hc 3 _ rfl
              have hc4 := hc 4 _ rfl
              have hc5 := hc 5 _ rfl
              have hc6 := hc 6 _ rfl
              simp only [Nat.add_zero] at hc0
              have HD := all_cons hin hx
              have HIx := HI x
              have HS := Lib.hid (sumCount_take hx)
              obtain ⟨q, hq⟩ : ∃ q, itemOk x = q := ⟨_, rfl⟩
              have HQ := Lib.hid hq
              rw [hq] at HIx
              clear hc hin hq
              cases q
              · go_wp2_with (go_at_call 72; (first | refine (HIx.out _).mono ?_ | refine (HIx.out (Ext.here _ _)).mono ?_); rintro e w' ⟨rfl, Y, rfl⟩)
                go_ret
                go_light
                exact ⟨ret_bool (by simp [boundsOk, HD.out, HQ.out]), HL.out _⟩
              · obtain ⟨hx0, hx1⟩ := item_count HQ.out
                go_wp2_with (go_at_call 72; (first | refine (HIx.out _).mono ?_ | refine (HIx.out (Ext.here _ _)).mono ?_); rintro e w' ⟨rfl, Y, rfl⟩)
                go_roundw
                case rel => go_light; exact ⟨k3 + 1, m + x.count, Y, rfl, hlt3, by go_num, rfl, by omega, by omega, by rw [HS.out, HM.out], by rw [HD.out, HQ.out]; simp⟩
                case measure => simp [intOf]; omega
            · have HD3 := all_end hin hlt3
              rw [List.take_of_length_le (by omega)] at HM
              clear hin
              go_wp2
              all_goals go_ret
              all_goals go_light
              all_goals exact ⟨ret_bool (by simp [boundsOk, HD1.out, HD2.out, HD3.out, ← HM.out, *]; try omega), HL.out _⟩
set_option maxHeartbeats 400000 in
theorem boundsOk1_any (x : Pair) (w : World) : Calls Tryz.prog 93 #[x.val] w fun e w' => e = .returned (.bool (!pairOk x)) ∧ Below w.heap.size w w' := by
  go_enter Tryz.func93, Tryz.ntmps93
  go_wp2_with (go_at_call 68; refine (in_any _ _ _ _).mono ?_; rintro e w' ⟨rfl, rfl⟩)
  all_goals go_ret
  all_goals exact ⟨ret_bool (by simp [pairOk, *]), (by repeat' (first | with_reducible exact Below.refl _ _ | with_reducible assumption | with_reducible refine Below.drew ?_ | with_reducible refine Below.alloc ?_ ?_ _ | with_reducible refine Below.setCell ?_ ?_ _ | with_reducible refine below_drewN ?_ _ | (simp; done) | (simp; omega)))⟩
set_option maxHeartbeats 400000 in
theorem boundsOk2_any (x : GType) (w : World) : Calls Tryz.prog 94 #[x.val] w fun e w' => e = .returned (.bool (!typeOk x)) ∧ Below w.heap.size w w' := by
  have hb0 : Below w.heap.size w (w.alloc (.cells #[.int .i64 x.id, .int .i64 x.w, .int .i64 x.h, .int .i64 x.d, .int .i64 x.tare, .int .i64 x.gram, .int .i64 x.cost] 67)) := (by repeat' (first | with_reducible exact Below.refl _ _ | with_reducible assumption | with_reducible refine Below.drew ?_ | with_reducible refine Below.alloc ?_ ?_ _ | with_reducible refine Below.setCell ?_ ?_ _ | with_reducible refine below_drewN ?_ _ | (simp; done) | (simp; omega)))
  have HC := Lib.hid (iTypeOk_any x (w.alloc (.cells #[.int .i64 x.id, .int .i64 x.w, .int .i64 x.h, .int .i64 x.d, .int .i64 x.tare, .int .i64 x.gram, .int .i64 x.cost] 67)))
  go_enter Tryz.func94, Tryz.ntmps94
  go_wp2_with fail
  refine HC.out.mono ?_
  rintro e w2 ⟨rfl, hb2⟩
  go_wp2
  go_ret
  exact ⟨rfl, bstep hb0 hb2⟩
theorem any_not {α : Type} (p : α → Bool) (xs : List α) : (xs.any fun x => !p x) = !xs.all p := by
  induction xs with
  | nil => rfl
  | cons x xs ih => simp only [List.any_cons, List.all_cons, ih]; cases p x <;> rfl
set_option maxHeartbeats 1000000 in
theorem iBoundsOk_any (v : Value) (r : Request) (w : World) (h : RReq 16777216 w w.heap.size v r) : Calls Tryz.prog 80 #[v] w fun e w' => e = .returned (.bool (boundsOk r)) ∧ Below w.heap.size w w' := by
  obtain ⟨A1, c1, A2, c2, A3, c3, rfl, ⟨H1, H2, H3⟩, hb1, hb2, hb3, _⟩ := h.opn
  have hq := lay_box0 w [.cells #[.int .i64 r.way, .int .i64 r.pallet.w, .int .i64 r.pallet.d, .int .i64 r.pallet.h, .int .i64 r.pallet.gram, .int .i64 r.classes, .slice A1 r.pairs.length c1, .slice A2 r.types.length c2, .int .i64 r.master, .slice A3 r.items.length c3] 37] _ _ rfl
  have HL := Lib.hid (lay_low w [.cells #[.int .i64 r.way, .int .i64 r.pallet.w, .int .i64 r.pallet.d, .int .i64 r.pallet.h, .int .i64 r.pallet.gram, .int .i64 r.classes, .slice A1 r.pairs.length c1, .slice A2 r.types.length c2, .int .i64 r.master, .slice A3 r.items.length c3] 37])
  have HLS := Lib.hid (lay_size w [.cells #[.int .i64 r.way, .int .i64 r.pallet.w, .int .i64 r.pallet.d, .int .i64 r.pallet.h, .int .i64 r.pallet.gram, .int .i64 r.classes, .slice A1 r.pairs.length c1, .slice A2 r.types.length c2, .int .i64 r.master, .slice A3 r.items.length c3] 37])
  have HP := extC (lay_le w [.cells #[.int .i64 r.way, .int .i64 r.pallet.w, .int .i64 r.pallet.d, .int .i64 r.pallet.h, .int .i64 r.pallet.gram, .int .i64 r.classes, .slice A1 r.pairs.length c1, .slice A2 r.types.length c2, .int .i64 r.master, .slice A3 r.items.length c3] 37]) fun X => iPalletOk_any r.pallet X.world
  have HCP := extC (lay_le w [.cells #[.int .i64 r.way, .int .i64 r.pallet.w, .int .i64 r.pallet.d, .int .i64 r.pallet.h, .int .i64 r.pallet.gram, .int .i64 r.classes, .slice A1 r.pairs.length c1, .slice A2 r.types.length c2, .int .i64 r.master, .slice A3 r.items.length c3] 37]) fun X => containsFuncPair_any 93 #[] (fun x => !pairOk x) _ r.pairs X.world (H1.out.next (flat_mono _) (HL.out X)) (run_enter Tryz.func93 (by kernel_rfl) (by kernel_rfl)) (fun W x _ _ => boundsOk1_any x W)
  have HCT := extC (lay_le w [.cells #[.int .i64 r.way, .int .i64 r.pallet.w, .int .i64 r.pallet.d, .int .i64 r.pallet.h, .int .i64 r.pallet.gram, .int .i64 r.classes, .slice A1 r.pairs.length c1, .slice A2 r.types.length c2, .int .i64 r.master, .slice A3 r.items.length c3] 37]) fun X => containsFuncType_any 94 #[] (fun x => !typeOk x) _ r.types X.world (H2.out.next (flat_mono _) (HL.out X)) (run_enter Tryz.func94 (by kernel_rfl) (by kernel_rfl)) (fun W x _ _ => boundsOk2_any x W)
  rw [any_not] at HCP HCT
  obtain ⟨qp, hqp⟩ : ∃ zz, r.pairs.all pairOk = zz := ⟨_, rfl⟩; have HHqp := Lib.hid hqp; rw [hqp] at HCP; clear hqp
  obtain ⟨qt, hqt⟩ : ∃ zz, r.types.all typeOk = zz := ⟨_, rfl⟩; have HHqt := Lib.hid hqt; rw [hqt] at HCT; clear hqt
  go_enter Tryz.func80, Tryz.ntmps80
  go_wp2_with (first | (go_at_call 68; refine (in_any _ _ _ _).mono ?_; rintro e w' ⟨rfl, rfl⟩) | (go_at_call 91; (first | refine (HP.out _).mono ?_ | refine (HP.out (Ext.here _ _)).mono ?_); rintro e w' ⟨rfl, Y, rfl⟩) | (go_at_call 92; (first | refine (HCP.out _).mono ?_ | refine (HCP.out (Ext.here _ _)).mono ?_); rintro e w' ⟨rfl, Y, rfl⟩) | (go_at_call 86; (first | refine (HCT.out _).mono ?_ | refine (HCT.out (Ext.here _ _)).mono ?_); rintro e w' ⟨rfl, Y, rfl⟩))
  all_goals first | (go_ret; go_light; (try simp only [Bool.not_eq_true', Bool.not_eq_false'] at *); exact ⟨ret_bool (by first | (simp [boundsOk, HHqp.out, HHqt.out, *]; done) | (simp [boundsOk, HHqp.out, HHqt.out, *]; intros; omega)), by first | exact HL.out _ | (repeat' (first | with_reducible exact Below.refl _ _ | with_reducible assumption | with_reducible refine Below.drew ?_ | with_reducible refine Below.alloc ?_ ?_ _ | with_reducible refine Below.setCell ?_ ?_ _ | with_reducible refine below_drewN ?_ _ | (simp; done) | (simp; omega)))⟩) | skip
  go_loopw [3, 56] (fun u i wr => ∃ (k : Nat) (m : Int) (X : Ext (w.heap.size + 1) (lay w [.cells #[.int .i64 r.way, .int .i64 r.pallet.w, .int .i64 r.pallet.d, .int .i64 r.pallet.h, .int .i64 r.pallet.gram, .int .i64 r.classes, .slice A1 r.pairs.length c1, .slice A2 r.types.length c2, .int .i64 r.master, .slice A3 r.items.length c3] 37])), wr = X.world ∧ k ≤ r.items.length ∧ i = .int .i64 k ∧ u = .int .i64 m ∧ 0 ≤ m ∧ m ≤ 6 * k ∧ m = sumCount (r.items.take k) ∧ (r.items.drop k).all itemOk = r.items.all itemOk) (fun _ i _ => r.items.length - (intOf i).toNat)
  case atStart => exact ⟨0, 0, _, rfl, Nat.zero_le _, rfl, rfl, by omega, by omega, rfl, rfl⟩
  case round =>
    obtain ⟨k3, m, X3, rfl, hk3, rfl, rfl, hm0, hm1, hm, hin⟩ := hrel
    have HM := Lib.hid hm
    clear hm
    by_cases hlt3 : k3 < r.items.length
    · obtain ⟨b, off, x, rfl, hb, hx, hc⟩ := H3.out.flatX HL.out k3 hlt3
      have hc0 := hc 0 _ rfl; have hc1 := hc 1 _ rfl; have hc2 := hc 2 _ rfl; have hc3 := hc 3 _ rfl; have hc4 := hc 4 _ rfl; have hc5 := hc 5 _ rfl; have hc6 := hc 6 _ rfl; simp only [Nat.add_zero] at hc0
      have HD := all_cons hin hx
      have HS := Lib.hid (sumCount_take hx)
      have HC := iItemOk_any x (X3.world.alloc (.cells #[.int .i64 x.id, .int .i64 x.w, .int .i64 x.h, .int .i64 x.d, .int .i64 x.gram, .int .i64 x.cls, .int .i64 x.count] 41))
      obtain ⟨q, hq⟩ : ∃ q, itemOk x = q := ⟨_, rfl⟩
      have HQ := Lib.hid hq
      rw [hq] at HC
      have HC := Lib.hid HC
      have HA := Lib.hid (X3.ok.trans (show Below (w.heap.size + 1) X3.world (X3.world.alloc (.cells #[.int .i64 x.id, .int .i64 x.w, .int .i64 x.h, .int .i64 x.d, .int .i64 x.gram, .int .i64 x.cls, .int .i64 x.count] 41)) from (Below.refl _ _).alloc (HLS.out X3) _))
      have HZ := Lib.hid (show w.heap.size + 1 ≤ (X3.world.alloc (.cells #[.int .i64 x.id, .int .i64 x.w, .int .i64 x.h, .int .i64 x.d, .int .i64 x.gram, .int .i64 x.cls, .int .i64 x.count] 41)).heap.size by have := HLS.out X3; simp at this ⊢; omega)
      clear hc hin hq
      cases q
      · go_wp2_with fail
        refine HC.out.mono ?_
        rintro e w2 ⟨rfl, hb2⟩
        go_wp2
        go_ret
        go_light
        exact ⟨ret_bool (by simp [boundsOk, HD.out, HQ.out]), HL.out ⟨w2, HA.out.trans (hb2.mono HZ.out)⟩⟩
      · obtain ⟨hx0, hx1⟩ := item_count HQ.out
        go_wp2_with fail
        refine HC.out.mono ?_
        rintro e w2 ⟨rfl, hb2⟩
        have hcx : w2.cell? ⟨X3.world.heap.size, 6, none⟩ = some (.int .i64 x.count) := (hb2.cell (p := ⟨X3.world.heap.size, 6, none⟩) (by simp)).trans (by simp)
        go_wp2
        go_roundw
        case rel => go_light; exact ⟨k3 + 1, m + x.count, ⟨w2, HA.out.trans (hb2.mono HZ.out)⟩, rfl, hlt3, by go_num, rfl, by omega, by omega, by rw [HS.out, HM.out], by rw [HD.out, HQ.out]; simp⟩
        case measure => simp [intOf]; omega
    · have HD3 := all_end hin hlt3
      rw [List.take_of_length_le (by omega)] at HM
      clear hin
      go_wp2
      all_goals go_ret
      all_goals go_light
      all_goals (try simp only [Bool.not_eq_true', Bool.not_eq_false'] at *)
      all_goals exact ⟨ret_bool (by simp [boundsOk, HHqp.out, HHqt.out, HD3.out, ← HM.out, *]; try omega), HL.out _⟩
end Go.Proofs.YteamlfcfillbjaaGreat
