/-
  The walks over Class, both sides, and over sound.
-/
import Derived.Test.YteamlfcfillbjaaGreatQf
import Derived.Test.YteamlfcfillbjaaGreatQg
namespace Go.Proofs.YteamlfcfillbjaaGreat
set_option linter.unusedVariables false
set_option linter.unusedSimpArgs false
set_option maxRecDepth 100000
open Go.RowKit
theorem bounds_type {r : Request} {x : GType} (h : boundsOk r = true) (hx : x ∈ r.types) : 0 ≤ x.tare ∧ x.tare ≤ 100000 ∧ 1 ≤ x.gram ∧ x.gram ≤ 100000 := by
  unfold boundsOk at h
  simp only [Bool.and_eq_true] at h
  have := List.all_eq_true.1 h.1.1.1.1.2 x hx
  unfold typeOk inB at this
  simp at this
  omega
theorem class_bounds {r : Request} (h : boundsOk r = false) : Hid (classOf r = 2) := Lib.hid (by unfold classOf; rw [if_pos h])
theorem class_names {r : Request} (h1 : boundsOk r = true) (h : namesOk r = false) : Hid (classOf r = 3) := Lib.hid (by unfold classOf; rw [if_neg (by simp [h1]), if_pos h])
theorem class_table {r : Request} (h1 : boundsOk r = true) (h2 : namesOk r = true) (h : tableOk r.pairs r.classes = false) : Hid (classOf r = 4) := Lib.hid (by unfold classOf; rw [if_neg (by simp [h1]), if_neg (by simp [h2]), if_pos h])
theorem class_rest {r : Request} (h1 : boundsOk r = true) (h2 : namesOk r = true) (h3 : tableOk r.pairs r.classes = true) : Hid (classOf r = if r.items.any (fun x => !fits x (masterOf r).1) = true then 5 else if r.types.any (tooBig r.pallet) = true then 6 else 0) := Lib.hid (by unfold classOf; rw [if_neg (by simp [h1]), if_neg (by simp [h2]), if_neg (by simp [h3])])
set_option maxHeartbeats 1000000 in
theorem sClass_any (v : Value) (r : Request) (w : World) (h : RReq 16777216 w w.heap.size v r) : Calls Tryz.prog 25 #[v] w fun e w' => e = .returned (.int .i64 (classOf r)) ∧ Below w.heap.size w w' := by
  have HRQ := Lib.hid h
  obtain ⟨A1, c1, A2, c2, A3, c3, rfl, ⟨H1, H2, H3⟩, hb1, hb2, hb3, _⟩ := h.opn
  have hq := lay_box0 w [.cells #[.int .i64 r.way, .int .i64 r.pallet.w, .int .i64 r.pallet.d, .int .i64 r.pallet.h, .int .i64 r.pallet.gram, .int .i64 r.classes, .slice A1 r.pairs.length c1, .slice A2 r.types.length c2, .int .i64 r.master, .slice A3 r.items.length c3] 37] _ _ rfl
  have HL := Lib.hid (lay_low w [.cells #[.int .i64 r.way, .int .i64 r.pallet.w, .int .i64 r.pallet.d, .int .i64 r.pallet.h, .int .i64 r.pallet.gram, .int .i64 r.classes, .slice A1 r.pairs.length c1, .slice A2 r.types.length c2, .int .i64 r.master, .slice A3 r.items.length c3] 37])
  have HLS := Lib.hid (lay_size w [.cells #[.int .i64 r.way, .int .i64 r.pallet.w, .int .i64 r.pallet.d, .int .i64 r.pallet.h, .int .i64 r.pallet.gram, .int .i64 r.classes, .slice A1 r.pairs.length c1, .slice A2 r.types.length c2, .int .i64 r.master, .slice A3 r.items.length c3] 37])
  have CB := extC (lay_le w [.cells #[.int .i64 r.way, .int .i64 r.pallet.w, .int .i64 r.pallet.d, .int .i64 r.pallet.h, .int .i64 r.pallet.gram, .int .i64 r.classes, .slice A1 r.pairs.length c1, .slice A2 r.types.length c2, .int .i64 r.master, .slice A3 r.items.length c3] 37]) fun X => sBoundsOk_any _ r X.world (HRQ.out.next (HL.out X))
  have CN := extC (lay_le w [.cells #[.int .i64 r.way, .int .i64 r.pallet.w, .int .i64 r.pallet.d, .int .i64 r.pallet.h, .int .i64 r.pallet.gram, .int .i64 r.classes, .slice A1 r.pairs.length c1, .slice A2 r.types.length c2, .int .i64 r.master, .slice A3 r.items.length c3] 37]) fun X => l5Names_any _ r X.world (HRQ.out.next (HL.out X))
  have CT := Lib.hid fun X => sTableOk_any _ r.pairs r.classes (Ext.world X) (H1.out.next (flat_mono _) (HL.out X))
  have CM := extC (lay_le w [.cells #[.int .i64 r.way, .int .i64 r.pallet.w, .int .i64 r.pallet.d, .int .i64 r.pallet.h, .int .i64 r.pallet.gram, .int .i64 r.classes, .slice A1 r.pairs.length c1, .slice A2 r.types.length c2, .int .i64 r.master, .slice A3 r.items.length c3] 37]) fun X => sMasterOf_any _ r X.world (HRQ.out.next (HL.out X))
  obtain ⟨mm, hmm⟩ : ∃ m, masterOf r = m := ⟨_, rfl⟩
  have HMM := Lib.hid hmm
  rw [hmm] at CM
  obtain ⟨m, mo⟩ := mm
  obtain ⟨b1, hq1⟩ : ∃ q, boundsOk r = q := ⟨_, rfl⟩
  obtain ⟨b2, hq2⟩ : ∃ q, namesOk r = q := ⟨_, rfl⟩
  obtain ⟨b3, hq3⟩ : ∃ q, tableOk r.pairs r.classes = q := ⟨_, rfl⟩
  rw [hq1] at CB
  rw [hq2] at CN
  simp only [hq3] at CT
  have HB1 := Lib.hid hq1
  have HB2 := Lib.hid hq2
  have HB3 := Lib.hid hq3
  clear hmm hq1 hq2 hq3
  cases b1
  · have HR := class_bounds HB1.out
    go_enter Tryz.func25, Tryz.ntmps25
    go_wp2_with (go_at_call 52; (first | refine (CB.out _).mono ?_ | refine (CB.out (Ext.here _ _)).mono ?_); rintro e w' ⟨rfl, Y, rfl⟩)
    go_ret
    exact ⟨ret_int HR.out.symm, HL.out Y⟩
  cases b2
  · have HR := class_names HB1.out HB2.out
    go_enter Tryz.func25, Tryz.ntmps25
    go_wp2_with (first | (go_at_call 52; (first | refine (CB.out _).mono ?_ | refine (CB.out (Ext.here _ _)).mono ?_); rintro e w' ⟨rfl, Y, rfl⟩) | (go_at_call 53; (first | refine (CN.out _).mono ?_ | refine (CN.out (Ext.here _ _)).mono ?_); rintro e w' ⟨rfl, Y, rfl⟩))
    go_ret
    exact ⟨ret_int HR.out.symm, HL.out Y⟩
  cases b3
  · have HR := class_table HB1.out HB2.out HB3.out
    go_enter Tryz.func25, Tryz.ntmps25
    go_wp2_with (first | (go_at_call 52; (first | refine (CB.out _).mono ?_ | refine (CB.out (Ext.here _ _)).mono ?_); rintro e w' ⟨rfl, Y, rfl⟩) | (go_at_call 53; (first | refine (CN.out _).mono ?_ | refine (CN.out (Ext.here _ _)).mono ?_); rintro e w' ⟨rfl, Y, rfl⟩) | (go_at_call 54; refine (CT.out _).mono ?_; rintro e w' ⟨rfl, rfl⟩))
    go_ret
    exact ⟨ret_int HR.out.symm, HL.out Y⟩
  have HR := class_rest HB1.out HB2.out HB3.out
  go_enter Tryz.func25, Tryz.ntmps25
  go_wp2_with (first | (go_at_call 52; (first | refine (CB.out _).mono ?_ | refine (CB.out (Ext.here _ _)).mono ?_); rintro e w' ⟨rfl, Y, rfl⟩) | (go_at_call 53; (first | refine (CN.out _).mono ?_ | refine (CN.out (Ext.here _ _)).mono ?_); rintro e w' ⟨rfl, Y, rfl⟩) | (go_at_call 54; refine (CT.out _).mono ?_; rintro e w' ⟨rfl, rfl⟩) | (go_at_call 55; (first | refine (CM.out _).mono ?_ | refine (CM.out (Ext.here _ _)).mono ?_); rintro e w' ⟨rfl, Y, rfl⟩))
  have hm0 := lay_box0 Y.world [.cells #[.int .i64 m.id, .int .i64 m.w, .int .i64 m.h, .int .i64 m.d, .int .i64 m.tare, .int .i64 m.gram, .int .i64 m.cost] 67] _ _ rfl
  have HL2 := Lib.hid fun X2 => bstep (HL.out Y) (lay_low Y.world [.cells #[.int .i64 m.id, .int .i64 m.w, .int .i64 m.h, .int .i64 m.d, .int .i64 m.tare, .int .i64 m.gram, .int .i64 m.cost] 67] X2)
  have hg0 := HLS.out Y
  have hq' := fun (X2 : Ext (Y.world.heap.size + 1) (lay Y.world [.cells #[.int .i64 m.id, .int .i64 m.w, .int .i64 m.h, .int .i64 m.d, .int .i64 m.tare, .int .i64 m.gram, .int .i64 m.cost] 67])) (j : Nat) => ((lay_low Y.world [.cells #[.int .i64 m.id, .int .i64 m.w, .int .i64 m.h, .int .i64 m.d, .int .i64 m.tare, .int .i64 m.gram, .int .i64 m.cost] 67] X2).cell (p := ⟨w.heap.size, j, none⟩) (show w.heap.size < Y.world.heap.size from hg0)).trans (hq Y j)
  have hgt := fun X2 => (show w.heap.size < (Ext.world X2).heap.size from Nat.lt_of_lt_of_le hg0 (Nat.le_trans (Nat.le_succ _) (lay_size Y.world [.cells #[.int .i64 m.id, .int .i64 m.w, .int .i64 m.h, .int .i64 m.d, .int .i64 m.tare, .int .i64 m.gram, .int .i64 m.cost] 67] X2)))
  have HF := Lib.hid fun x => extC (lay_le Y.world [.cells #[.int .i64 m.id, .int .i64 m.w, .int .i64 m.h, .int .i64 m.d, .int .i64 m.tare, .int .i64 m.gram, .int .i64 m.cost] 67]) fun X => sFits_any x m X.world
  clear hq hg0
  go_loopw [5] (fun i wr => ∃ (k : Nat) (X : Ext (Y.world.heap.size + 1) (lay Y.world [.cells #[.int .i64 m.id, .int .i64 m.w, .int .i64 m.h, .int .i64 m.d, .int .i64 m.tare, .int .i64 m.gram, .int .i64 m.cost] 67])), wr = X.world ∧ k ≤ r.items.length ∧ i = .int .i64 k ∧ (r.items.drop k).any (fun x => !fits x m) = r.items.any (fun x => !fits x m)) (fun i _ => r.items.length - (intOf i).toNat)
  case atStart => exact ⟨0, Ext.here _ _, rfl, Nat.zero_le _, rfl, rfl⟩
  case round =>
    obtain ⟨k, X, rfl, hk, rfl, hin⟩ := hrel
    by_cases hlt : k < r.items.length
    · obtain ⟨b, off, x, rfl, hb, hx, hc⟩ := H3.out.flatX HL2.out k hlt
      have hc0 := hc 0 _ rfl; have hc1 := hc 1 _ rfl; have hc2 := hc 2 _ rfl; have hc3 := hc 3 _ rfl; have hc4 := hc 4 _ rfl; have hc5 := hc 5 _ rfl; have hc6 := hc 6 _ rfl; simp only [Nat.add_zero] at hc0
      have HD := any_cons hin hx
      have HC := (HF.out x).out
      obtain ⟨q, hqq⟩ : ∃ q, fits x m = q := ⟨_, rfl⟩
      have HQ := Lib.hid hqq
      rw [hqq] at HC
      have HC := Lib.hid HC
      obtain ⟨hl0, hl1⟩ : (0 : Int) ≤ (k : Int) ∧ (k : Int) < (r.items.length : Int) := by omega
      clear hc hin hx hqq
      go_wp2
      refine wp_region_in (by kernel_rfl) (by kernel_rfl) ?_; (repeat (go_big_quiet_step (exact HC.out _))); refine wpQuiet_nil ?_; intro _ hw'; obtain ⟨Y, rfl⟩ := hw'
      cases q
      · go_wp2
        go_ret
        go_light
        exact ⟨ret_int (by rw [HR.out, HMM.out, HD.out, HQ.out]; simp), HL2.out _⟩
      · go_wp2
        (go_roundw; (case rel => exact ⟨k + 1, Y, rfl, hlt, by go_num, by rw [HD.out, HQ.out]; simp⟩); (case measure => (simp [intOf]; omega)))
    · have HA := any_end hin hlt
      have HR2 := Lib.hid (show classOf r = if r.types.any (tooBig r.pallet) = true then 6 else 0 by rw [HR.out, HMM.out, HA.out]; simp)
      clear hin
      go_wp2
      go_loopw [6] (fun i wr => ∃ (k : Nat) (X : X.Of), wr = X.world ∧ k ≤ r.types.length ∧ i = .int .i64 k ∧ (r.types.drop k).any (tooBig r.pallet) = r.types.any (tooBig r.pallet)) (fun i _ => r.types.length - (intOf i).toNat)
      case atStart => exact ⟨0, X, rfl, Nat.zero_le _, rfl, rfl⟩
      case round =>
        obtain ⟨k, X, rfl, hk, rfl, hin⟩ := hrel
        by_cases hlt : k < r.types.length
        · obtain ⟨b, off, x, rfl, hb, hx, hc⟩ := H2.out.flatX HL2.out k hlt
          have hc0 := hc 0 _ rfl; have hc1 := hc 1 _ rfl; have hc2 := hc 2 _ rfl; have hc3 := hc 3 _ rfl; have hc4 := hc 4 _ rfl; have hc5 := hc 5 _ rfl; have hc6 := hc 6 _ rfl; simp only [Nat.add_zero] at hc0
          have HD := any_cons hin hx
          obtain ⟨hx0, hx1, hx2, hx3⟩ := bounds_type HB1.out (List.mem_of_getElem? hx)
          have hXs := lay_size Y.world [.cells #[.int .i64 m.id, .int .i64 m.w, .int .i64 m.h, .int .i64 m.d, .int .i64 m.tare, .int .i64 m.gram, .int .i64 m.cost] 67] X
          have HXs := Lib.hid hXs
          clear hc hin hx hXs
          go_wp2
          all_goals first
            | (go_ret; go_light; exact ⟨ret_int (by rw [HR2.out, HD.out]; simp [tooBig, *]), by have h1 := HL2.out X; have h2 := h1.size; (repeat' (first | with_reducible exact Below.refl _ _ | with_reducible assumption | with_reducible refine Below.drew ?_ | with_reducible refine Below.alloc ?_ ?_ _ | with_reducible refine Below.setCell ?_ ?_ _ | with_reducible refine below_drewN ?_ _ | (simp; done) | (simp; omega)))⟩)
            | (go_roundw; (case rel => go_light; exact ⟨k + 1, ⟨_, X.ok.alloc HXs.out _⟩, rfl, hlt, by go_num, by rw [HD.out]; first | (simp [tooBig, *]; done) | (simp [tooBig, *]; intro h; exfalso; omega)⟩); (case measure => (simp [intOf]; omega)))
        · have HE := any_end hin hlt
          clear hin
          go_wp2
          go_ret
          go_light
          exact ⟨ret_int (by rw [HR2.out, HE.out]; simp), HL2.out _⟩
set_option maxHeartbeats 1000000 in
theorem class1_any (x : Item) (m : GType) (b : Nat) (w : World) (hc : ∀ j, w.cell? ⟨b, j, none⟩ = (#[.int .i64 m.id, .int .i64 m.w, .int .i64 m.h, .int .i64 m.d, .int .i64 m.tare, .int .i64 m.gram, .int .i64 m.cost] : Array Value)[j]?) (hb : b < w.heap.size) :
    Calls Tryz.prog 84 #[x.val, .pointer (some ⟨b, 0, none⟩)] w fun e w' => e = .returned (.bool (!fits x m)) ∧ Below w.heap.size w w' := by
  have hb0 : Below w.heap.size w (w.alloc (.cells #[.int .i64 x.id, .int .i64 x.w, .int .i64 x.h, .int .i64 x.d, .int .i64 x.gram, .int .i64 x.cls, .int .i64 x.count] 41)) := (by repeat' (first | with_reducible exact Below.refl _ _ | with_reducible assumption | with_reducible refine Below.drew ?_ | with_reducible refine Below.alloc ?_ ?_ _ | with_reducible refine Below.setCell ?_ ?_ _ | with_reducible refine below_drewN ?_ _ | (simp; done) | (simp; omega)))
  have HC := Lib.hid (iFits_any x m (w.alloc (.cells #[.int .i64 x.id, .int .i64 x.w, .int .i64 x.h, .int .i64 x.d, .int .i64 x.gram, .int .i64 x.cls, .int .i64 x.count] 41)))
  go_enter Tryz.func84, Tryz.ntmps84
  go_wp2_with fail
  refine HC.out.mono ?_
  rintro e w2 ⟨rfl, hb2⟩
  go_wp2
  go_ret
  exact ⟨rfl, bstep hb0 hb2⟩
set_option maxHeartbeats 1000000 in
theorem class2_any (x : GType) (p : Pallet) (b : Nat) (w : World) (h0 : 0 ≤ x.tare) (h1 : x.tare ≤ 100000) (h2 : 1 ≤ x.gram) (h3 : x.gram ≤ 100000) (hc : ∀ j, w.cell? ⟨b, j, none⟩ = (#[.int .i64 p.w, .int .i64 p.d, .int .i64 p.h, .int .i64 p.gram] : Array Value)[j]?) (hb : b < w.heap.size) :
    Calls Tryz.prog 87 #[x.val, .pointer (some ⟨b, 0, none⟩)] w fun e w' => e = .returned (.bool (tooBig p x)) ∧ Below w.heap.size w w' := by
  go_enter Tryz.func87, Tryz.ntmps87
  go_wp2
  all_goals go_ret
  all_goals exact ⟨ret_bool (by first | (simp [tooBig, *]; done) | (simp [tooBig, *]; omega)), (by repeat' (first | with_reducible exact Below.refl _ _ | with_reducible assumption | with_reducible refine Below.drew ?_ | with_reducible refine Below.alloc ?_ ?_ _ | with_reducible refine Below.setCell ?_ ?_ _ | with_reducible refine below_drewN ?_ _ | (simp; done) | (simp; omega)))⟩
set_option maxHeartbeats 1000000 in
theorem iClass_any (v : Value) (r : Request) (w : World) (h : RReq 16777216 w w.heap.size v r) : Calls Tryz.prog 75 #[v] w fun e w' => e = .returned (.int .i64 (classOf r)) ∧ Below w.heap.size w w' := by
  have HRQ := Lib.hid h
  obtain ⟨A1, c1, A2, c2, A3, c3, rfl, ⟨H1, H2, H3⟩, hb1, hb2, hb3, _⟩ := h.opn
  have hq := lay_box0 w [.cells #[.int .i64 r.way, .int .i64 r.pallet.w, .int .i64 r.pallet.d, .int .i64 r.pallet.h, .int .i64 r.pallet.gram, .int .i64 r.classes, .slice A1 r.pairs.length c1, .slice A2 r.types.length c2, .int .i64 r.master, .slice A3 r.items.length c3] 37] _ _ rfl
  have HL := Lib.hid (lay_low w [.cells #[.int .i64 r.way, .int .i64 r.pallet.w, .int .i64 r.pallet.d, .int .i64 r.pallet.h, .int .i64 r.pallet.gram, .int .i64 r.classes, .slice A1 r.pairs.length c1, .slice A2 r.types.length c2, .int .i64 r.master, .slice A3 r.items.length c3] 37])
  have HLS := Lib.hid (lay_size w [.cells #[.int .i64 r.way, .int .i64 r.pallet.w, .int .i64 r.pallet.d, .int .i64 r.pallet.h, .int .i64 r.pallet.gram, .int .i64 r.classes, .slice A1 r.pairs.length c1, .slice A2 r.types.length c2, .int .i64 r.master, .slice A3 r.items.length c3] 37])
  have CM := extC (lay_le w [.cells #[.int .i64 r.way, .int .i64 r.pallet.w, .int .i64 r.pallet.d, .int .i64 r.pallet.h, .int .i64 r.pallet.gram, .int .i64 r.classes, .slice A1 r.pairs.length c1, .slice A2 r.types.length c2, .int .i64 r.master, .slice A3 r.items.length c3] 37]) fun X => iMasterOf_any _ r X.world (HRQ.out.next (HL.out X))
  obtain ⟨mm, hmm⟩ : ∃ m, masterOf r = m := ⟨_, rfl⟩
  have HMM := Lib.hid hmm
  rw [hmm] at CM
  obtain ⟨m, mo⟩ := mm
  clear hmm
  go_enter Tryz.func75, Tryz.ntmps75
  go_wp2_with fail
  refine (CM.out (Ext.here _ _)).mono ?_
  rintro e w2 ⟨rfl, Y, rfl⟩
  obtain ⟨L2, hL2⟩ : ∃ L2 : List Obj, L2 = [.cells #[.int .i64 m.id, .int .i64 m.w, .int .i64 m.h, .int .i64 m.d, .int .i64 m.tare, .int .i64 m.gram, .int .i64 m.cost] 67, .cells #[.int .i64 r.pallet.w, .int .i64 r.pallet.d, .int .i64 r.pallet.h, .int .i64 r.pallet.gram] 32] := ⟨_, rfl⟩
  have hw2 : (Y.world.alloc (.cells #[.int .i64 m.id, .int .i64 m.w, .int .i64 m.h, .int .i64 m.d, .int .i64 m.tare, .int .i64 m.gram, .int .i64 m.cost] 67)).alloc (.cells #[.int .i64 r.pallet.w, .int .i64 r.pallet.d, .int .i64 r.pallet.h, .int .i64 r.pallet.gram] 32) = lay Y.world L2 := by rw [hL2]; rfl
  have hln : L2.length = 2 := by rw [hL2]; rfl
  have HM0 := Lib.hid fun X2 => lay_box0 Y.world L2 #[.int .i64 m.id, .int .i64 m.w, .int .i64 m.h, .int .i64 m.d, .int .i64 m.tare, .int .i64 m.gram, .int .i64 m.cost] 67 (by rw [hL2]; rfl) X2
  have HP0 := Lib.hid fun X2 => lay_box Y.world L2 1 #[.int .i64 r.pallet.w, .int .i64 r.pallet.d, .int .i64 r.pallet.h, .int .i64 r.pallet.gram] 32 (by rw [hL2]; rfl) X2
  have HL2 := Lib.hid fun X2 => bstep (HL.out Y) (lay_low Y.world L2 X2)
  have HS2 := Lib.hid fun X2 => lay_size Y.world L2 X2
  have hg0 : w.heap.size < Y.world.heap.size := HLS.out Y
  have hg1 : w.heap.size < Y.world.heap.size + 1 := by omega
  have hq' := fun (X2 : Ext (Y.world.heap.size + L2.length) (lay Y.world L2)) (j : Nat) => ((lay_low Y.world L2 X2).cell (p := ⟨w.heap.size, j, none⟩) hg0).trans (hq Y j)
  have hqh : ∀ j, (lay Y.world L2).cell? ⟨w.heap.size, j, none⟩ = (#[.int .i64 r.way, .int .i64 r.pallet.w, .int .i64 r.pallet.d, .int .i64 r.pallet.h, .int .i64 r.pallet.gram, .int .i64 r.classes, .slice A1 r.pairs.length c1, .slice A2 r.types.length c2, .int .i64 r.master, .slice A3 r.items.length c3] : Array Value)[j]? := fun j => hq' (Ext.here _ _) j
  have CB := extC (lay_le Y.world L2) fun X => iBoundsOk_any _ r X.world (HRQ.out.next (HL2.out X))
  have CN := extC (lay_le Y.world L2) fun X => iNamesOk_any _ r X.world (HRQ.out.next (HL2.out X))
  have CT := extC (lay_le Y.world L2) fun X => iTableOk_any _ r.pairs r.classes X.world (H1.out.next (flat_mono _) (HL2.out X))
  have CF := extC (lay_le Y.world L2) fun X => containsFuncItem_any 84 #[.pointer (some ⟨Y.world.heap.size, 0, none⟩)] (fun x => !fits x m) _ r.items X.world (H3.out.next (flat_mono _) (HL2.out X)) (run_enter Tryz.func84 (by kernel_rfl) (by kernel_rfl))
    (fun W x hW _ => class1_any x m Y.world.heap.size W (fun j => (hW.cell (p := ⟨Y.world.heap.size, j, none⟩) (by have h9 := HS2.out X; show Y.world.heap.size < X.world.heap.size; omega)).trans (HM0.out X j)) (by have := HS2.out X; have := hW.size; omega))
  have CG := fun hbo : boundsOk r = true => extC (lay_le Y.world L2) fun X => containsFuncType_any 87 #[.pointer (some ⟨Y.world.heap.size + 1, 0, none⟩)] (tooBig r.pallet) _ r.types X.world (H2.out.next (flat_mono _) (HL2.out X)) (run_enter Tryz.func87 (by kernel_rfl) (by kernel_rfl))
    (fun W x hW hx => class2_any x r.pallet (Y.world.heap.size + 1) W (bounds_type hbo hx).1 (bounds_type hbo hx).2.1 (bounds_type hbo hx).2.2.1 (bounds_type hbo hx).2.2.2 (fun j => (hW.cell (p := ⟨Y.world.heap.size + 1, j, none⟩) (by have h9 := HS2.out X; show Y.world.heap.size + 1 < X.world.heap.size; omega)).trans (HP0.out X j)) (by have := HS2.out X; have := hW.size; omega))
  have CG := Lib.hid CG
  obtain ⟨b1, hq1⟩ : ∃ q, boundsOk r = q := ⟨_, rfl⟩
  obtain ⟨b2, hq2⟩ : ∃ q, namesOk r = q := ⟨_, rfl⟩
  obtain ⟨b3, hq3⟩ : ∃ q, tableOk r.pairs r.classes = q := ⟨_, rfl⟩
  obtain ⟨b4, hq4⟩ : ∃ q, r.items.any (fun x => !fits x m) = q := ⟨_, rfl⟩
  obtain ⟨b5, hq5⟩ : ∃ q, r.types.any (tooBig r.pallet) = q := ⟨_, rfl⟩
  rw [hq1] at CB
  rw [hq2] at CN
  rw [hq3] at CT
  rw [hq4] at CF
  have HB1 := Lib.hid hq1
  have HB2 := Lib.hid hq2
  have HB3 := Lib.hid hq3
  have HB4 := Lib.hid hq4
  have HB5 := Lib.hid hq5
  clear hq1 hq2 hq3 hq4 hq5 hL2
  cases b1
  · have HR := class_bounds HB1.out
    go_wp2_with fail
    refine (CB.out (Ext.here _ _)).mono ?_
    rintro e w' ⟨rfl, Z, rfl⟩
    go_wp2
    go_ret
    exact ⟨ret_int HR.out.symm, HL2.out Z⟩
  have CG := CG.out HB1.out
  rw [HB5.out] at CG
  go_wp2_with fail
  refine (CB.out (Ext.here _ _)).mono ?_
  rintro e w' ⟨rfl, Z, rfl⟩
  cases b2
  · have HR := class_names HB1.out HB2.out
    go_wp2_with (go_at_call 81; (first | refine (CN.out _).mono ?_ | refine (CN.out (Ext.here _ _)).mono ?_); rintro e w' ⟨rfl, Y, rfl⟩)
    go_ret
    exact ⟨ret_int HR.out.symm, HL2.out Y⟩
  cases b3
  · have HR := class_table HB1.out HB2.out HB3.out
    go_wp2_with (first | (go_at_call 81; (first | refine (CN.out _).mono ?_ | refine (CN.out (Ext.here _ _)).mono ?_); rintro e w' ⟨rfl, Y, rfl⟩) | (go_at_call 82; (first | refine (CT.out _).mono ?_ | refine (CT.out (Ext.here _ _)).mono ?_); rintro e w' ⟨rfl, Y, rfl⟩))
    go_ret
    exact ⟨ret_int HR.out.symm, HL2.out Y⟩
  have HR := class_rest HB1.out HB2.out HB3.out
  cases b4
  · cases b5
    all_goals
      go_wp2_with (first | (go_at_call 81; (first | refine (CN.out _).mono ?_ | refine (CN.out (Ext.here _ _)).mono ?_); rintro e w' ⟨rfl, Y, rfl⟩) | (go_at_call 82; (first | refine (CT.out _).mono ?_ | refine (CT.out (Ext.here _ _)).mono ?_); rintro e w' ⟨rfl, Y, rfl⟩) | (go_at_call 83; (first | refine (CF.out _).mono ?_ | refine (CF.out (Ext.here _ _)).mono ?_); rintro e w' ⟨rfl, Y, rfl⟩) | (go_at_call 86; (first | refine (CG.out _).mono ?_ | refine (CG.out (Ext.here _ _)).mono ?_); rintro e w' ⟨rfl, Y, rfl⟩))
      go_ret
      exact ⟨ret_int (by rw [HR.out, HMM.out, HB4.out, HB5.out]; simp), HL2.out Y⟩
  · go_wp2_with (first | (go_at_call 81; (first | refine (CN.out _).mono ?_ | refine (CN.out (Ext.here _ _)).mono ?_); rintro e w' ⟨rfl, Y, rfl⟩) | (go_at_call 82; (first | refine (CT.out _).mono ?_ | refine (CT.out (Ext.here _ _)).mono ?_); rintro e w' ⟨rfl, Y, rfl⟩) | (go_at_call 83; (first | refine (CF.out _).mono ?_ | refine (CF.out (Ext.here _ _)).mono ?_); rintro e w' ⟨rfl, Y, rfl⟩))
    go_ret
    exact ⟨ret_int (by rw [HR.out, HMM.out, HB4.out]; simp), HL2.out Y⟩
set_option maxHeartbeats 400000 in
theorem sound_any (v : Value) (r : Request) (w : World) (h : RReq 16777216 w w.heap.size v r) : Calls Tryz.prog 62 #[v] w fun e w' => e = .returned (.bool (soundR r)) ∧ Below w.heap.size w w' := by
  have HRQ := Lib.hid h
  obtain ⟨A1, c1, A2, c2, A3, c3, rfl, _⟩ := h.opn
  have hb0 : Below w.heap.size w (w.alloc (.cells #[.int .i64 r.way, .int .i64 r.pallet.w, .int .i64 r.pallet.d, .int .i64 r.pallet.h, .int .i64 r.pallet.gram, .int .i64 r.classes, .slice A1 r.pairs.length c1, .slice A2 r.types.length c2, .int .i64 r.master, .slice A3 r.items.length c3] 37)) := (by repeat' (first | with_reducible exact Below.refl _ _ | with_reducible assumption | with_reducible refine Below.drew ?_ | with_reducible refine Below.alloc ?_ ?_ _ | with_reducible refine Below.setCell ?_ ?_ _ | with_reducible refine below_drewN ?_ _ | (simp; done) | (simp; omega)))
  have HC := Lib.hid (iClass_any _ r _ (HRQ.out.next hb0))
  go_enter Tryz.func62, Tryz.ntmps62
  go_wp2_with fail
  refine HC.out.mono ?_
  rintro e w2 ⟨rfl, hb2⟩
  go_wp2
  go_ret
  exact ⟨rfl, bstep hb0 hb2⟩
end Go.Proofs.YteamlfcfillbjaaGreat
