/-
  The law FnExactMoved: whatever the two plans, the program's Moved answers what the reference's answers, in memory of its own, and leaves the plans alone.
-/
import Derived.Test.YtjmokahibcbjlaaMv
import Derived.Test.YtjmokahibcbjlaaMe
import Derived.Test.YtjmokahibcbjlaaRp
import Derived.Test.YtjmokahibcbjlaaEx
namespace Go.Proofs.Ytjmokahibcbjlaa
set_option linter.unusedVariables false
set_option linter.unusedSimpArgs false
open Go.RowKit Go.WideShapes Go.ChangeShapes Go.ChangeAt Go.Deep
open Go.ChangeMaps (open_string shut_string)
set_option maxHeartbeats 1000000 in
theorem FnExactMoved_walk (v0 : Value) (v1 : Value) (w : World) (h0 : ∃ p, RPlan 9223372036854775807 w w.heap.size v0 p) (h1 : ∃ p, RPlan 9223372036854775807 w w.heap.size v1 p) :
    Calls Try.prog 5 #[v0, v1] w fun e w' => e = .returned (.bool true) ∧ Below w.heap.size w w' := by
  obtain ⟨p0, va0, vb0, rfl, ha0, hb0⟩ := h0
  have H0 := Lib.hid (show RPlan 9223372036854775807 w w.heap.size (.agg #[va0, vb0]) p0 from ⟨_, _, rfl, ha0, hb0⟩)
  clear ha0 hb0
  obtain ⟨p1, va1, vb1, rfl, ha1, hb1⟩ := h1
  have H1 := Lib.hid (show RPlan 9223372036854775807 w w.heap.size (.agg #[va1, vb1]) p1 from ⟨_, _, rfl, ha1, hb1⟩)
  clear ha1 hb1
  have hB0 : Below w.heap.size w ((w.alloc (.cells #[va0, vb0] 25)).alloc (.cells #[va1, vb1] 25)) := (by repeat' (first | with_reducible exact Below.refl _ _ | with_reducible assumption | with_reducible refine Below.drew ?_ | with_reducible refine Below.alloc ?_ ?_ _ | with_reducible refine Below.setCell ?_ ?_ _ | with_reducible refine below_drewN ?_ _ | (simp; done) | (simp; omega)))
  have HX0 : Hid (((w.alloc (.cells #[va0, vb0] 25)).alloc (.cells #[va1, vb1] 25)).heap[w.heap.size]? = some (.cells #[va0, vb0] 25 (0, 0))) := Lib.hid (by (simp only [heap_alloc_if, World.size_alloc]; repeat (first | rw [if_neg (by omega)] | rw [if_pos (by omega)] | rw [if_pos trivial])))
  have HX1 : Hid (((w.alloc (.cells #[va0, vb0] 25)).alloc (.cells #[va1, vb1] 25)).heap[w.heap.size + 1]? = some (.cells #[va1, vb1] 25 (0, 0))) := Lib.hid (by (simp only [heap_alloc_if, World.size_alloc]; repeat (first | rw [if_neg (by omega)] | rw [if_pos (by omega)] | rw [if_pos trivial])))
  go_enter Try.func5, Try.ntmps5
  have hz := szPlan_any _ p0 1048576 _ (H0.out.next hB0) (by omega) (by omega)
  obtain ⟨t0, ht⟩ : ∃ t, szR 1048576 ((p0).bulk : Nat) = t := ⟨_, rfl⟩
  rw [ht] at hz
  have HT0 := Lib.hid ht
  have HZ := Lib.hid hz
  clear ht hz
  go_wp2_with fail
  refine (HZ.out).mono ?_
  rintro e w1 ⟨rfl, hb1⟩
  clear HZ
  have HS1 := Lib.hid hb1.size
  have hW2 := bstep hB0 hb1
  by_cases hneg0 : t0 < 0
  · go_wp2
    go_ret
    exact ⟨rfl, hW2⟩
  have hle0 := szR_ok (show 0 ≤ szR 1048576 ((p0).bulk : Nat) by rw [HT0.out]; omega)
  have hte0 : 0 ≤ t0 ∧ t0 ≤ 1048576 := by have h1 := szR_eq (show 0 ≤ szR 1048576 ((p0).bulk : Nat) by rw [HT0.out]; omega); rw [HT0.out] at h1; omega
  obtain ⟨htl0, hth0⟩ := hte0
  have hL0 : (p0).bulk ≤ 1048576 := by omega
  have H0 := Lib.hid (H0.out.wide (show (p0).bulk ≤ 16777216 by omega))
  have HX3 := Lib.hid (blk_next HX1.out hb1)
  have hc4 := fun j => cell_of_row _ _ j _ _ (0, 0) HX3.out
  have hl5 := lt_of_block HX3.out
  have hz := szPlan_any _ p1 t0 _ (H1.out.next hW2) (by omega) (by omega)
  obtain ⟨t1, ht⟩ : ∃ t, szR t0 ((p1).bulk : Nat) = t := ⟨_, rfl⟩
  rw [ht] at hz
  have HT1 := Lib.hid ht
  have HZ := Lib.hid hz
  clear ht hz
  go_wp2_with fail
  refine (HZ.out).mono ?_
  rintro e w2 ⟨rfl, hb2⟩
  clear HZ
  have HS6 := Lib.hid hb2.size
  have hW7 := bstep hW2 hb2
  clear hW2
  by_cases hneg1 : t1 < 0
  · go_wp2
    go_ret
    exact ⟨rfl, hW7⟩
  have hle1 := szR_ok (show 0 ≤ szR t0 ((p1).bulk : Nat) by rw [HT1.out]; omega)
  have hte1 : 0 ≤ t1 ∧ t1 ≤ 1048576 := by have h1 := szR_eq (show 0 ≤ szR t0 ((p1).bulk : Nat) by rw [HT1.out]; omega); rw [HT1.out] at h1; omega
  obtain ⟨htl1, hth1⟩ := hte1
  have hL1 : (p1).bulk ≤ 1048576 := by omega
  have H1 := Lib.hid (H1.out.wide (show (p1).bulk ≤ 16777216 by omega))
  clear hc4 hl5
  have HX8 := Lib.hid (blk_next (blk_next HX0.out hb1) hb2)
  have hc9 := fun j => cell_of_row _ _ j _ _ (0, 0) HX8.out
  have hl10 := lt_of_block HX8.out
  have HX11 := Lib.hid (blk_next HX3.out hb2)
  have hc12 := fun j => cell_of_row _ _ j _ _ (0, 0) HX11.out
  have hl13 := lt_of_block HX11.out
  go_wp2_with fail
  have hD14 : Below w2.heap.size w2 w2.drew := (Below.refl _ _).drew
  have hq15 : w2.cell? ⟨w.heap.size, 0, none⟩ = some (va0) := cell_of_row _ _ 0 _ _ (0, 0) HX8.out
  have hq16 : w2.cell? ⟨w.heap.size, 1, none⟩ = some (vb0) := cell_of_row _ _ 1 _ _ (0, 0) HX8.out
  have hq17 : w2.cell? ⟨w.heap.size + 1, 0, none⟩ = some (va1) := cell_of_row _ _ 0 _ _ (0, 0) HX11.out
  have hq18 : w2.cell? ⟨w.heap.size + 1, 1, none⟩ = some (vb1) := cell_of_row _ _ 1 _ _ (0, 0) HX11.out
  have hl19 := lt_of_block HX8.out
  have hl20 := lt_of_block HX11.out
  clear hc9 hl10 hc12 hl13
  have HS21 := Lib.hid hD14.size
  have hW22 := bstep hW7 hD14
  clear hW7
  go_region_held3 (fun W' => W'.cell? ⟨w.heap.size, 0, none⟩ = some (va0) ∧ W'.cell? ⟨w.heap.size, 1, none⟩ = some (vb0) ∧ W'.cell? ⟨w.heap.size + 1, 0, none⟩ = some (va1) ∧ W'.cell? ⟨w.heap.size + 1, 1, none⟩ = some (vb1))
      (first | go_keep | exact ⟨k24, k25, k26, k27⟩ | exact ⟨k29, k30, k31, k32⟩ | exact ⟨k34, k35, k36, k37⟩)
      (first
        | (go_at_call 8; ((with_reducible refine (toPlan_any (.agg #[va0, vb0]) p0 _ (H0.out.next hW22)).mono ?_)); rintro e wy23 ⟨uy23, fy23, rfl, hoy23, hby23⟩; have hsy23 := hby23.size; have hwy23 := bstep hW22 hby23; have k24 := (hby23.cell (p := ⟨w.heap.size, 0, none⟩) hl19).trans hq15; have k25 := (hby23.cell (p := ⟨w.heap.size, 1, none⟩) hl19).trans hq16; have k26 := (hby23.cell (p := ⟨w.heap.size + 1, 0, none⟩) hl20).trans hq17; have k27 := (hby23.cell (p := ⟨w.heap.size + 1, 1, none⟩) hl20).trans hq18)
        | (go_at_call 8; ((with_reducible refine (toPlan_any (.agg #[va1, vb1]) p1 _ (H1.out.next hwy23)).mono ?_)); rintro e wy28 ⟨uy28, fy28, rfl, hoy28, hby28⟩; have hsy28 := Nat.le_trans hsy23 hby28.size; have hwy28 := bstep hwy23 hby28; have k29 := (hby28.cell (p := ⟨w.heap.size, 0, none⟩) (Nat.lt_of_lt_of_le hl19 hsy23)).trans k24; have k30 := (hby28.cell (p := ⟨w.heap.size, 1, none⟩) (Nat.lt_of_lt_of_le hl19 hsy23)).trans k25; have k31 := (hby28.cell (p := ⟨w.heap.size + 1, 0, none⟩) (Nat.lt_of_lt_of_le hl20 hsy23)).trans k26; have k32 := (hby28.cell (p := ⟨w.heap.size + 1, 1, none⟩) (Nat.lt_of_lt_of_le hl20 hsy23)).trans k27)
        | (go_at_call 18; refine (sMoved_any _ _ p0 p1 _ ((hoy23.next hby28).read (by omega)) (hoy28.read (by omega)) (by omega) (by omega)).mono ?_; rintro e wy33 ⟨uy33, fy33, rfl, hoy33, hby33⟩; have hsy33 := hby33.size; have hwy33 := bstep hwy28 hby33; have k34 := (hby33.cell (p := ⟨w.heap.size, 0, none⟩) (Nat.lt_of_lt_of_le hl19 hsy28)).trans k29; have k35 := (hby33.cell (p := ⟨w.heap.size, 1, none⟩) (Nat.lt_of_lt_of_le hl19 hsy28)).trans k30; have k36 := (hby33.cell (p := ⟨w.heap.size + 1, 0, none⟩) (Nat.lt_of_lt_of_le hl20 hsy28)).trans k31; have k37 := (hby33.cell (p := ⟨w.heap.size + 1, 1, none⟩) (Nat.lt_of_lt_of_le hl20 hsy28)).trans k32))
  have HS38 := Lib.hid hby23.size
  have HS39 := Lib.hid hby28.size
  have HS40 := Lib.hid hby33.size
  have HL42 := Lib.hid hoy33.lt
  have HO43 := Lib.hid hoy33
  clear hoy33
  have HX44 := Lib.hid (blk_next (blk_next (blk_next (blk_next HX8.out hD14) hby23) hby28) hby33)
  have hc45 := fun j => cell_of_row _ _ j _ _ (0, 0) HX44.out
  have hl46 := lt_of_block HX44.out
  go_wp2_with fail
  refine (toPlan_any _ p0 _ (H0.out.next hwy33)).mono ?_
  rintro e w4 ⟨u4, f4, rfl, ho, hb4⟩
  have HS48 := Lib.hid hb4.size
  have hW49 := bstep hwy33 hb4
  have HL50 := Lib.hid ho.lt
  have HO51 := Lib.hid ho
  clear ho
  obtain ⟨Ak471, nk471, ck471, Ak472, nk472, ck472, rfl⟩ := OPlan.form HO51.out
  have hA52 : Below w4.heap.size w4 (w4.alloc (.cells #[.slice Ak471 nk471 ck471, .slice Ak472 nk472 ck472] 30)) := (by repeat' (first | with_reducible exact Below.refl _ _ | with_reducible assumption | with_reducible refine Below.drew ?_ | with_reducible refine Below.alloc ?_ ?_ _ | with_reducible refine Below.setCell ?_ ?_ _ | with_reducible refine below_drewN ?_ _ | (simp; done) | (simp; omega)))
  have HS53 := Lib.hid hA52.size
  have hW54 := bstep hW49 hA52
  clear hW49
  have HX55 := Lib.hid (heap_alloc_new w4 (.cells #[.slice Ak471 nk471 ck471, .slice Ak472 nk472 ck472] 30))
  clear hc45 hl46
  have HX56 := Lib.hid (blk_next (blk_next (blk_next (blk_next (blk_next (blk_next HX11.out hD14) hby23) hby28) hby33) hb4) hA52)
  have hc57 := fun j => cell_of_row _ _ j _ _ (0, 0) HX56.out
  have hl58 := lt_of_block HX56.out
  go_wp2_with fail
  refine (toPlan_any _ p1 _ (H1.out.next hW54)).mono ?_
  rintro e w5 ⟨u5, f5, rfl, ho, hb5⟩
  have HS60 := Lib.hid hb5.size
  have hW61 := bstep hW54 hb5
  clear hW54
  have HL62 := Lib.hid ho.lt
  have HO63 := Lib.hid ho
  clear ho
  obtain ⟨Ak591, nk591, ck591, Ak592, nk592, ck592, rfl⟩ := OPlan.form HO63.out
  have hA64 : Below w5.heap.size w5 (w5.alloc (.cells #[.slice Ak591 nk591 ck591, .slice Ak592 nk592 ck592] 30)) := (by repeat' (first | with_reducible exact Below.refl _ _ | with_reducible assumption | with_reducible refine Below.drew ?_ | with_reducible refine Below.alloc ?_ ?_ _ | with_reducible refine Below.setCell ?_ ?_ _ | with_reducible refine below_drewN ?_ _ | (simp; done) | (simp; omega)))
  have HS65 := Lib.hid hA64.size
  have hW66 := bstep hW61 hA64
  clear hW61
  have HX67 := Lib.hid (heap_alloc_new w5 (.cells #[.slice Ak591 nk591 ck591, .slice Ak592 nk592 ck592] 30))
  clear hc57 hl58
  have HX68 := Lib.hid (blk_next (blk_next HX55.out hb5) hA64)
  have hc69 := fun j => cell_of_row _ _ j _ _ (0, 0) HX68.out
  have hl70 := lt_of_block HX68.out
  have hc71 := fun j => cell_of_row _ _ j _ _ (0, 0) HX67.out
  have hl72 := lt_of_block HX67.out
  have HO73 := Lib.hid (((HO51.out.next hA52).next hb5).next hA64)
  have HO74 := Lib.hid (HO63.out.next hA64)
  go_wp2_with fail
  refine (iMoved_any _ _ p0 p1 _ (HO73.out.read (by omega)) (HO74.out.read (by omega)) (by omega) (by omega)).mono ?_
  rintro e w6 ⟨u6, f6, rfl, ho6, hb6⟩
  have HS75 := Lib.hid hb6.size
  have hW76 := bstep hW66 hb6
  clear hW66
  have HL78 := Lib.hid ho6.lt
  have HO79 := Lib.hid ho6
  clear ho6
  clear hc69 hl70 hc71 hl72
  have HO80 := Lib.hid (((((HO43.out.next hb4).next hA52).next hb5).next hA64).next hb6)
  go_wp2_with fail
  refine (eqIntS_any _ _ (mov p0 p1) (mov p0 p1) _ (HO79.out.read (by have := mov_len p0 p1; omega)) (HO80.out.read (by have := mov_len p0 p1; omega))).mono ?_
  rintro e w7 ⟨rfl, hb7⟩
  have HS81 := Lib.hid hb7.size
  have hW82 := bstep hW76 hb7
  clear hW76
  have HX83 := Lib.hid (blk_next (blk_next HX68.out hb6) hb7)
  have hc84 := fun j => cell_of_row _ _ j _ _ (0, 0) HX83.out
  have hl85 := lt_of_block HX83.out
  have HX86 := Lib.hid (blk_next (blk_next (blk_next (blk_next (blk_next (blk_next HX44.out hb4) hA52) hb5) hA64) hb6) hb7)
  have hc87 := fun j => cell_of_row _ _ j _ _ (0, 0) HX86.out
  have hl88 := lt_of_block HX86.out
  go_wp2_with fail
  have hD89 : Below w7.heap.size w7 w7.drew := (Below.refl _ _).drew
  have hl90 := lt_of_block HX83.out
  have hq91 : w7.cell? ⟨w4.heap.size, 0, none⟩ = some (.slice Ak471 nk471 ck471) := cell_of_row _ _ 0 _ _ (0, 0) HX83.out
  have hq92 : w7.cell? ⟨w4.heap.size, 1, none⟩ = some (.slice Ak472 nk472 ck472) := cell_of_row _ _ 1 _ _ (0, 0) HX83.out
  have hl93 := lt_of_block HX86.out
  have hq94 : w7.cell? ⟨w.heap.size, 0, none⟩ = some (va0) := cell_of_row _ _ 0 _ _ (0, 0) HX86.out
  have hq95 : w7.cell? ⟨w.heap.size, 1, none⟩ = some (vb0) := cell_of_row _ _ 1 _ _ (0, 0) HX86.out
  have HO96 := Lib.hid ((HO73.out.next hb6).next hb7)
  clear hc84 hl85 hc87 hl88
  have HS97 := Lib.hid hD89.size
  have hW98 := bstep hW82 hD89
  clear hW82
  have HO99 := Lib.hid (HO96.out.next hD89)
  go_region_held3 (fun W' => W'.cell? ⟨w4.heap.size, 0, none⟩ = some (.slice Ak471 nk471 ck471) ∧ W'.cell? ⟨w4.heap.size, 1, none⟩ = some (.slice Ak472 nk472 ck472) ∧ W'.cell? ⟨w.heap.size, 0, none⟩ = some (va0) ∧ W'.cell? ⟨w.heap.size, 1, none⟩ = some (vb0))
      (first | go_keep | exact ⟨k102, k103, k104, k105⟩ | exact ⟨k106, k107, k108, k109⟩)
      (first
        | (go_at_call 8; refine (toPlan_any _ p0 _ (H0.out.next hW98)).mono ?_; rintro e wy100 ⟨uy100, fy100, rfl, hoy100, hby100⟩; have hsy100 := hby100.size; have k102 := (hby100.cell (p := ⟨w4.heap.size, 0, none⟩) hl90).trans hq91; have k103 := (hby100.cell (p := ⟨w4.heap.size, 1, none⟩) hl90).trans hq92; have k104 := (hby100.cell (p := ⟨w.heap.size, 0, none⟩) hl93).trans hq94; have k105 := (hby100.cell (p := ⟨w.heap.size, 1, none⟩) hl93).trans hq95)
        | (go_at_call 10; refine (eqPlan_any _ _ (p0) p0 _ ((HO99.out.next hby100).read (by omega)) (hoy100.read (by omega))).mono ?_; rintro e wy101 ⟨rfl, hby101⟩; have k106 := (hby101.cell (p := ⟨w4.heap.size, 0, none⟩) (Nat.lt_of_lt_of_le hl90 hsy100)).trans k102; have k107 := (hby101.cell (p := ⟨w4.heap.size, 1, none⟩) (Nat.lt_of_lt_of_le hl90 hsy100)).trans k103; have k108 := (hby101.cell (p := ⟨w.heap.size, 0, none⟩) (Nat.lt_of_lt_of_le hl93 hsy100)).trans k104; have k109 := (hby101.cell (p := ⟨w.heap.size, 1, none⟩) (Nat.lt_of_lt_of_le hl93 hsy100)).trans k105))
  have HS110 := Lib.hid hby100.size
  have hW111 := bstep hW98 hby100
  clear hW98
  have HS112 := Lib.hid hby101.size
  have hW113 := bstep hW111 hby101
  clear hW111
  have HX114 := Lib.hid (blk_next (blk_next (blk_next (blk_next (blk_next HX67.out hb6) hb7) hD89) hby100) hby101)
  have hc115 := fun j => cell_of_row _ _ j _ _ (0, 0) HX114.out
  have hl116 := lt_of_block HX114.out
  have HX117 := Lib.hid (blk_next (blk_next (blk_next (blk_next (blk_next (blk_next (blk_next HX56.out hb5) hA64) hb6) hb7) hD89) hby100) hby101)
  have hc118 := fun j => cell_of_row _ _ j _ _ (0, 0) HX117.out
  have hl119 := lt_of_block HX117.out
  go_wp2_with fail
  have hD120 : Below wy101.heap.size wy101 wy101.drew := (Below.refl _ _).drew
  have hl121 := lt_of_block HX114.out
  have hq122 : wy101.cell? ⟨w5.heap.size, 0, none⟩ = some (.slice Ak591 nk591 ck591) := cell_of_row _ _ 0 _ _ (0, 0) HX114.out
  have hq123 : wy101.cell? ⟨w5.heap.size, 1, none⟩ = some (.slice Ak592 nk592 ck592) := cell_of_row _ _ 1 _ _ (0, 0) HX114.out
  have hl124 := lt_of_block HX117.out
  have hq125 : wy101.cell? ⟨w.heap.size + 1, 0, none⟩ = some (va1) := cell_of_row _ _ 0 _ _ (0, 0) HX117.out
  have hq126 : wy101.cell? ⟨w.heap.size + 1, 1, none⟩ = some (vb1) := cell_of_row _ _ 1 _ _ (0, 0) HX117.out
  have HO127 := Lib.hid (((((HO74.out.next hb6).next hb7).next hD89).next hby100).next hby101)
  clear hc115 hl116 hc118 hl119
  have HS128 := Lib.hid hD120.size
  have hW129 := bstep hW113 hD120
  clear hW113
  have HO130 := Lib.hid (HO127.out.next hD120)
  go_region_held3 (fun W' => W'.cell? ⟨w5.heap.size, 0, none⟩ = some (.slice Ak591 nk591 ck591) ∧ W'.cell? ⟨w5.heap.size, 1, none⟩ = some (.slice Ak592 nk592 ck592) ∧ W'.cell? ⟨w.heap.size + 1, 0, none⟩ = some (va1) ∧ W'.cell? ⟨w.heap.size + 1, 1, none⟩ = some (vb1))
      (first | go_keep | exact ⟨k133, k134, k135, k136⟩ | exact ⟨k137, k138, k139, k140⟩)
      (first
        | (go_at_call 8; refine (toPlan_any _ p1 _ (H1.out.next hW129)).mono ?_; rintro e wy131 ⟨uy131, fy131, rfl, hoy131, hby131⟩; have hsy131 := hby131.size; have k133 := (hby131.cell (p := ⟨w5.heap.size, 0, none⟩) hl121).trans hq122; have k134 := (hby131.cell (p := ⟨w5.heap.size, 1, none⟩) hl121).trans hq123; have k135 := (hby131.cell (p := ⟨w.heap.size + 1, 0, none⟩) hl124).trans hq125; have k136 := (hby131.cell (p := ⟨w.heap.size + 1, 1, none⟩) hl124).trans hq126)
        | (go_at_call 10; refine (eqPlan_any _ _ (p1) p1 _ ((HO130.out.next hby131).read (by omega)) (hoy131.read (by omega))).mono ?_; rintro e wy132 ⟨rfl, hby132⟩; have k137 := (hby132.cell (p := ⟨w5.heap.size, 0, none⟩) (Nat.lt_of_lt_of_le hl121 hsy131)).trans k133; have k138 := (hby132.cell (p := ⟨w5.heap.size, 1, none⟩) (Nat.lt_of_lt_of_le hl121 hsy131)).trans k134; have k139 := (hby132.cell (p := ⟨w.heap.size + 1, 0, none⟩) (Nat.lt_of_lt_of_le hl124 hsy131)).trans k135; have k140 := (hby132.cell (p := ⟨w.heap.size + 1, 1, none⟩) (Nat.lt_of_lt_of_le hl124 hsy131)).trans k136))
  have HS141 := Lib.hid hby131.size
  have hW142 := bstep hW129 hby131
  clear hW129
  have HS143 := Lib.hid hby132.size
  have hW144 := bstep hW142 hby132
  clear hW142
  have HO145 := Lib.hid (((((HO99.out.next hby100).next hby101).next hD120).next hby131).next hby132)
  have HX146 := Lib.hid (blk_next (blk_next (blk_next (blk_next (blk_next (blk_next HX83.out hD89) hby100) hby101) hD120) hby131) hby132)
  have hc147 := fun j => cell_of_row _ _ j _ _ (0, 0) HX146.out
  have hl148 := lt_of_block HX146.out
  have hcn7 : cntP (p0) ≤ 4194304 := by have h1 := cntP_le (p0); omega
  go_wp2_with fail
  refine (markPlan_any _ (p0) _ (1) _ _ HO145.out (by omega) (by omega) (by omega)).mono ?_
  rintro e w8 ⟨rfl, ho, ht8⟩
  have HS149 := Lib.hid ht8.size
  have hW150 := hW144.trans (ht8.below hW144.size (fun b hb => by have h1 := HL50.out b hb; have := hB0.size; have := HS1.out; have := HS6.out; have := HS21.out; have := HS38.out; have := HS39.out; have := HS40.out; have := HS48.out; have := HS53.out; have := HS60.out; have := HS65.out; have := HS75.out; have := HS81.out; have := HS97.out; have := HS110.out; have := HS112.out; have := HS128.out; have := HS141.out; have := HS143.out; simp only [World.size_alloc] at *; omega))
  have HO151 := Lib.hid ho
  clear ho
  have HO152 := Lib.hid (((HO130.out.next hby131).next hby132).tch ht8 (fun b hb hm => by have h1 := HL62.out b hb; have h2 := HL50.out b hm; have := HS1.out; have := HS6.out; have := HS21.out; have := HS38.out; have := HS39.out; have := HS40.out; have := HS48.out; have := HS53.out; have := HS60.out; have := HS65.out; have := HS75.out; have := HS81.out; have := HS97.out; have := HS110.out; have := HS112.out; have := HS128.out; have := HS141.out; have := HS143.out; have := HS149.out; simp only [World.size_alloc] at *; omega))
  clear hc147 hl148
  have HX153 := Lib.hid (blk_tch (blk_next (blk_next (blk_next HX114.out hD120) hby131) hby132) ht8 (fun hm => by have h1 := HL50.out _ hm; have := HS1.out; have := HS6.out; have := HS21.out; have := HS38.out; have := HS39.out; have := HS40.out; have := HS48.out; have := HS53.out; have := HS60.out; have := HS65.out; have := HS75.out; have := HS81.out; have := HS97.out; have := HS110.out; have := HS112.out; have := HS128.out; have := HS141.out; have := HS143.out; have := HS149.out; simp only [World.size_alloc] at *; omega))
  have hc154 := fun j => cell_of_row _ _ j _ _ (0, 0) HX153.out
  have hl155 := lt_of_block HX153.out
  have hcn8 : cntP (p1) ≤ 4194304 := by have h1 := cntP_le (p1); omega
  go_wp2_with fail
  refine (markPlan_any _ (p1) _ (1 + ((cntP (p0) : Nat) : Int)) _ _ HO152.out (by omega) (by omega) (by omega)).mono ?_
  rintro e w9 ⟨rfl, ho, ht9⟩
  have HS156 := Lib.hid ht9.size
  have hW157 := hW150.trans (ht9.below hW150.size (fun b hb => by have h1 := HL62.out b hb; have := hB0.size; have := HS1.out; have := HS6.out; have := HS21.out; have := HS38.out; have := HS39.out; have := HS40.out; have := HS48.out; have := HS53.out; have := HS60.out; have := HS65.out; have := HS75.out; have := HS81.out; have := HS97.out; have := HS110.out; have := HS112.out; have := HS128.out; have := HS141.out; have := HS143.out; have := HS149.out; simp only [World.size_alloc] at *; omega))
  have HO158 := Lib.hid ho
  clear ho
  clear hc154 hl155
  have HO159 := Lib.hid (((((((((HO79.out.next hb7).next hD89).next hby100).next hby101).next hD120).next hby131).next hby132).tch ht8 (fun b hb hm => by have h1 := HL78.out b hb; have h2 := HL50.out b hm; have := HS1.out; have := HS6.out; have := HS21.out; have := HS38.out; have := HS39.out; have := HS40.out; have := HS48.out; have := HS53.out; have := HS60.out; have := HS65.out; have := HS75.out; have := HS81.out; have := HS97.out; have := HS110.out; have := HS112.out; have := HS128.out; have := HS141.out; have := HS143.out; have := HS149.out; have := HS156.out; simp only [World.size_alloc] at *; omega)).tch ht9 (fun b hb hm => by have h1 := HL78.out b hb; have h2 := HL62.out b hm; have := HS1.out; have := HS6.out; have := HS21.out; have := HS38.out; have := HS39.out; have := HS40.out; have := HS48.out; have := HS53.out; have := HS60.out; have := HS65.out; have := HS75.out; have := HS81.out; have := HS97.out; have := HS110.out; have := HS112.out; have := HS128.out; have := HS141.out; have := HS143.out; have := HS149.out; have := HS156.out; simp only [World.size_alloc] at *; omega))
  have HO160 := Lib.hid (((((((((HO80.out.next hb7).next hD89).next hby100).next hby101).next hD120).next hby131).next hby132).tch ht8 (fun b hb hm => by have h1 := HL42.out b hb; have h2 := HL50.out b hm; have := HS1.out; have := HS6.out; have := HS21.out; have := HS38.out; have := HS39.out; have := HS40.out; have := HS48.out; have := HS53.out; have := HS60.out; have := HS65.out; have := HS75.out; have := HS81.out; have := HS97.out; have := HS110.out; have := HS112.out; have := HS128.out; have := HS141.out; have := HS143.out; have := HS149.out; have := HS156.out; simp only [World.size_alloc] at *; omega)).tch ht9 (fun b hb hm => by have h1 := HL42.out b hb; have h2 := HL62.out b hm; have := HS1.out; have := HS6.out; have := HS21.out; have := HS38.out; have := HS39.out; have := HS40.out; have := HS48.out; have := HS53.out; have := HS60.out; have := HS65.out; have := HS75.out; have := HS81.out; have := HS97.out; have := HS110.out; have := HS112.out; have := HS128.out; have := HS141.out; have := HS143.out; have := HS149.out; have := HS156.out; simp only [World.size_alloc] at *; omega))
  go_wp2_with fail
  refine (eqIntS_any _ _ (mov p0 p1) (mov p0 p1) _ (HO159.out.read (by have := mov_len p0 p1; omega)) (HO160.out.read (by have := mov_len p0 p1; omega))).mono ?_
  rintro e w10 ⟨rfl, hb10⟩
  have HS161 := Lib.hid hb10.size
  have hW162 := bstep hW157 hb10
  clear hW157
  have HO163 := Lib.hid (HO159.out.next hb10)
  have hcn10 : ((mov p0 p1)).length * 1 ≤ 4194304 := by have := mov_len p0 p1; omega
  go_wp2_with fail
  refine (markInts_any _ (mov p0 p1) _ (1) _ _ HO163.out (by have := mov_len p0 p1; omega) (by omega) (by omega)).mono ?_
  rintro e w11 ⟨rfl, ho, ht11⟩
  have HS164 := Lib.hid ht11.size
  have hW165 := hW162.trans (ht11.below hW162.size (fun b hb => by have h1 := HL78.out b hb; have := hB0.size; have := HS1.out; have := HS6.out; have := HS21.out; have := HS38.out; have := HS39.out; have := HS40.out; have := HS48.out; have := HS53.out; have := HS60.out; have := HS65.out; have := HS75.out; have := HS81.out; have := HS97.out; have := HS110.out; have := HS112.out; have := HS128.out; have := HS141.out; have := HS143.out; have := HS149.out; have := HS156.out; have := HS161.out; simp only [World.size_alloc] at *; omega))
  have HO166 := Lib.hid ho
  clear ho
  go_wp2_with fail
  refine (heldInts_any _ (mov p0 p1) (1) _ (HO166.out.read (by rw [mkS_length]; have := mov_len p0 p1; omega)) (by have := mov_len p0 p1; omega) (by omega) (by omega)).mono ?_
  rintro e w12 ⟨rfl, hb12⟩
  have HS167 := Lib.hid hb12.size
  have hW168 := bstep hW165 hb12
  clear hW165
  have HX169 := Lib.hid (blk_next (blk_tch (blk_next (blk_tch (blk_tch (blk_next (blk_next (blk_next (blk_next (blk_next (blk_next HX86.out hD89) hby100) hby101) hD120) hby131) hby132) ht8 (fun hm => by have h1 := HL50.out _ hm; have := HS1.out; have := HS6.out; have := HS21.out; have := HS38.out; have := HS39.out; have := HS40.out; have := HS48.out; have := HS53.out; have := HS60.out; have := HS65.out; have := HS75.out; have := HS81.out; have := HS97.out; have := HS110.out; have := HS112.out; have := HS128.out; have := HS141.out; have := HS143.out; have := HS149.out; have := HS156.out; have := HS161.out; have := HS164.out; have := HS167.out; simp only [World.size_alloc] at *; omega)) ht9 (fun hm => by have h1 := HL62.out _ hm; have := HS1.out; have := HS6.out; have := HS21.out; have := HS38.out; have := HS39.out; have := HS40.out; have := HS48.out; have := HS53.out; have := HS60.out; have := HS65.out; have := HS75.out; have := HS81.out; have := HS97.out; have := HS110.out; have := HS112.out; have := HS128.out; have := HS141.out; have := HS143.out; have := HS149.out; have := HS156.out; have := HS161.out; have := HS164.out; have := HS167.out; simp only [World.size_alloc] at *; omega)) hb10) ht11 (fun hm => by have h1 := HL78.out _ hm; have := HS1.out; have := HS6.out; have := HS21.out; have := HS38.out; have := HS39.out; have := HS40.out; have := HS48.out; have := HS53.out; have := HS60.out; have := HS65.out; have := HS75.out; have := HS81.out; have := HS97.out; have := HS110.out; have := HS112.out; have := HS128.out; have := HS141.out; have := HS143.out; have := HS149.out; have := HS156.out; have := HS161.out; have := HS164.out; have := HS167.out; simp only [World.size_alloc] at *; omega)) hb12)
  have hc170 := fun j => cell_of_row _ _ j _ _ (0, 0) HX169.out
  have hl171 := lt_of_block HX169.out
  have HX172 := Lib.hid (blk_next (blk_tch (blk_next (blk_tch (blk_tch (blk_next (blk_next (blk_next HX117.out hD120) hby131) hby132) ht8 (fun hm => by have h1 := HL50.out _ hm; have := HS1.out; have := HS6.out; have := HS21.out; have := HS38.out; have := HS39.out; have := HS40.out; have := HS48.out; have := HS53.out; have := HS60.out; have := HS65.out; have := HS75.out; have := HS81.out; have := HS97.out; have := HS110.out; have := HS112.out; have := HS128.out; have := HS141.out; have := HS143.out; have := HS149.out; have := HS156.out; have := HS161.out; have := HS164.out; have := HS167.out; simp only [World.size_alloc] at *; omega)) ht9 (fun hm => by have h1 := HL62.out _ hm; have := HS1.out; have := HS6.out; have := HS21.out; have := HS38.out; have := HS39.out; have := HS40.out; have := HS48.out; have := HS53.out; have := HS60.out; have := HS65.out; have := HS75.out; have := HS81.out; have := HS97.out; have := HS110.out; have := HS112.out; have := HS128.out; have := HS141.out; have := HS143.out; have := HS149.out; have := HS156.out; have := HS161.out; have := HS164.out; have := HS167.out; simp only [World.size_alloc] at *; omega)) hb10) ht11 (fun hm => by have h1 := HL78.out _ hm; have := HS1.out; have := HS6.out; have := HS21.out; have := HS38.out; have := HS39.out; have := HS40.out; have := HS48.out; have := HS53.out; have := HS60.out; have := HS65.out; have := HS75.out; have := HS81.out; have := HS97.out; have := HS110.out; have := HS112.out; have := HS128.out; have := HS141.out; have := HS143.out; have := HS149.out; have := HS156.out; have := HS161.out; have := HS164.out; have := HS167.out; simp only [World.size_alloc] at *; omega)) hb12)
  have hc173 := fun j => cell_of_row _ _ j _ _ (0, 0) HX172.out
  have hl174 := lt_of_block HX172.out
  go_wp2_with fail
  have hD175 : Below w12.heap.size w12 w12.drew := (Below.refl _ _).drew
  have hq176 : w12.cell? ⟨w.heap.size, 0, none⟩ = some (va0) := cell_of_row _ _ 0 _ _ (0, 0) HX169.out
  have hq177 : w12.cell? ⟨w.heap.size, 1, none⟩ = some (vb0) := cell_of_row _ _ 1 _ _ (0, 0) HX169.out
  have hq178 : w12.cell? ⟨w.heap.size + 1, 0, none⟩ = some (va1) := cell_of_row _ _ 0 _ _ (0, 0) HX172.out
  have hq179 : w12.cell? ⟨w.heap.size + 1, 1, none⟩ = some (vb1) := cell_of_row _ _ 1 _ _ (0, 0) HX172.out
  have hl180 := lt_of_block HX169.out
  have hl181 := lt_of_block HX172.out
  clear hc170 hl171 hc173 hl174
  have HS182 := Lib.hid hD175.size
  have hW183 := bstep hW168 hD175
  clear hW168
  go_region_held3 (fun W' => W'.cell? ⟨w.heap.size, 0, none⟩ = some (va0) ∧ W'.cell? ⟨w.heap.size, 1, none⟩ = some (vb0) ∧ W'.cell? ⟨w.heap.size + 1, 0, none⟩ = some (va1) ∧ W'.cell? ⟨w.heap.size + 1, 1, none⟩ = some (vb1))
      (first | go_keep | exact ⟨k185, k186, k187, k188⟩ | exact ⟨k190, k191, k192, k193⟩ | exact ⟨k195, k196, k197, k198⟩)
      (first
        | (go_at_call 8; ((with_reducible refine (toPlan_any (.agg #[va0, vb0]) p0 _ (H0.out.next hW183)).mono ?_)); rintro e wy184 ⟨uy184, fy184, rfl, hoy184, hby184⟩; have hsy184 := hby184.size; have hwy184 := bstep hW183 hby184; have k185 := (hby184.cell (p := ⟨w.heap.size, 0, none⟩) hl180).trans hq176; have k186 := (hby184.cell (p := ⟨w.heap.size, 1, none⟩) hl180).trans hq177; have k187 := (hby184.cell (p := ⟨w.heap.size + 1, 0, none⟩) hl181).trans hq178; have k188 := (hby184.cell (p := ⟨w.heap.size + 1, 1, none⟩) hl181).trans hq179)
        | (go_at_call 8; ((with_reducible refine (toPlan_any (.agg #[va1, vb1]) p1 _ (H1.out.next hwy184)).mono ?_)); rintro e wy189 ⟨uy189, fy189, rfl, hoy189, hby189⟩; have hsy189 := Nat.le_trans hsy184 hby189.size; have hwy189 := bstep hwy184 hby189; have k190 := (hby189.cell (p := ⟨w.heap.size, 0, none⟩) (Nat.lt_of_lt_of_le hl180 hsy184)).trans k185; have k191 := (hby189.cell (p := ⟨w.heap.size, 1, none⟩) (Nat.lt_of_lt_of_le hl180 hsy184)).trans k186; have k192 := (hby189.cell (p := ⟨w.heap.size + 1, 0, none⟩) (Nat.lt_of_lt_of_le hl181 hsy184)).trans k187; have k193 := (hby189.cell (p := ⟨w.heap.size + 1, 1, none⟩) (Nat.lt_of_lt_of_le hl181 hsy184)).trans k188)
        | (go_at_call 19; refine (iMoved_any _ _ p0 p1 _ ((hoy184.next hby189).read (by omega)) (hoy189.read (by omega)) (by omega) (by omega)).mono ?_; rintro e wy194 ⟨uy194, fy194, rfl, hoy194, hby194⟩; have hsy194 := hby194.size; have hwy194 := bstep hwy189 hby194; have k195 := (hby194.cell (p := ⟨w.heap.size, 0, none⟩) (Nat.lt_of_lt_of_le hl180 hsy189)).trans k190; have k196 := (hby194.cell (p := ⟨w.heap.size, 1, none⟩) (Nat.lt_of_lt_of_le hl180 hsy189)).trans k191; have k197 := (hby194.cell (p := ⟨w.heap.size + 1, 0, none⟩) (Nat.lt_of_lt_of_le hl181 hsy189)).trans k192; have k198 := (hby194.cell (p := ⟨w.heap.size + 1, 1, none⟩) (Nat.lt_of_lt_of_le hl181 hsy189)).trans k193))
  have HS199 := Lib.hid hby184.size
  have HS200 := Lib.hid hby189.size
  have HS201 := Lib.hid hby194.size
  have HL203 := Lib.hid hoy194.lt
  have HO204 := Lib.hid hoy194
  clear hoy194
  have HO205 := Lib.hid (((((((HO160.out.next hb10).tch ht11 (fun b hb hm => by have h1 := HL42.out b hb; have h2 := HL78.out b hm; have := HS1.out; have := HS6.out; have := HS21.out; have := HS38.out; have := HS39.out; have := HS40.out; have := HS48.out; have := HS53.out; have := HS60.out; have := HS65.out; have := HS75.out; have := HS81.out; have := HS97.out; have := HS110.out; have := HS112.out; have := HS128.out; have := HS141.out; have := HS143.out; have := HS149.out; have := HS156.out; have := HS161.out; have := HS164.out; have := HS167.out; have := HS182.out; have := HS199.out; have := HS200.out; have := HS201.out; simp only [World.size_alloc] at *; omega)).next hb12).next hD175).next hby184).next hby189).next hby194)
  go_wp2_with fail
  refine (eqIntS_any _ _ (mov p0 p1) (mov p0 p1) _ (HO204.out.read (by have := mov_len p0 p1; omega)) (HO205.out.read (by have := mov_len p0 p1; omega))).mono ?_
  rintro e w14 ⟨rfl, hb14⟩
  have HS206 := Lib.hid hb14.size
  have hW207 := bstep hwy194 hb14
  have HO208 := Lib.hid ((((((HO166.out.next hb12).next hD175).next hby184).next hby189).next hby194).next hb14)
  go_wp2_with fail
  refine (heldInts_any _ (mov p0 p1) (1) _ (HO208.out.read (by rw [mkS_length]; have := mov_len p0 p1; omega)) (by have := mov_len p0 p1; omega) (by omega) (by omega)).mono ?_
  rintro e w15 ⟨rfl, hb15⟩
  have HS209 := Lib.hid hb15.size
  have hW210 := bstep hW207 hb15
  clear hW207
  go_wp2
  go_ret
  exact ⟨rfl, hW210⟩
set_option maxRecDepth 100000 in
theorem FnExactMoved_lifted (os : Os) (started : os.Started) (H : Type) (enc : TypeId × Value → H) :
    ReturnsInHanded {} Try.checked os 5 .any (Rows.fnExactMovedSpec.pre6 enc Try.prog Try.f5 Rows.fnExactMovedRow.domain false) (Rows.fnExactMovedSpec.post enc Try.prog Try.f5 false true false false) := by
  refine returnsInHanded_of_change (C := Try.checked) own_ started (by kernel_rfl) Try.func5
    (ChangeSpec.witness6 (enc := enc) (C := Try.checked) false ⟨#[], #[.agg #[.slice none 0 0, .slice none 0 0], .agg #[.slice none 0 0, .slice none 0 0]], []⟩ 8 (by kernel_rfl) (by kernel_rfl) (by kernel_rfl) (by kernel_rfl)) ?_
  intro W base args ds gs before hval0 hW hcnd _
  have hval : ∀ (j : Nat) t v, Try.f5.params[j]? = some t → args[j]? = some v → Value.okWide Try.prog W .any base t v := hval0
  have hW' := hW
  obtain ⟨p, q, hA0, hV, rfl, hfz, hnd⟩ := hW
  have hA : DataW.TrodAll enc Try.prog W 0 (fun _ => true) true Try.f5.params.toList args.toList ds p := hA0
  rw [Try.params5] at hA hval
  obtain ⟨v0, vs0, d0, ds0, p0, q0, hargs, rfl, rfl, h0, r0⟩ := trodAll_cons hA
  obtain ⟨v1, vs1, d1, ds1, p1, q1, rfl, rfl, rfl, h1, r1⟩ := trodAll_cons r0
  obtain ⟨rfl, rfl, rfl⟩ := trodAll_nil r1
  obtain rfl : args = #[v0, v1] := by cases args; simp_all
  obtain ⟨rfl, rfl⟩ := trodVars_none hV
  clear hA0 hval0 hA
  simp only [List.append_nil] at hW'
  have hlt : ∀ x ∈ p0 ++ p1, x.block < W.heap.size := fun x hx => hW'.lt x (by simpa using hx)
  have k0 := h0
  have w0 := read_Plan (hval 0 25 v0 rfl rfl) h0 (fun x hx => hlt x (by simp [hx]))
  have k1 := h1
  have w1 := read_Plan (hval 1 25 v1 rfl rfl) h1 (fun x hx => hlt x (by simp [hx]))
  refine (FnExactMoved_walk v0 v1 W w0 w1).mono fun e W' ⟨he, hb⟩ => ?_
  subst he
  exact ⟨_, rfl, post_of_below (pa := p0 ++ (p1 ++ [])) (pv := []) hW' (fun _ _ _ => (trodAll_cons_mk (shut_bool Try.underlying4 _) trodAll_mk0)) (fun sp hsp => (trodAll_cons_mk (stays laidOut_ (by kernel_rfl) (of_decide_eq_true (by kernel_rfl)) k0 hb (fun x hx => hlt x (by simp [hx])) (fun x hx => hsp x (by simp [hx]))) (trodAll_cons_mk (stays laidOut_ (by kernel_rfl) (of_decide_eq_true (by kernel_rfl)) k1 hb (fun x hx => hlt x (by simp [hx])) (fun x hx => hsp x (by simp [hx]))) trodAll_mk0))) (fun _ _ => rfl) (by simp) hb
    (ok_one (by kernel_rfl) rfl (okWide_bool_mk Try.underlying4 _))⟩
theorem FnExactMoved_over : Rows.fnExactMovedRow.holds Try.pinned (OpenSpec.ofChange Rows.fnExactMovedSpec) :=
  OpenClaim.holds_of_wide 5 Try.f5 rfl rfl rfl rfl rfl rfl rfl ⟨rfl, rfl, rfl, rfl, rfl⟩ rfl rfl rfl rfl rfl (by kernel_rfl) Try.func5 (by kernel_rfl)
    (of_decide_eq_true (by kernel_rfl)) (by unfold Func.isWrapper; first | (rw [if_pos (by decide +kernel)]; kernel_rfl) | (rw [if_neg (by decide +kernel)]; exact ⟨rfl, rfl⟩))
    (fun os started H enc _ => FnExactMoved_lifted os started H enc)
theorem FnExactMoved_proved : Rows.FnExactMovedSaid := FnExactMoved_over
end Go.Proofs.Ytjmokahibcbjlaa
