/-
  The law FnExactPlanScaled: whatever the plan and the number, the program's PlanScaled answers what the reference's answers, in memory of its own, and leaves the plan alone.
-/
import Derived.Test.YtjmokahibcbjlaaPt
import Derived.Test.YtjmokahibcbjlaaMe
import Derived.Test.YtjmokahibcbjlaaRp
import Derived.Test.YtjmokahibcbjlaaEx
namespace Go.Proofs.Ytjmokahibcbjlaa
set_option linter.unusedVariables false
set_option linter.unusedSimpArgs false
open Go.RowKit Go.WideShapes Go.ChangeShapes Go.ChangeAt Go.Deep
open Go.ChangeMaps (open_string shut_string)
set_option maxHeartbeats 1000000 in
theorem FnExactPlanScaled_walk (v0 : Value) (a1 : Int) (w : World) (h0 : ∃ p, RPlan 9223372036854775807 w w.heap.size v0 p) (_h1 : (Lit.int .i64 a1).wf = true) :
    Calls Try.prog 3 #[v0, .int .i64 a1] w fun e w' => e = .returned (.bool true) ∧ Below w.heap.size w w' := by
  obtain ⟨p0, va0, vb0, rfl, ha0, hb0⟩ := h0
  have H0 := Lib.hid (show RPlan 9223372036854775807 w w.heap.size (.agg #[va0, vb0]) p0 from ⟨_, _, rfl, ha0, hb0⟩)
  clear ha0 hb0
  have hB0 : Below w.heap.size w (w.alloc (.cells #[va0, vb0] 25)) := (by repeat' (first | with_reducible exact Below.refl _ _ | with_reducible assumption | with_reducible refine Below.drew ?_ | with_reducible refine Below.alloc ?_ ?_ _ | with_reducible refine Below.setCell ?_ ?_ _ | with_reducible refine below_drewN ?_ _ | (simp; done) | (simp; omega)))
  have HX0 : Hid ((w.alloc (.cells #[va0, vb0] 25)).heap[w.heap.size]? = some (.cells #[va0, vb0] 25 (0, 0))) := Lib.hid (by (simp only [heap_alloc_if, World.size_alloc]; repeat (first | rw [if_neg (by omega)] | rw [if_pos (by omega)] | rw [if_pos trivial])))
  go_enter Try.func3, Try.ntmps3
  have hz := szPlan_any _ p0 1048576 _ (H0.out.next hB0) (by omega) (by omega)
  obtain ⟨t0, ht⟩ : ∃ t, szR 1048576 ((p0).bulk : Nat) = t := ⟨_, rfl⟩
  rw [ht] at hz
  have HT0 := Lib.hid ht
  have HZ := Lib.hid hz
  clear ht hz
  go_wp2_with fail
  refine (HZ.out).mono ?_
  rintro e w1 ⟨rfl, hb1⟩
  clear HZ
  have HS1 := Lib.hid hb1.size
  have hW2 := bstep hB0 hb1
  by_cases hneg0 : t0 < 0
  · go_wp2
    go_ret
    exact ⟨rfl, hW2⟩
  have hle0 := szR_ok (show 0 ≤ szR 1048576 ((p0).bulk : Nat) by rw [HT0.out]; omega)
  have hte0 : 0 ≤ t0 ∧ t0 ≤ 1048576 := by have h1 := szR_eq (show 0 ≤ szR 1048576 ((p0).bulk : Nat) by rw [HT0.out]; omega); rw [HT0.out] at h1; omega
  obtain ⟨htl0, hth0⟩ := hte0
  have hL0 : (p0).bulk ≤ 1048576 := by omega
  have H0 := Lib.hid (H0.out.wide (show (p0).bulk ≤ 16777216 by omega))
  have HX3 := Lib.hid (blk_next HX0.out hb1)
  have hc4 := fun j => cell_of_row _ _ j _ _ (0, 0) HX3.out
  have hl5 := lt_of_block HX3.out
  go_wp2_with fail
  refine (toPlan_any _ p0 _ (H0.out.next hW2)).mono ?_
  rintro e w2 ⟨u2, f2, rfl, ho, hb2⟩
  have HS6 := Lib.hid hb2.size
  have hW7 := bstep hW2 hb2
  clear hW2
  have HL8 := Lib.hid ho.lt
  have HO9 := Lib.hid ho
  clear ho
  go_wp2_with fail
  refine (sPlanScaled_any _ p0 a1 _ (HO9.out.read (by omega)) (by omega)).mono ?_
  rintro e w3 ⟨u3, f3, rfl, ho3, hb3⟩
  have HS10 := Lib.hid hb3.size
  have hW11 := bstep hW7 hb3
  clear hW7
  have HL13 := Lib.hid ho3.lt
  have HO14 := Lib.hid ho3
  clear ho3
  obtain ⟨Ak121, nk121, ck121, Ak122, nk122, ck122, rfl⟩ := OPlan.form HO14.out
  have hA15 : Below w3.heap.size w3 (w3.alloc (.cells #[.slice Ak121 nk121 ck121, .slice Ak122 nk122 ck122] 30)) := (by repeat' (first | with_reducible exact Below.refl _ _ | with_reducible assumption | with_reducible refine Below.drew ?_ | with_reducible refine Below.alloc ?_ ?_ _ | with_reducible refine Below.setCell ?_ ?_ _ | with_reducible refine below_drewN ?_ _ | (simp; done) | (simp; omega)))
  have HS16 := Lib.hid hA15.size
  have hW17 := bstep hW11 hA15
  clear hW11
  have HX18 := Lib.hid (heap_alloc_new w3 (.cells #[.slice Ak121 nk121 ck121, .slice Ak122 nk122 ck122] 30))
  clear hc4 hl5
  have HX19 := Lib.hid (blk_next (blk_next (blk_next HX3.out hb2) hb3) hA15)
  have hc20 := fun j => cell_of_row _ _ j _ _ (0, 0) HX19.out
  have hl21 := lt_of_block HX19.out
  go_wp2_with fail
  refine (toPlan_any _ p0 _ (H0.out.next hW17)).mono ?_
  rintro e w4 ⟨u4, f4, rfl, ho, hb4⟩
  have HS23 := Lib.hid hb4.size
  have hW24 := bstep hW17 hb4
  clear hW17
  have HL25 := Lib.hid ho.lt
  have HO26 := Lib.hid ho
  clear ho
  obtain ⟨Ak221, nk221, ck221, Ak222, nk222, ck222, rfl⟩ := OPlan.form HO26.out
  have hA27 : Below w4.heap.size w4 (w4.alloc (.cells #[.slice Ak221 nk221 ck221, .slice Ak222 nk222 ck222] 30)) := (by repeat' (first | with_reducible exact Below.refl _ _ | with_reducible assumption | with_reducible refine Below.drew ?_ | with_reducible refine Below.alloc ?_ ?_ _ | with_reducible refine Below.setCell ?_ ?_ _ | with_reducible refine below_drewN ?_ _ | (simp; done) | (simp; omega)))
  have HS28 := Lib.hid hA27.size
  have hW29 := bstep hW24 hA27
  clear hW24
  have HX30 := Lib.hid (heap_alloc_new w4 (.cells #[.slice Ak221 nk221 ck221, .slice Ak222 nk222 ck222] 30))
  clear hc20 hl21
  have hc31 := fun j => cell_of_row _ _ j _ _ (0, 0) HX30.out
  have hl32 := lt_of_block HX30.out
  have HO33 := Lib.hid (HO26.out.next hA27)
  go_wp2_with fail
  refine (iPlanScaled_any _ p0 a1 _ (HO33.out.read (by omega)) (by omega)).mono ?_
  rintro e w5 ⟨u5, f5, rfl, ho5, hb5⟩
  have HS34 := Lib.hid hb5.size
  have hW35 := bstep hW29 hb5
  clear hW29
  have HL37 := Lib.hid ho5.lt
  have HO38 := Lib.hid ho5
  clear ho5
  obtain ⟨Ak361, nk361, ck361, Ak362, nk362, ck362, rfl⟩ := OPlan.form HO38.out
  have hA39 : Below w5.heap.size w5 (w5.alloc (.cells #[.slice Ak361 nk361 ck361, .slice Ak362 nk362 ck362] 30)) := (by repeat' (first | with_reducible exact Below.refl _ _ | with_reducible assumption | with_reducible refine Below.drew ?_ | with_reducible refine Below.alloc ?_ ?_ _ | with_reducible refine Below.setCell ?_ ?_ _ | with_reducible refine below_drewN ?_ _ | (simp; done) | (simp; omega)))
  have HS40 := Lib.hid hA39.size
  have hW41 := bstep hW35 hA39
  clear hW35
  have HX42 := Lib.hid (heap_alloc_new w5 (.cells #[.slice Ak361 nk361 ck361, .slice Ak362 nk362 ck362] 30))
  clear hc31 hl32
  have hc43 := fun j => cell_of_row _ _ j _ _ (0, 0) HX42.out
  have hl44 := lt_of_block HX42.out
  have HX45 := Lib.hid (blk_next (blk_next (blk_next (blk_next HX18.out hb4) hA27) hb5) hA39)
  have hc46 := fun j => cell_of_row _ _ j _ _ (0, 0) HX45.out
  have hl47 := lt_of_block HX45.out
  have HO48 := Lib.hid (HO38.out.next hA39)
  have HO49 := Lib.hid (((((HO14.out.next hA15).next hb4).next hA27).next hb5).next hA39)
  go_wp2_with fail
  refine (eqPlan_any _ _ (planScaled p0 a1) (planScaled p0 a1) _ (HO48.out.read (by rw [planScaled_bulk]; omega)) (HO49.out.read (by rw [planScaled_bulk]; omega))).mono ?_
  rintro e w6 ⟨rfl, hb6⟩
  have HS50 := Lib.hid hb6.size
  have hW51 := bstep hW41 hb6
  clear hW41
  clear hc43 hl44 hc46 hl47
  have HX52 := Lib.hid (blk_next (blk_next (blk_next HX30.out hb5) hA39) hb6)
  have hc53 := fun j => cell_of_row _ _ j _ _ (0, 0) HX52.out
  have hl54 := lt_of_block HX52.out
  have HX55 := Lib.hid (blk_next (blk_next (blk_next (blk_next (blk_next HX19.out hb4) hA27) hb5) hA39) hb6)
  have hc56 := fun j => cell_of_row _ _ j _ _ (0, 0) HX55.out
  have hl57 := lt_of_block HX55.out
  go_wp2_with fail
  have hD58 : Below w6.heap.size w6 w6.drew := (Below.refl _ _).drew
  have hl59 := lt_of_block HX52.out
  have hq60 : w6.cell? ⟨w4.heap.size, 0, none⟩ = some (.slice Ak221 nk221 ck221) := cell_of_row _ _ 0 _ _ (0, 0) HX52.out
  have hq61 : w6.cell? ⟨w4.heap.size, 1, none⟩ = some (.slice Ak222 nk222 ck222) := cell_of_row _ _ 1 _ _ (0, 0) HX52.out
  have hl62 := lt_of_block HX55.out
  have hq63 : w6.cell? ⟨w.heap.size, 0, none⟩ = some (va0) := cell_of_row _ _ 0 _ _ (0, 0) HX55.out
  have hq64 : w6.cell? ⟨w.heap.size, 1, none⟩ = some (vb0) := cell_of_row _ _ 1 _ _ (0, 0) HX55.out
  have HO65 := Lib.hid (((HO33.out.next hb5).next hA39).next hb6)
  clear hc53 hl54 hc56 hl57
  have HS66 := Lib.hid hD58.size
  have hW67 := bstep hW51 hD58
  clear hW51
  have HO68 := Lib.hid (HO65.out.next hD58)
  go_region_held3 (fun W' => W'.cell? ⟨w4.heap.size, 0, none⟩ = some (.slice Ak221 nk221 ck221) ∧ W'.cell? ⟨w4.heap.size, 1, none⟩ = some (.slice Ak222 nk222 ck222) ∧ W'.cell? ⟨w.heap.size, 0, none⟩ = some (va0) ∧ W'.cell? ⟨w.heap.size, 1, none⟩ = some (vb0))
      (first | go_keep | exact ⟨k71, k72, k73, k74⟩ | exact ⟨k75, k76, k77, k78⟩)
      (first
        | (go_at_call 8; refine (toPlan_any _ p0 _ (H0.out.next hW67)).mono ?_; rintro e wy69 ⟨uy69, fy69, rfl, hoy69, hby69⟩; have hsy69 := hby69.size; have k71 := (hby69.cell (p := ⟨w4.heap.size, 0, none⟩) hl59).trans hq60; have k72 := (hby69.cell (p := ⟨w4.heap.size, 1, none⟩) hl59).trans hq61; have k73 := (hby69.cell (p := ⟨w.heap.size, 0, none⟩) hl62).trans hq63; have k74 := (hby69.cell (p := ⟨w.heap.size, 1, none⟩) hl62).trans hq64)
        | (go_at_call 10; refine (eqPlan_any _ _ (p0) p0 _ ((HO68.out.next hby69).read (by omega)) (hoy69.read (by omega))).mono ?_; rintro e wy70 ⟨rfl, hby70⟩; have k75 := (hby70.cell (p := ⟨w4.heap.size, 0, none⟩) (Nat.lt_of_lt_of_le hl59 hsy69)).trans k71; have k76 := (hby70.cell (p := ⟨w4.heap.size, 1, none⟩) (Nat.lt_of_lt_of_le hl59 hsy69)).trans k72; have k77 := (hby70.cell (p := ⟨w.heap.size, 0, none⟩) (Nat.lt_of_lt_of_le hl62 hsy69)).trans k73; have k78 := (hby70.cell (p := ⟨w.heap.size, 1, none⟩) (Nat.lt_of_lt_of_le hl62 hsy69)).trans k74))
  have HS79 := Lib.hid hby69.size
  have hW80 := bstep hW67 hby69
  clear hW67
  have HS81 := Lib.hid hby70.size
  have hW82 := bstep hW80 hby70
  clear hW80
  have HO83 := Lib.hid ((HO68.out.next hby69).next hby70)
  have HX84 := Lib.hid (blk_next (blk_next (blk_next HX52.out hD58) hby69) hby70)
  have hc85 := fun j => cell_of_row _ _ j _ _ (0, 0) HX84.out
  have hl86 := lt_of_block HX84.out
  have hcn6 : cntP (p0) ≤ 4194304 := by have h1 := cntP_le (p0); omega
  go_wp2_with fail
  refine (markPlan_any _ (p0) _ (1) _ _ HO83.out (by omega) (by omega) (by omega)).mono ?_
  rintro e w7 ⟨rfl, ho, ht7⟩
  have HS87 := Lib.hid ht7.size
  have hW88 := hW82.trans (ht7.below hW82.size (fun b hb => by have h1 := HL25.out b hb; have := hB0.size; have := HS1.out; have := HS6.out; have := HS10.out; have := HS16.out; have := HS23.out; have := HS28.out; have := HS34.out; have := HS40.out; have := HS50.out; have := HS66.out; have := HS79.out; have := HS81.out; simp only [World.size_alloc] at *; omega))
  have HO89 := Lib.hid ho
  clear ho
  clear hc85 hl86
  have HX90 := Lib.hid (blk_tch (blk_next (blk_next (blk_next (blk_next HX42.out hb6) hD58) hby69) hby70) ht7 (fun hm => by have h1 := HL25.out _ hm; have := HS1.out; have := HS6.out; have := HS10.out; have := HS16.out; have := HS23.out; have := HS28.out; have := HS34.out; have := HS40.out; have := HS50.out; have := HS66.out; have := HS79.out; have := HS81.out; have := HS87.out; simp only [World.size_alloc] at *; omega))
  have hc91 := fun j => cell_of_row _ _ j _ _ (0, 0) HX90.out
  have hl92 := lt_of_block HX90.out
  have HX93 := Lib.hid (blk_tch (blk_next (blk_next (blk_next (blk_next HX45.out hb6) hD58) hby69) hby70) ht7 (fun hm => by have h1 := HL25.out _ hm; have := HS1.out; have := HS6.out; have := HS10.out; have := HS16.out; have := HS23.out; have := HS28.out; have := HS34.out; have := HS40.out; have := HS50.out; have := HS66.out; have := HS79.out; have := HS81.out; have := HS87.out; simp only [World.size_alloc] at *; omega))
  have hc94 := fun j => cell_of_row _ _ j _ _ (0, 0) HX93.out
  have hl95 := lt_of_block HX93.out
  have HO96 := Lib.hid (((((HO48.out.next hb6).next hD58).next hby69).next hby70).tch ht7 (fun b hb hm => by have h1 := HL37.out b hb; have h2 := HL25.out b hm; have := HS1.out; have := HS6.out; have := HS10.out; have := HS16.out; have := HS23.out; have := HS28.out; have := HS34.out; have := HS40.out; have := HS50.out; have := HS66.out; have := HS79.out; have := HS81.out; have := HS87.out; simp only [World.size_alloc] at *; omega))
  have HO97 := Lib.hid (((((HO49.out.next hb6).next hD58).next hby69).next hby70).tch ht7 (fun b hb hm => by have h1 := HL13.out b hb; have h2 := HL25.out b hm; have := HS1.out; have := HS6.out; have := HS10.out; have := HS16.out; have := HS23.out; have := HS28.out; have := HS34.out; have := HS40.out; have := HS50.out; have := HS66.out; have := HS79.out; have := HS81.out; have := HS87.out; simp only [World.size_alloc] at *; omega))
  go_wp2_with fail
  refine (eqPlan_any _ _ (planScaled p0 a1) (planScaled p0 a1) _ (HO96.out.read (by rw [planScaled_bulk]; omega)) (HO97.out.read (by rw [planScaled_bulk]; omega))).mono ?_
  rintro e w8 ⟨rfl, hb8⟩
  have HS98 := Lib.hid hb8.size
  have hW99 := bstep hW88 hb8
  clear hW88
  have HO100 := Lib.hid (HO96.out.next hb8)
  clear hc91 hl92 hc94 hl95
  have HX101 := Lib.hid (blk_next HX90.out hb8)
  have hc102 := fun j => cell_of_row _ _ j _ _ (0, 0) HX101.out
  have hl103 := lt_of_block HX101.out
  have hcn8 : cntP (planScaled p0 a1) ≤ 4194304 := by have h1 := cntP_le (planScaled p0 a1); rw [planScaled_bulk] at h1; omega
  go_wp2_with fail
  refine (markPlan_any _ (planScaled p0 a1) _ (1) _ _ HO100.out (by rw [planScaled_bulk]; omega) (by omega) (by omega)).mono ?_
  rintro e w9 ⟨rfl, ho, ht9⟩
  have HS104 := Lib.hid ht9.size
  have hW105 := hW99.trans (ht9.below hW99.size (fun b hb => by have h1 := HL37.out b hb; have := hB0.size; have := HS1.out; have := HS6.out; have := HS10.out; have := HS16.out; have := HS23.out; have := HS28.out; have := HS34.out; have := HS40.out; have := HS50.out; have := HS66.out; have := HS79.out; have := HS81.out; have := HS87.out; have := HS98.out; simp only [World.size_alloc] at *; omega))
  have HO106 := Lib.hid ho
  clear ho
  clear hc102 hl103
  have HX107 := Lib.hid (blk_tch HX101.out ht9 (fun hm => by have h1 := HL37.out _ hm; have := HS1.out; have := HS6.out; have := HS10.out; have := HS16.out; have := HS23.out; have := HS28.out; have := HS34.out; have := HS40.out; have := HS50.out; have := HS66.out; have := HS79.out; have := HS81.out; have := HS87.out; have := HS98.out; have := HS104.out; simp only [World.size_alloc] at *; omega))
  have hc108 := fun j => cell_of_row _ _ j _ _ (0, 0) HX107.out
  have hl109 := lt_of_block HX107.out
  go_wp2_with fail
  refine (heldPlan_any _ (planScaled p0 a1) (1) _ (HO106.out.read (by rw [mkP_bulk]; rw [planScaled_bulk]; omega)) (by rw [planScaled_bulk]; omega) (by omega) (by omega)).mono ?_
  rintro e w10 ⟨rfl, hb10⟩
  have HS110 := Lib.hid hb10.size
  have hW111 := bstep hW105 hb10
  clear hW105
  clear hc108 hl109
  have HX112 := Lib.hid (blk_next (blk_tch (blk_next (blk_tch (blk_next (blk_next (blk_next HX55.out hD58) hby69) hby70) ht7 (fun hm => by have h1 := HL25.out _ hm; have := HS1.out; have := HS6.out; have := HS10.out; have := HS16.out; have := HS23.out; have := HS28.out; have := HS34.out; have := HS40.out; have := HS50.out; have := HS66.out; have := HS79.out; have := HS81.out; have := HS87.out; have := HS98.out; have := HS104.out; have := HS110.out; simp only [World.size_alloc] at *; omega)) hb8) ht9 (fun hm => by have h1 := HL37.out _ hm; have := HS1.out; have := HS6.out; have := HS10.out; have := HS16.out; have := HS23.out; have := HS28.out; have := HS34.out; have := HS40.out; have := HS50.out; have := HS66.out; have := HS79.out; have := HS81.out; have := HS87.out; have := HS98.out; have := HS104.out; have := HS110.out; simp only [World.size_alloc] at *; omega)) hb10)
  have hc113 := fun j => cell_of_row _ _ j _ _ (0, 0) HX112.out
  have hl114 := lt_of_block HX112.out
  go_wp2_with fail
  refine (toPlan_any _ p0 _ (H0.out.next hW111)).mono ?_
  rintro e w11 ⟨u11, f11, rfl, ho, hb11⟩
  have HS115 := Lib.hid hb11.size
  have hW116 := bstep hW111 hb11
  clear hW111
  have HL117 := Lib.hid ho.lt
  have HO118 := Lib.hid ho
  clear ho
  go_wp2_with fail
  refine (iPlanScaled_any _ p0 a1 _ (HO118.out.read (by omega)) (by omega)).mono ?_
  rintro e w12 ⟨u12, f12, rfl, ho12, hb12⟩
  have HS119 := Lib.hid hb12.size
  have hW120 := bstep hW116 hb12
  clear hW116
  have HL122 := Lib.hid ho12.lt
  have HO123 := Lib.hid ho12
  clear ho12
  obtain ⟨Ak1211, nk1211, ck1211, Ak1212, nk1212, ck1212, rfl⟩ := OPlan.form HO123.out
  have hA124 : Below w12.heap.size w12 (w12.alloc (.cells #[.slice Ak1211 nk1211 ck1211, .slice Ak1212 nk1212 ck1212] 30)) := (by repeat' (first | with_reducible exact Below.refl _ _ | with_reducible assumption | with_reducible refine Below.drew ?_ | with_reducible refine Below.alloc ?_ ?_ _ | with_reducible refine Below.setCell ?_ ?_ _ | with_reducible refine below_drewN ?_ _ | (simp; done) | (simp; omega)))
  have HS125 := Lib.hid hA124.size
  have hW126 := bstep hW120 hA124
  clear hW120
  have HX127 := Lib.hid (heap_alloc_new w12 (.cells #[.slice Ak1211 nk1211 ck1211, .slice Ak1212 nk1212 ck1212] 30))
  clear hc113 hl114
  have hc128 := fun j => cell_of_row _ _ j _ _ (0, 0) HX127.out
  have hl129 := lt_of_block HX127.out
  have HX130 := Lib.hid (blk_next (blk_next (blk_next (blk_next (blk_tch (blk_next HX93.out hb8) ht9 (fun hm => by have h1 := HL37.out _ hm; have := HS1.out; have := HS6.out; have := HS10.out; have := HS16.out; have := HS23.out; have := HS28.out; have := HS34.out; have := HS40.out; have := HS50.out; have := HS66.out; have := HS79.out; have := HS81.out; have := HS87.out; have := HS98.out; have := HS104.out; have := HS110.out; have := HS115.out; have := HS119.out; have := HS125.out; simp only [World.size_alloc] at *; omega)) hb10) hb11) hb12) hA124)
  have hc131 := fun j => cell_of_row _ _ j _ _ (0, 0) HX130.out
  have hl132 := lt_of_block HX130.out
  have HO133 := Lib.hid (HO123.out.next hA124)
  have HO134 := Lib.hid ((((((HO97.out.next hb8).tch ht9 (fun b hb hm => by have h1 := HL13.out b hb; have h2 := HL37.out b hm; have := HS1.out; have := HS6.out; have := HS10.out; have := HS16.out; have := HS23.out; have := HS28.out; have := HS34.out; have := HS40.out; have := HS50.out; have := HS66.out; have := HS79.out; have := HS81.out; have := HS87.out; have := HS98.out; have := HS104.out; have := HS110.out; have := HS115.out; have := HS119.out; have := HS125.out; simp only [World.size_alloc] at *; omega)).next hb10).next hb11).next hb12).next hA124)
  go_wp2_with fail
  refine (eqPlan_any _ _ (planScaled p0 a1) (planScaled p0 a1) _ (HO133.out.read (by rw [planScaled_bulk]; omega)) (HO134.out.read (by rw [planScaled_bulk]; omega))).mono ?_
  rintro e w13 ⟨rfl, hb13⟩
  have HS135 := Lib.hid hb13.size
  have hW136 := bstep hW126 hb13
  clear hW126
  clear hc128 hl129 hc131 hl132
  have HX137 := Lib.hid (blk_next (blk_next (blk_next (blk_next (blk_next HX107.out hb10) hb11) hb12) hA124) hb13)
  have hc138 := fun j => cell_of_row _ _ j _ _ (0, 0) HX137.out
  have hl139 := lt_of_block HX137.out
  have HO140 := Lib.hid (((((HO106.out.next hb10).next hb11).next hb12).next hA124).next hb13)
  go_wp2_with fail
  refine (heldPlan_any _ (planScaled p0 a1) (1) _ (HO140.out.read (by rw [mkP_bulk]; rw [planScaled_bulk]; omega)) (by rw [planScaled_bulk]; omega) (by omega) (by omega)).mono ?_
  rintro e w14 ⟨rfl, hb14⟩
  have HS141 := Lib.hid hb14.size
  have hW142 := bstep hW136 hb14
  clear hW136
  go_wp2
  go_ret
  exact ⟨rfl, hW142⟩
set_option maxRecDepth 100000 in
theorem FnExactPlanScaled_lifted (os : Os) (started : os.Started) (H : Type) (enc : TypeId × Value → H) :
    ReturnsInHanded {} Try.checked os 3 .any (Rows.fnExactPlanScaledSpec.pre6 enc Try.prog Try.f3 Rows.fnExactPlanScaledRow.domain false) (Rows.fnExactPlanScaledSpec.post enc Try.prog Try.f3 false true false false) := by
  refine returnsInHanded_of_change (C := Try.checked) own_ started (by kernel_rfl) Try.func3
    (ChangeSpec.witness6 (enc := enc) (C := Try.checked) false ⟨#[], #[.agg #[.slice none 0 0, .slice none 0 0], .int .i64 0], []⟩ 8 (by kernel_rfl) (by kernel_rfl) (by kernel_rfl) (by kernel_rfl)) ?_
  intro W base args ds gs before hval0 hW hcnd _
  have hval : ∀ (j : Nat) t v, Try.f3.params[j]? = some t → args[j]? = some v → Value.okWide Try.prog W .any base t v := hval0
  have hW' := hW
  obtain ⟨p, q, hA0, hV, rfl, hfz, hnd⟩ := hW
  have hA : DataW.TrodAll enc Try.prog W 0 (fun _ => true) true Try.f3.params.toList args.toList ds p := hA0
  rw [Try.params3] at hA hval
  obtain ⟨v0, vs0, d0, ds0, p0, q0, hargs, rfl, rfl, h0, r0⟩ := trodAll_cons hA
  obtain ⟨v1, vs1, d1, ds1, p1, q1, rfl, rfl, rfl, h1, r1⟩ := trodAll_cons r0
  obtain ⟨rfl, rfl, rfl⟩ := trodAll_nil r1
  obtain rfl : args = #[v0, v1] := by cases args; simp_all
  obtain ⟨rfl, rfl⟩ := trodVars_none hV
  clear hA0 hval0 hA
  simp only [List.append_nil] at hW'
  have hlt : ∀ x ∈ p0 ++ p1, x.block < W.heap.size := fun x hx => hW'.lt x (by simpa using hx)
  have k0 := h0
  have w0 := read_Plan (hval 0 25 v0 rfl rfl) h0 (fun x hx => hlt x (by simp [hx]))
  have k1 := h1
  obtain ⟨a1, rfl, rfl, rfl, w1⟩ := open_int Try.underlying3 (hval 1 3 v1 rfl rfl) h1
  refine (FnExactPlanScaled_walk v0 a1 W w0 w1).mono fun e W' ⟨he, hb⟩ => ?_
  subst he
  exact ⟨_, rfl, post_of_below (pa := p0 ++ ([] ++ [])) (pv := []) hW' (fun _ _ _ => (trodAll_cons_mk (shut_bool Try.underlying4 _) trodAll_mk0)) (fun sp hsp => (trodAll_cons_mk (stays laidOut_ (by kernel_rfl) (of_decide_eq_true (by kernel_rfl)) k0 hb (fun x hx => hlt x (by simp [hx])) (fun x hx => hsp x (by simp [hx]))) (trodAll_cons_mk (stays laidOut_ (by kernel_rfl) (of_decide_eq_true (by kernel_rfl)) k1 hb (fun x hx => by cases hx) (fun x hx => by cases hx)) trodAll_mk0))) (fun _ _ => rfl) (by simp) hb
    (ok_one (by kernel_rfl) rfl (okWide_bool_mk Try.underlying4 _))⟩
theorem FnExactPlanScaled_over : Rows.fnExactPlanScaledRow.holds Try.pinned (OpenSpec.ofChange Rows.fnExactPlanScaledSpec) :=
  OpenClaim.holds_of_wide 3 Try.f3 rfl rfl rfl rfl rfl rfl rfl ⟨rfl, rfl, rfl, rfl, rfl⟩ rfl rfl rfl rfl rfl (by kernel_rfl) Try.func3 (by kernel_rfl)
    (of_decide_eq_true (by kernel_rfl)) (by unfold Func.isWrapper; first | (rw [if_pos (by decide +kernel)]; kernel_rfl) | (rw [if_neg (by decide +kernel)]; exact ⟨rfl, rfl⟩))
    (fun os started H enc _ => FnExactPlanScaled_lifted os started H enc)
theorem FnExactPlanScaled_proved : Rows.FnExactPlanScaledSaid := FnExactPlanScaled_over
end Go.Proofs.Ytjmokahibcbjlaa
