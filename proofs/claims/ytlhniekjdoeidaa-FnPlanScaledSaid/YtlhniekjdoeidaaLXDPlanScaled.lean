/-
  The law FnPlanScaled: whatever the drawn bytes: the plan that is drawn, scaled by the program, is what the reference's is; by one it is as it was; by two and three it is as by six where nothing lies too far out.
-/
import Derived.Test.YtlhniekjdoeidaaKa20
import Derived.Test.YtlhniekjdoeidaaKa03
import Derived.Test.YtlhniekjdoeidaaKa21
import Derived.Test.YtlhniekjdoeidaaKa01
import Derived.Test.YtlhniekjdoeidaaKa15
import Derived.Deep.RegionHeld3
import Derived.Deep.DeepCutAuto
namespace Go.Proofs.Ytlhniekjdoeidaa
set_option linter.unusedVariables false
set_option linter.unusedSimpArgs false
set_option maxRecDepth 100000
open Go.RowKit Go.WideShapes Go.ChangeShapes Go.ChangeAt Go.Deep
open Go.ChangeMaps (open_string shut_string)
theorem farR_false {xs : List Spot} (h : xs.any (fun s => decide (300 < s.x) || (decide (300 < s.y) || decide (300 < s.z))) = false) : ∀ s ∈ xs, s.x ≤ 300 ∧ s.y ≤ 300 ∧ s.z ≤ 300 := fun s hs => by
  have := List.any_eq_false.1 h s hs
  simp at this
  omega
set_option maxRecDepth 100000 in
set_option maxHeartbeats 40000000 in
theorem FnPlanScaled_walk (v : Value) (w : World) (h : ∃ xs, RByts 9223372036854775807 w v xs) : Calls Try.prog 4 #[v] w fun e w' => e = .returned (.bool true) ∧ Below w.heap.size w w' := by
  obtain ⟨xs, h⟩ := h
  have HV := Lib.hid h
  clear h
  obtain ⟨bg, hbg⟩ : ∃ b, decide (1048576 < xs.length) = b := ⟨_, rfl⟩
  have HG := Lib.hid hbg
  clear hbg
  go_enter Try.func4, Try.ntmps4
  go_wp2_with fail
  refine (big_any v xs _ HV.out).mono ?_
  rintro e w' ⟨rfl, rfl⟩
  rw [HG.out]
  cases bg
  case true =>
    go_wp2_with fail
    go_ret
    exact ⟨rfl, Below.refl _ _⟩
  have HB := Lib.hid (HV.out.plain (by have := HG.out; simp at this; omega))
  go_wp2_with fail
  refine (DrawPlanScaled_any v xs _ _ _ (Sit.here w) HB.out).mono ?_
  rintro e w1 ⟨vc, vs, x, fq, n, rfl, SN1, hsx⟩
  obtain ⟨zs2, hz2, ⟨A7, c7, rfl, _⟩, _, ⟨A8, c8, rfl, _⟩⟩ := SN1.on _ (.head _)
  have hbk := hsx.bulk
  have HSX := Lib.hid hsx
  have hxl := hsx.spots
  clear hz2 hsx
  have SN := Lib.hid (SN1.alloc #[.slice A7 zs2.length c7, .slice A8 x.spots.length c8] 30)
  clear SN1
  obtain ⟨b3, hb3⟩ : ∃ b, w1.heap.size = b := ⟨_, rfl⟩
  rw [hb3] at SN
  go_upto_region 4 with fail
  generalize w1.alloc (.cells #[.slice A7 zs2.length c7, .slice A8 x.spots.length c8] 30) = W2 at SN ⊢
  clear hb3
  have HP := Lib.hid (show ∀ (W : World) (L : List Fact), Sit w W L → fRp (.slice A7 zs2.length c7) (.slice A8 x.spots.length c8) x fq ∈ L → RPlan 16777216 W W.heap.size (.agg #[.slice A7 zs2.length c7, .slice A8 x.spots.length c8]) x from fun W L h hm => h.rp hm (by have := HSX.out.cartons; omega) (fun c hc => by have := HSX.out.units c hc; omega) (by omega))
  have k3 := SN.out.box (.head _)
  go_wp2_with fail
  refine (iPlanScaled_any _ x n _ (HP.out _ _ SN.out (by repeat (first | with_reducible exact List.mem_cons_self | with_reducible exact List.Mem.head _ | refine List.Mem.tail _ ?_))) (by omega)).mono ?_
  rintro e w3 ⟨vy, fy, rfl, hoy, hby⟩
  have SN2 := Lib.hid (SN.out.gotPlan hoy hby)
  clear SN k3 hoy hby
  have SN := SN2
  clear SN2
  obtain ⟨Y1, ny1, cy1, Y2, ny2, cy2, rfl⟩ := OPlan.form (SN.out.on _ (.head _))
  have SQ := Lib.hid (SN.out.alloc #[.slice Y1 ny1 cy1, .slice Y2 ny2 cy2] 30)
  clear SN
  have SN := SQ
  clear SQ
  obtain ⟨b5, hb5⟩ : ∃ b, w3.heap.size = b := ⟨_, rfl⟩
  rw [hb5] at SN
  go_upto_region 5 with fail
  generalize w3.alloc (.cells #[.slice Y1 ny1 cy1, .slice Y2 ny2 cy2] 30) = W4 at SN ⊢
  clear hb5
  have k3 := SN.out.box (g := b3) (cs := #[.slice A7 zs2.length c7, .slice A8 x.spots.length c8]) (t := 30) (by repeat (first | with_reducible exact List.mem_cons_self | with_reducible exact List.Mem.head _ | refine List.Mem.tail _ ?_))
  have k5 := SN.out.box (g := b5) (cs := #[.slice Y1 ny1 cy1, .slice Y2 ny2 cy2]) (t := 30) (by repeat (first | with_reducible exact List.mem_cons_self | with_reducible exact List.Mem.head _ | refine List.Mem.tail _ ?_))
  have hd1 : decide (planScaled x n = planScaled x n) = true := decide_eq_true rfl
  have hd2 : decide (x = x) = true := decide_eq_true rfl
  refine wp_region_S (S := (fun W' => W'.cell? ⟨b5, 0, none⟩ = some (.slice Y1 ny1 cy1) ∧ W'.cell? ⟨b5, 1, none⟩ = some (.slice Y2 ny2 cy2) ∧ W'.cell? ⟨b3, 0, none⟩ = some (.slice A7 zs2.length c7) ∧ W'.cell? ⟨b3, 1, none⟩ = some (.slice A8 x.spots.length c8))) (by kernel_rfl) ?_ (fun hHeld => ?_)
  · (first | exact ⟨k5 0, k5 1, k3 0, k3 1⟩ | go_keep)
  refine wpS_take (i := 0) (v := ?_) rfl (by kernel_rfl) (fun _ _ _ h => h) (Or.inl ⟨by rfl, ?_⟩) (by assumption) ?_
  rotate_left
  · (intro w9 hSw; (try dsimp only at hSw); go_simp; (try with_reducible rfl))
  (try simp only [Act.put, List.setIfInBounds_toArray, List.set_cons_zero, List.set_cons_succ])
  refine wpS_take (i := 1) (v := ?_) rfl (by kernel_rfl) (fun _ _ _ h => h) (Or.inl ⟨by rfl, ?_⟩) (by assumption) ?_
  rotate_left
  · (intro w9 hSw; (try dsimp only at hSw); go_simp; (try with_reducible rfl))
  (try simp only [Act.put, List.setIfInBounds_toArray, List.set_cons_zero, List.set_cons_succ])
  refine wpS_take (i := 2) (v := ?_) rfl (by kernel_rfl) (fun _ _ _ h => h) (Or.inl ⟨by rfl, ?_⟩) (by assumption) ?_
  rotate_left
  · (intro w9 hSw; (try dsimp only at hSw); go_simp; (try with_reducible rfl))
  (try simp only [Act.put, List.setIfInBounds_toArray, List.set_cons_zero, List.set_cons_succ])
  refine wpS_ready (rs := [3]) (by kernel_rfl) (by simp) ?_
  refine AllReadyS.cons rfl (by kernel_rfl) (fun K hK => ?_) AllReadyS.nil
  go_simp
  ((go_at_call 13; (first | with_reducible refine Sit.calls0 SN.out (fun SN0 => ?_) | with_reducible refine Sit.calls1 SN.out (fun SN0 => ?_) | with_reducible refine Sit.calls2 SN.out (fun SN0 => ?_) | with_reducible refine Sit.calls0d SN.out (fun SN0 => ?_) | with_reducible refine Sit.calls1d SN.out (fun SN0 => ?_) | with_reducible refine Sit.calls2d SN.out (fun SN0 => ?_)); (try simp only [World.size_alloc, World.size_drew] at SN0); refine (sPlanScaled_any _ x n _ (HP.out _ _ SN0 (by repeat (first | with_reducible exact List.mem_cons_self | with_reducible exact List.Mem.head _ | refine List.Mem.tail _ ?_))) (by omega)).mono ?_; rintro e w5 ⟨v5, f5, rfl, ho5, hb5⟩; have SN := Lib.hid (SN0.gotPlan ho5 hb5); have k3 := SN.out.box (g := b3) (cs := #[.slice A7 zs2.length c7, .slice A8 x.spots.length c8]) (t := 30) (by repeat (first | with_reducible exact List.mem_cons_self | with_reducible exact List.Mem.head _ | refine List.Mem.tail _ ?_)); have k5 := SN.out.box (g := b5) (cs := #[.slice Y1 ny1 cy1, .slice Y2 ny2 cy2]) (t := 30) (by repeat (first | with_reducible exact List.mem_cons_self | with_reducible exact List.Mem.head _ | refine List.Mem.tail _ ?_))))
  refine hK.out _ _ ?_ (fun hHeld => ?_)
  · (first | exact ⟨k5 0, k5 1, k3 0, k3 1⟩ | go_keep)
  clear hK K
  (try simp only [Act.put, List.setIfInBounds_toArray, List.set_cons_zero, List.set_cons_succ])
  refine wpS_ready (rs := [4]) (by kernel_rfl) (by simp) ?_
  refine AllReadyS.cons rfl (by kernel_rfl) (fun K hK => ?_) AllReadyS.nil
  go_simp
  ((go_at_call 12; (first | with_reducible refine Sit.calls0 SN.out (fun SN0 => ?_) | with_reducible refine Sit.calls1 SN.out (fun SN0 => ?_) | with_reducible refine Sit.calls2 SN.out (fun SN0 => ?_) | with_reducible refine Sit.calls0d SN.out (fun SN0 => ?_) | with_reducible refine Sit.calls1d SN.out (fun SN0 => ?_) | with_reducible refine Sit.calls2d SN.out (fun SN0 => ?_)); (try simp only [World.size_alloc, World.size_drew] at SN0); (first | (refine (sPlanSame_any _ _ (planScaled x n) (planScaled x n) _ (SN0.op (by repeat (first | with_reducible exact List.mem_cons_self | with_reducible exact List.Mem.head _ | refine List.Mem.tail _ ?_)) (by rw [planScaled_blk]; omega)) (SN0.op (by repeat (first | with_reducible exact List.mem_cons_self | with_reducible exact List.Mem.head _ | refine List.Mem.tail _ ?_)) (by rw [planScaled_blk]; omega))).mono ?_; rintro e w6 ⟨rfl, hb6⟩; rw [hd1]; have SN := Lib.hid (SN0.next hb6)) | (refine (sPlanSame_any _ _ x x _ (SN0.op (by repeat (first | with_reducible exact List.mem_cons_self | with_reducible exact List.Mem.head _ | refine List.Mem.tail _ ?_)) (by omega)) (HP.out _ _ SN0 (by repeat (first | with_reducible exact List.mem_cons_self | with_reducible exact List.Mem.head _ | refine List.Mem.tail _ ?_)))).mono ?_; rintro e w6 ⟨rfl, hb6⟩; rw [hd2]; have SN := Lib.hid (SN0.next hb6))); have k3 := SN.out.box (g := b3) (cs := #[.slice A7 zs2.length c7, .slice A8 x.spots.length c8]) (t := 30) (by repeat (first | with_reducible exact List.mem_cons_self | with_reducible exact List.Mem.head _ | refine List.Mem.tail _ ?_)); have k5 := SN.out.box (g := b5) (cs := #[.slice Y1 ny1 cy1, .slice Y2 ny2 cy2]) (t := 30) (by repeat (first | with_reducible exact List.mem_cons_self | with_reducible exact List.Mem.head _ | refine List.Mem.tail _ ?_))))
  refine hK.out _ _ ?_ (fun hHeld => ?_)
  · (first | exact ⟨k5 0, k5 1, k3 0, k3 1⟩ | go_keep)
  clear hK K
  (try simp only [Act.put, List.setIfInBounds_toArray, List.set_cons_zero, List.set_cons_succ])
  refine wpS_take (i := 5) (v := ?_) rfl (by kernel_rfl) (fun _ _ _ h => h) (Or.inl ⟨by rfl, ?_⟩) (by assumption) ?_
  rotate_left
  · (intro w9 hSw; (try dsimp only at hSw); go_simp; (try with_reducible rfl))
  (try simp only [Act.put, List.setIfInBounds_toArray, List.set_cons_zero, List.set_cons_succ])
  refine wpS_take (i := 6) (v := ?_) rfl (by kernel_rfl) (fun _ _ _ h => h) (Or.inl ⟨by rfl, ?_⟩) (by assumption) ?_
  rotate_left
  · (intro w9 hSw; (try dsimp only at hSw); go_simp; (try with_reducible rfl))
  (try simp only [Act.put, List.setIfInBounds_toArray, List.set_cons_zero, List.set_cons_succ])
  refine wpS_take (i := 7) (v := ?_) rfl (by kernel_rfl) (fun _ _ _ h => h) (Or.inl ⟨by rfl, ?_⟩) (by assumption) ?_
  rotate_left
  · (intro w9 hSw; (try dsimp only at hSw); go_simp; (try with_reducible rfl))
  (try simp only [Act.put, List.setIfInBounds_toArray, List.set_cons_zero, List.set_cons_succ])
  refine wpS_take (i := 9) (v := ?_) rfl (by kernel_rfl) (fun _ _ _ h => h) (Or.inl ⟨by rfl, ?_⟩) (by assumption) ?_
  rotate_left
  · (intro w9 hSw; (try dsimp only at hSw); go_simp; (try with_reducible rfl))
  (try simp only [Act.put, List.setIfInBounds_toArray, List.set_cons_zero, List.set_cons_succ])
  refine wpS_ready (rs := [8]) (by kernel_rfl) (by simp) ?_
  refine AllReadyS.cons rfl (by kernel_rfl) (fun K hK => ?_) AllReadyS.nil
  go_simp
  ((go_at_call 11; (first | with_reducible refine Sit.calls0 SN.out (fun SN0 => ?_) | with_reducible refine Sit.calls1 SN.out (fun SN0 => ?_) | with_reducible refine Sit.calls2 SN.out (fun SN0 => ?_) | with_reducible refine Sit.calls0d SN.out (fun SN0 => ?_) | with_reducible refine Sit.calls1d SN.out (fun SN0 => ?_) | with_reducible refine Sit.calls2d SN.out (fun SN0 => ?_)); (try simp only [World.size_alloc, World.size_drew] at SN0); refine (iPlanScaled_any _ x 1 _ (HP.out _ _ SN0 (by repeat (first | with_reducible exact List.mem_cons_self | with_reducible exact List.Mem.head _ | refine List.Mem.tail _ ?_))) (by omega)).mono ?_; rintro e w7 ⟨v7, f7, rfl, ho7, hb7⟩; rw [planScaled_one] at ho7; have SN := Lib.hid (SN0.gotPlan ho7 hb7); have k3 := SN.out.box (g := b3) (cs := #[.slice A7 zs2.length c7, .slice A8 x.spots.length c8]) (t := 30) (by repeat (first | with_reducible exact List.mem_cons_self | with_reducible exact List.Mem.head _ | refine List.Mem.tail _ ?_)); have k5 := SN.out.box (g := b5) (cs := #[.slice Y1 ny1 cy1, .slice Y2 ny2 cy2]) (t := 30) (by repeat (first | with_reducible exact List.mem_cons_self | with_reducible exact List.Mem.head _ | refine List.Mem.tail _ ?_))))
  refine hK.out _ _ ?_ (fun hHeld => ?_)
  · (first | exact ⟨k5 0, k5 1, k3 0, k3 1⟩ | go_keep)
  clear hK K
  (try simp only [Act.put, List.setIfInBounds_toArray, List.set_cons_zero, List.set_cons_succ])
  refine wpS_ready (rs := [10]) (by kernel_rfl) (by simp) ?_
  refine AllReadyS.cons rfl (by kernel_rfl) (fun K hK => ?_) AllReadyS.nil
  go_simp
  ((go_at_call 12; (first | with_reducible refine Sit.calls0 SN.out (fun SN0 => ?_) | with_reducible refine Sit.calls1 SN.out (fun SN0 => ?_) | with_reducible refine Sit.calls2 SN.out (fun SN0 => ?_) | with_reducible refine Sit.calls0d SN.out (fun SN0 => ?_) | with_reducible refine Sit.calls1d SN.out (fun SN0 => ?_) | with_reducible refine Sit.calls2d SN.out (fun SN0 => ?_)); (try simp only [World.size_alloc, World.size_drew] at SN0); (first | (refine (sPlanSame_any _ _ (planScaled x n) (planScaled x n) _ (SN0.op (by repeat (first | with_reducible exact List.mem_cons_self | with_reducible exact List.Mem.head _ | refine List.Mem.tail _ ?_)) (by rw [planScaled_blk]; omega)) (SN0.op (by repeat (first | with_reducible exact List.mem_cons_self | with_reducible exact List.Mem.head _ | refine List.Mem.tail _ ?_)) (by rw [planScaled_blk]; omega))).mono ?_; rintro e w6 ⟨rfl, hb6⟩; rw [hd1]; have SN := Lib.hid (SN0.next hb6)) | (refine (sPlanSame_any _ _ x x _ (SN0.op (by repeat (first | with_reducible exact List.mem_cons_self | with_reducible exact List.Mem.head _ | refine List.Mem.tail _ ?_)) (by omega)) (HP.out _ _ SN0 (by repeat (first | with_reducible exact List.mem_cons_self | with_reducible exact List.Mem.head _ | refine List.Mem.tail _ ?_)))).mono ?_; rintro e w6 ⟨rfl, hb6⟩; rw [hd2]; have SN := Lib.hid (SN0.next hb6))); have k3 := SN.out.box (g := b3) (cs := #[.slice A7 zs2.length c7, .slice A8 x.spots.length c8]) (t := 30) (by repeat (first | with_reducible exact List.mem_cons_self | with_reducible exact List.Mem.head _ | refine List.Mem.tail _ ?_)); have k5 := SN.out.box (g := b5) (cs := #[.slice Y1 ny1 cy1, .slice Y2 ny2 cy2]) (t := 30) (by repeat (first | with_reducible exact List.mem_cons_self | with_reducible exact List.Mem.head _ | refine List.Mem.tail _ ?_))))
  refine hK.out _ _ ?_ (fun hHeld => ?_)
  · (first | exact ⟨k5 0, k5 1, k3 0, k3 1⟩ | go_keep)
  clear hK K
  (try simp only [Act.put, List.setIfInBounds_toArray, List.set_cons_zero, List.set_cons_succ])
  refine wpS_take (i := 11) (v := ?_) rfl (by kernel_rfl) (fun _ _ _ h => h) (Or.inl ⟨by rfl, ?_⟩) (by assumption) ?_
  rotate_left
  · (intro w9 hSw; (try dsimp only at hSw); go_simp; (try with_reducible rfl))
  (try simp only [Act.put, List.setIfInBounds_toArray, List.set_cons_zero, List.set_cons_succ])
  refine wpS_ready (rs := [12]) (by kernel_rfl) (by simp) ?_
  refine AllReadyS.last rfl (by kernel_rfl) (fun K hK => ?_)
  go_simp
  refine hK.out _ _ ?_
  clear hK K
  (try simp only [Act.put, List.setIfInBounds_toArray, List.set_cons_zero, List.set_cons_succ])
  refine wpS_done (by kernel_rfl) ?_ _
  go_wp2_with fail
  clear k3 k5
  have k3 := SN.out.box (g := b3) (cs := #[.slice A7 zs2.length c7, .slice A8 x.spots.length c8]) (t := 30) (by repeat (first | with_reducible exact List.mem_cons_self | with_reducible exact List.Mem.head _ | refine List.Mem.tail _ ?_))
  refine (iPlanScaled_any _ x 2 _ (HP.out _ _ SN.out (by repeat (first | with_reducible exact List.mem_cons_self | with_reducible exact List.Mem.head _ | refine List.Mem.tail _ ?_))) (by omega)).mono ?_
  rintro e w9 ⟨v9, f9, rfl, ho9, hb9⟩
  have SQ := Lib.hid (SN.out.gotPlan ho9 hb9)
  clear SN k3 ho9 hb9
  have SN := SQ
  clear SQ
  go_wp2_with fail
  refine (iPlanScaled_any _ (planScaled x 2) 3 _ (SN.out.op (.head _) (by rw [planScaled_blk]; omega)) (by rw [planScaled_blk]; omega)).mono ?_
  rintro e w10 ⟨v10, f10, rfl, ho10, hb10⟩
  have SQ := Lib.hid (SN.out.gotPlan ho10 hb10)
  clear SN ho10 hb10
  have SN := SQ
  clear SQ
  obtain ⟨Z1, nz1, cz1, Z2, nz2, cz2, rfl⟩ := OPlan.form (SN.out.on _ (.head _))
  have SQ := Lib.hid (SN.out.alloc #[.slice Z1 nz1 cz1, .slice Z2 nz2 cz2] 30)
  clear SN
  have SN := SQ
  clear SQ
  obtain ⟨b6, hb6'⟩ : ∃ b, w10.heap.size = b := ⟨_, rfl⟩
  rw [hb6'] at SN
  go_upto_region 8 with fail
  generalize w10.alloc (.cells #[.slice Z1 nz1 cz1, .slice Z2 nz2 cz2] 30) = W6 at SN ⊢
  clear hb6'
  have k3 := SN.out.box (g := b3) (cs := #[.slice A7 zs2.length c7, .slice A8 x.spots.length c8]) (t := 30) (by repeat (first | with_reducible exact List.mem_cons_self | with_reducible exact List.Mem.head _ | refine List.Mem.tail _ ?_))
  go_wp2_with fail
  refine (iPlanScaled_any _ x 6 _ (HP.out _ _ SN.out (by repeat (first | with_reducible exact List.mem_cons_self | with_reducible exact List.Mem.head _ | refine List.Mem.tail _ ?_))) (by omega)).mono ?_
  rintro e w11 ⟨v11, f11, rfl, ho11, hb11⟩
  have SQ := Lib.hid (SN.out.gotPlan ho11 hb11)
  clear SN ho11 hb11 k3
  have SN := SQ
  clear SQ
  obtain ⟨Q1, nq1, cq1, Q2, nq2, cq2, rfl⟩ := OPlan.form (SN.out.on _ (.head _))
  have SQ := Lib.hid (SN.out.alloc #[.slice Q1 nq1 cq1, .slice Q2 nq2 cq2] 30)
  clear SN
  have SN := SQ
  clear SQ
  obtain ⟨b7, hb7'⟩ : ∃ b, w11.heap.size = b := ⟨_, rfl⟩
  rw [hb7'] at SN
  go_upto_region 9 with fail
  generalize w11.alloc (.cells #[.slice Q1 nq1 cq1, .slice Q2 nq2 cq2] 30) = W7 at SN ⊢
  clear hb7'
  have k3 := SN.out.box (g := b3) (cs := #[.slice A7 zs2.length c7, .slice A8 x.spots.length c8]) (t := 30) (by repeat (first | with_reducible exact List.mem_cons_self | with_reducible exact List.Mem.head _ | refine List.Mem.tail _ ?_))
  have k31 := k3 1
  simp at k31
  have hsp : RL 16777216 4 (flat Spot.cells) W7 W7.heap.size (.slice A8 x.spots.length c8) x.spots := by
    obtain ⟨v1, v2, hv, h1, h2⟩ := HP.out _ _ SN.out (by repeat (first | with_reducible exact List.mem_cons_self | with_reducible exact List.Mem.head _ | refine List.Mem.tail _ ?_))
    simp at hv
    rw [hv.2]
    exact h2
  have HSP := Lib.hid hsp
  clear hsp k3
  go_wp2_with fail
  go_loop [8, 9] (fun fv i => ∃ k : Nat, k ≤ x.spots.length ∧ i = .int .i64 k ∧ fv = .bool ((x.spots.take k).any fun s => decide (300 < s.x) || (decide (300 < s.y) || decide (300 < s.z)))) (fun _ i => x.spots.length - (intOf i).toNat)
  case atStart => exact ⟨0, Nat.zero_le _, rfl, rfl⟩
  case round =>
    obtain ⟨k, hk, rfl, rfl⟩ := hrel
    by_cases hlt : k < x.spots.length
    · obtain ⟨b, off, s, _, rfl, hb, hx, _, rfl, hc⟩ := HSP.out.at_ k hlt
      have hc0 := hc 0 _ rfl; have hc1 := hc 1 _ rfl; have hc2 := hc 2 _ rfl; have hc3 := hc 3 _ rfl; simp only [Nat.add_zero] at hc0
      have hst : (x.spots.take (k + 1)).any (fun s => decide (300 < s.x) || (decide (300 < s.y) || decide (300 < s.z))) = ((x.spots.take k).any (fun s => decide (300 < s.x) || (decide (300 < s.y) || decide (300 < s.z))) || (decide (300 < s.x) || (decide (300 < s.y) || decide (300 < s.z)))) := by rw [List.take_add_one, hx, List.any_append]; simp
      obtain ⟨f, hf⟩ : ∃ f, (x.spots.take k).any (fun s => decide (300 < s.x) || (decide (300 < s.y) || decide (300 < s.z))) = f := ⟨_, rfl⟩
      obtain ⟨q1, hq1⟩ : ∃ f, decide (300 < s.x) = f := ⟨_, rfl⟩
      obtain ⟨q2, hq2⟩ : ∃ f, decide (300 < s.y) = f := ⟨_, rfl⟩
      obtain ⟨q3, hq3⟩ : ∃ f, decide (300 < s.z) = f := ⟨_, rfl⟩
      rw [hf, hq1, hq2, hq3] at hst
      have HST := Lib.hid hst
      clear hst hc hx
      rw [hf]
      clear hf
      cases f <;> cases q1 <;> cases q2 <;> cases q3
      all_goals
        go_wp2
        go_round
        (case rel => exact ⟨k + 1, hlt, by go_num, by rw [HST.out]; rfl⟩)
        (case measure => (simp [intOf] <;> omega))
    · obtain rfl : k = x.spots.length := by omega
      rw [List.take_length]
      obtain ⟨f, hf⟩ : ∃ f, x.spots.any (fun s => decide (300 < s.x) || (decide (300 < s.y) || decide (300 < s.z))) = f := ⟨_, rfl⟩
      have HF := Lib.hid hf
      rw [hf]
      clear hf
      cases f
      · have k3 := SN.out.box (g := b3) (cs := #[.slice A7 zs2.length c7, .slice A8 x.spots.length c8]) (t := 30) (by repeat (first | with_reducible exact List.mem_cons_self | with_reducible exact List.Mem.head _ | refine List.Mem.tail _ ?_))
        obtain ⟨po, hpo⟩ : ∃ f, planOk x = f := ⟨_, rfl⟩
        have HPO := Lib.hid hpo
        clear hpo
        go_wp2_with fail
        refine (sPlanOk_any _ x _ (HP.out _ _ SN.out (by repeat (first | with_reducible exact List.mem_cons_self | with_reducible exact List.Mem.head _ | refine List.Mem.tail _ ?_)))).mono ?_
        rintro e w12 ⟨rfl, hb12⟩
        have SQ := Lib.hid (SN.out.next hb12)
        rw [HPO.out]
        cases po
        · go_wp2
          go_ret
          exact ⟨rfl, SQ.out.low⟩
        · have HE := planScaled_six HPO.out (farR_false HF.out)
          have hd3 : decide (planScaled (planScaled x 2) 3 = planScaled x 6) = true := decide_eq_true HE
          clear k3 k31
          have k6 := SQ.out.box (g := b6) (cs := #[.slice Z1 nz1 cz1, .slice Z2 nz2 cz2]) (t := 30) (by repeat (first | with_reducible exact List.mem_cons_self | with_reducible exact List.Mem.head _ | refine List.Mem.tail _ ?_))
          have k7 := SQ.out.box (g := b7) (cs := #[.slice Q1 nq1 cq1, .slice Q2 nq2 cq2]) (t := 30) (by repeat (first | with_reducible exact List.mem_cons_self | with_reducible exact List.Mem.head _ | refine List.Mem.tail _ ?_))
          go_wp2_with fail
          refine (sPlanSame_any _ _ (planScaled (planScaled x 2) 3) (planScaled x 6) _ (SQ.out.op (by repeat (first | with_reducible exact List.mem_cons_self | with_reducible exact List.Mem.head _ | refine List.Mem.tail _ ?_)) (by rw [planScaled_blk, planScaled_blk]; omega)) (SQ.out.op (by repeat (first | with_reducible exact List.mem_cons_self | with_reducible exact List.Mem.head _ | refine List.Mem.tail _ ?_)) (by rw [planScaled_blk]; omega))).mono ?_
          rintro e w13 ⟨rfl, hb13⟩
          rw [hd3]
          go_wp2
          go_ret
          exact ⟨rfl, (SQ.out.next hb13).low⟩
      · go_wp2
        go_ret
        exact ⟨rfl, SN.out.low⟩
set_option maxRecDepth 100000 in
theorem FnPlanScaled_lifted (os : Os) (started : os.Started) (H : Type) (enc : TypeId × Value → H) :
    ReturnsInHanded {} Try.checked os 4 .any (Rows.fnPlanScaledSpec.pre6 enc Try.prog Try.f4 Rows.fnPlanScaledRow.domain false) (Rows.fnPlanScaledSpec.post enc Try.prog Try.f4 false true false false) := by
  refine returnsInHanded_of_change (C := Try.checked) own_ started (by kernel_rfl) Try.func4
    (ChangeSpec.witness6 (enc := enc) (C := Try.checked) false ⟨#[], #[.slice none 0 0], []⟩ 8 (by kernel_rfl) (by kernel_rfl) (by kernel_rfl) (by kernel_rfl)) ?_
  intro W base args ds gs before hval0 hW hcnd _
  have hval : ∀ (j : Nat) t v, Try.f4.params[j]? = some t → args[j]? = some v → Value.okWide Try.prog W .any base t v := hval0
  have hW' := hW
  obtain ⟨p, q, hA0, hV, rfl, hfz, hnd⟩ := hW
  have hA : DataW.TrodAll enc Try.prog W 0 (fun _ => true) true Try.f4.params.toList args.toList ds p := hA0
  rw [Try.params4] at hA hval
  obtain ⟨v0, vs0, d0, ds0, p0, q0, hargs, rfl, rfl, h0, r0⟩ := trodAll_cons hA
  obtain ⟨rfl, rfl, rfl⟩ := trodAll_nil r0
  obtain rfl : args = #[v0] := by cases args; simp_all
  obtain ⟨rfl, rfl⟩ := trodVars_none hV
  clear hA0 hval0 hA
  simp only [List.append_nil] at hW'
  have hlt : ∀ x ∈ p0, x.block < W.heap.size := fun x hx => hW'.lt x (by simpa using hx)
  have k0 := h0
  have w0 := read_Bytes (hval 0 22 v0 rfl rfl) h0 (fun x hx => hlt x (by simp [hx]))
  refine (FnPlanScaled_walk v0 W w0).mono fun e W' ⟨he, hb⟩ => ?_
  subst he
  exact ⟨_, rfl, post_of_below (pa := p0 ++ []) (pv := []) hW' (fun _ _ _ => (trodAll_cons_mk (shut_bool Try.underlying4 _) trodAll_mk0)) (fun sp hsp => (trodAll_cons_mk (stays laidOut_ (by kernel_rfl) (of_decide_eq_true (by kernel_rfl)) k0 hb (fun x hx => hlt x (by simp [hx])) (fun x hx => hsp x (by simp [hx]))) trodAll_mk0)) (fun _ _ => rfl) (by simp) hb
    (ok_one (by kernel_rfl) rfl (okWide_bool_mk Try.underlying4 _))⟩
theorem FnPlanScaled_over : Rows.fnPlanScaledRow.holds Try.pinned (OpenSpec.ofChange Rows.fnPlanScaledSpec) :=
  OpenClaim.holds_of_wide 4 Try.f4 rfl rfl rfl rfl rfl rfl rfl ⟨rfl, rfl, rfl, rfl, rfl⟩ rfl rfl rfl rfl rfl (by kernel_rfl) Try.func4 (by kernel_rfl)
    (of_decide_eq_true (by kernel_rfl)) (by unfold Func.isWrapper; first | (rw [if_pos (by decide +kernel)]; kernel_rfl) | (rw [if_neg (by decide +kernel)]; exact ⟨rfl, rfl⟩))
    (fun os started H enc _ => FnPlanScaled_lifted os started H enc)
theorem FnPlanScaled_proved : Rows.FnPlanScaledSaid := FnPlanScaled_over
end Go.Proofs.Ytlhniekjdoeidaa

