/-
  PlanSame: two plans, compared: the reference's walk.
-/
import Derived.Test.YtlhniekjdoeidaaKa01
namespace Go.Proofs.Ytlhniekjdoeidaa
set_option linter.unusedVariables false
set_option linter.unusedSimpArgs false
set_option maxRecDepth 100000
open Go.RowKit Go.WideShapes Go.ChangeShapes Go.ChangeAt Go.Deep
theorem plan_ext {p q : Plan} (h1 : p.cartons = q.cartons) (h2 : p.spots = q.spots) : p = q := by cases p; cases q; simp at h1 h2; rw [h1, h2]
theorem dec_carton (x y : Carton) : decide (x = y) = (!(x.type != y.type) && (!(x.group != y.group) && decide (x.units = y.units))) := by
  cases x; cases y; rw [Bool.eq_iff_iff]; simp
set_option maxHeartbeats 4000000 in
theorem sPlanSame_any (v u : Value) (p q : Plan) (w : World) (h : RPlan 16777216 w w.heap.size v p) (h2 : RPlan 16777216 w w.heap.size u q) : Calls Try.prog 12 #[v, u] w fun e w' => e = .returned (.bool (decide (p = q))) ∧ Below w.heap.size w w' := by
  obtain ⟨v1, v2, rfl, hv1, hv2⟩ := h
  obtain ⟨u1, u2, rfl, hu1, hu2⟩ := h2
  have HV1 := Lib.hid hv1
  have HV2 := Lib.hid hv2
  have HU1 := Lib.hid hu1
  have HU2 := Lib.hid hu2
  obtain ⟨A1, c1, rfl, hbA1, _⟩ := hv1
  obtain ⟨A2, c2, rfl, hbA2, _⟩ := hv2
  obtain ⟨B1, d1, rfl, hbB1, _⟩ := hu1
  obtain ⟨B2, d2, rfl, hbB2, _⟩ := hu2
  have hS := ((Sit.here w).alloc #[.slice A1 p.cartons.length c1, .slice A2 p.spots.length c2] 30).alloc #[.slice B1 q.cartons.length d1, .slice B2 q.spots.length d2] 30
  simp only [World.size_alloc] at hS
  have SN := Lib.hid hS
  clear hS
  by_cases hc : p.cartons.length = q.cartons.length
  · by_cases hs : p.spots.length = q.spots.length
    · have hc0 : ((p.cartons.length : Int) != (q.cartons.length : Int)) = false := by simp [hc]
      have hs0 : ((p.spots.length : Int) != (q.spots.length : Int)) = false := by simp [hs]
      have HC := Lib.hid hc
      have HS := Lib.hid hs
      clear hc hs
      go_enter Try.func12, Try.ntmps12
      go_wp2_with fail
      go_loopw [5] (fun i wr => ∃ k : Nat, k ≤ p.cartons.length ∧ i = .int .i64 k ∧ (∀ i, i < k → p.cartons[i]? = q.cartons[i]?) ∧ Hid (Sit w wr [fBox (w.heap.size + 1) #[.slice B1 q.cartons.length d1, .slice B2 q.spots.length d2] 30, fBox w.heap.size #[.slice A1 p.cartons.length c1, .slice A2 p.spots.length c2] 30])) (fun i _ => p.cartons.length - (intOf i).toNat)
      case atStart => exact ⟨0, Nat.zero_le _, rfl, fun _ h => by omega, SN⟩
      case round =>
        clear SN
        obtain ⟨k, hk, rfl, heq, SN⟩ := hrel
        have HE := Lib.hid heq
        clear heq
        have k2 := SN.out.box (.tail _ (.head _))
        have k20 := k2 0
        simp at k20
        by_cases hlt : k < p.cartons.length
        · obtain ⟨b, off, x, _, rfl, hb, hx, _, ⟨vx, rfl, hrx⟩, hd⟩ := (HV1.out.next (RCarton_mono _) SN.out.low).at_ k hlt
          obtain ⟨b2, off2, y, _, rfl, hb2, hy, _, ⟨vy, rfl, hry⟩, hd2⟩ := (HU1.out.next (RCarton_mono _) SN.out.low).at_ k (HC.out ▸ hlt)
          have hlt2 : k < q.cartons.length := HC.out ▸ hlt
          have k3 := SN.out.box (.head _)
          have k30 := k3 0
          simp at k30
          have l2 := SN.out.boxlt (.tail _ (.head _))
          have l3 := SN.out.boxlt (.head _)
          have x2 := fun X : Ext wr.heap.size wr => (X.ok.cell (p := ⟨w.heap.size, 0, none⟩) l2).trans k20
          have x3 := fun X : Ext wr.heap.size wr => (X.ok.cell (p := ⟨w.heap.size + 1, 0, none⟩) l3).trans k30
          have y0 := fun X : Ext wr.heap.size wr => (X.ok.cell (p := ⟨b, off + k * 3, none⟩) hb).trans (hd 0 _ rfl)
          have y1 := fun X : Ext wr.heap.size wr => (X.ok.cell (p := ⟨b, off + k * 3 + 1, none⟩) hb).trans (hd 1 _ rfl)
          have y2 := fun X : Ext wr.heap.size wr => (X.ok.cell (p := ⟨b, off + k * 3 + 2, none⟩) hb).trans (hd 2 _ rfl)
          have z0 := fun X : Ext wr.heap.size wr => (X.ok.cell (p := ⟨b2, off2 + k * 3, none⟩) hb2).trans (hd2 0 _ rfl)
          have z1 := fun X : Ext wr.heap.size wr => (X.ok.cell (p := ⟨b2, off2 + k * 3 + 1, none⟩) hb2).trans (hd2 1 _ rfl)
          have z2 := fun X : Ext wr.heap.size wr => (X.ok.cell (p := ⟨b2, off2 + k * 3 + 2, none⟩) hb2).trans (hd2 2 _ rfl)
          have hcall := fun X : Ext wr.heap.size wr => l1Same_any vx vy x.units y.units X.world (hrx.next (flat_mono _) X.ok) (hry.next (flat_mono _) X.ok)
          have hdc := dec_carton x y
          obtain ⟨e1, he1⟩ : ∃ d, (x.type != y.type) = d := ⟨_, rfl⟩
          obtain ⟨e2, he2⟩ : ∃ d, (x.group != y.group) = d := ⟨_, rfl⟩
          obtain ⟨e3, he3⟩ : ∃ d, decide (x.units = y.units) = d := ⟨_, rfl⟩
          rw [he3] at hcall hdc
          rw [he1, he2] at hdc
          have HD := Lib.hid hdc
          have HCL := Lib.hid hcall
          have HX := Lib.hid hx
          have HY := Lib.hid hy
          clear hd hd2 hrx hry hcall hdc hx hy he3 k2 k3
          cases e1 <;> cases e2 <;> cases e3
          all_goals
            go_wp2
            refine wp_region_at (B := wr.heap.size) (by kernel_rfl) (by kernel_rfl) ?_
            repeat (go_big_quiet_step (exact ext_call (Nat.le_refl _) (HCL.out _)))
            refine wpQuiet_nil ?_
            intro wd hw'
            obtain ⟨Y, hY⟩ := hw'
            have hbd : Below wr.heap.size wr wd := hY ▸ Y.ok
            clear hY Y
            go_wp2
          all_goals first
            | (go_ret; exact ⟨ret_bool (by rw [decide_eq_false (fun e : p = q => list_ne_of HX.out HY.out (of_decide_eq_false (show decide (x = y) = false by rw [HD.out]; rfl)) (by rw [e]))]), (SN.out.next hbd).low⟩)
            | (go_roundw; (case rel => exact ⟨k + 1, hlt, by go_num, eq_upto HE.out HX.out (by rw [HY.out, of_decide_eq_true (show decide (x = y) = true by rw [HD.out]; rfl)]), Lib.hid (SN.out.next hbd)⟩); (case measure => (simp [intOf] <;> omega)))
        · have HEC := Lib.hid (list_eq_of HC.out (show k = p.cartons.length by omega) HE.out)
          go_wp2
          go_loopw [6] (fun i wr => ∃ k : Nat, k ≤ p.spots.length ∧ i = .int .i64 k ∧ (∀ i, i < k → p.spots[i]? = q.spots[i]?) ∧ Hid (Sit w wr [fBox (w.heap.size + 1) #[.slice B1 q.cartons.length d1, .slice B2 q.spots.length d2] 30, fBox w.heap.size #[.slice A1 p.cartons.length c1, .slice A2 p.spots.length c2] 30])) (fun i _ => p.spots.length - (intOf i).toNat)
          case atStart => exact ⟨0, Nat.zero_le _, rfl, fun _ h => by omega, SN⟩
          case round =>
            clear SN HE hk hlt k2 k20
            obtain ⟨k, hk, rfl, heq, SN⟩ := hrel
            have HE := Lib.hid heq
            clear heq
            have k2 := SN.out.box (.tail _ (.head _))
            have k20 := k2 1
            simp at k20
            by_cases hlt : k < p.spots.length
            · obtain ⟨b, off, x, _, rfl, hb, hx, _, rfl, hd⟩ := (HV2.out.next (flat_mono _) SN.out.low).at_ k hlt
              obtain ⟨b2, off2, y, _, rfl, hb2, hy, _, rfl, hd2⟩ := (HU2.out.next (flat_mono _) SN.out.low).at_ k (HS.out ▸ hlt)
              have hlt2 : k < q.spots.length := HS.out ▸ hlt
              have k3 := SN.out.box (.head _)
              have k30 := k3 1
              simp at k30
              have l2 := SN.out.boxlt (.tail _ (.head _))
              have l3 := SN.out.boxlt (.head _)
              have x2 := fun X : Ext wr.heap.size wr => (X.ok.cell (p := ⟨w.heap.size, 1, none⟩) l2).trans k20
              have x3 := fun X : Ext wr.heap.size wr => (X.ok.cell (p := ⟨w.heap.size + 1, 1, none⟩) l3).trans k30
              have y0 := fun X : Ext wr.heap.size wr => (X.ok.cell (p := ⟨b, off + k * 4, none⟩) hb).trans (hd 0 _ rfl)
              have y1 := fun X : Ext wr.heap.size wr => (X.ok.cell (p := ⟨b, off + k * 4 + 1, none⟩) hb).trans (hd 1 _ rfl)
              have y2 := fun X : Ext wr.heap.size wr => (X.ok.cell (p := ⟨b, off + k * 4 + 2, none⟩) hb).trans (hd 2 _ rfl)
              have y3 := fun X : Ext wr.heap.size wr => (X.ok.cell (p := ⟨b, off + k * 4 + 3, none⟩) hb).trans (hd 3 _ rfl)
              have z0 := fun X : Ext wr.heap.size wr => (X.ok.cell (p := ⟨b2, off2 + k * 4, none⟩) hb2).trans (hd2 0 _ rfl)
              have z1 := fun X : Ext wr.heap.size wr => (X.ok.cell (p := ⟨b2, off2 + k * 4 + 1, none⟩) hb2).trans (hd2 1 _ rfl)
              have z2 := fun X : Ext wr.heap.size wr => (X.ok.cell (p := ⟨b2, off2 + k * 4 + 2, none⟩) hb2).trans (hd2 2 _ rfl)
              have z3 := fun X : Ext wr.heap.size wr => (X.ok.cell (p := ⟨b2, off2 + k * 4 + 3, none⟩) hb2).trans (hd2 3 _ rfl)
              have hel := neq_Spot x y
              have hgu := fun p q => guard_Spot .neq p q x y
              obtain ⟨e1, he1⟩ : ∃ d, decide (x = y) = d := ⟨_, rfl⟩
              rw [he1] at hel
              have HD := Lib.hid he1
              have HX := Lib.hid hx
              have HY := Lib.hid hy
              clear hd hd2 hx hy he1 k2 k3
              cases e1
              all_goals
                go_wp2
                refine wp_region_at (B := wr.heap.size) (by kernel_rfl) (by kernel_rfl) ?_
                repeat (go_big_quiet_step (fail))
                refine wpQuiet_nil ?_
                intro wd hw'
                obtain ⟨Y, hY⟩ := hw'
                have hbd : Below wr.heap.size wr wd := hY ▸ Y.ok
                clear hY Y
                go_wp2
              all_goals first
                | (go_ret; exact ⟨ret_bool (by rw [decide_eq_false (fun e : p = q => list_ne_of HX.out HY.out (of_decide_eq_false HD.out) (by rw [e]))]), (SN.out.next hbd).low⟩)
                | (go_roundw; (case rel => exact ⟨k + 1, hlt, by go_num, eq_upto HE.out HX.out (by rw [HY.out, of_decide_eq_true HD.out]), Lib.hid (SN.out.next hbd)⟩); (case measure => (simp [intOf] <;> omega)))
            · have HES := Lib.hid (list_eq_of HS.out (show k = p.spots.length by omega) HE.out)
              go_wp2
              go_ret
              exact ⟨ret_bool (by rw [decide_eq_true (plan_ext HEC.out HES.out)]), SN.out.low⟩
    · have hc0 : ((p.cartons.length : Int) != (q.cartons.length : Int)) = false := by simp [hc]
      have hs0 : ((p.spots.length : Int) != (q.spots.length : Int)) = true := by rw [bne_iff_ne]; omega
      have HN := Lib.hid (show ¬ p = q from fun e => hs (by rw [e]))
      clear hc hs
      go_enter Try.func12, Try.ntmps12
      go_wp2_with fail
      go_ret
      exact ⟨ret_bool (by rw [decide_eq_false HN.out]), SN.out.low⟩
  · have hc0 : ((p.cartons.length : Int) != (q.cartons.length : Int)) = true := by rw [bne_iff_ne]; omega
    have HN := Lib.hid (show ¬ p = q from fun e => hc (by rw [e]))
    clear hc
    go_enter Try.func12, Try.ntmps12
    go_wp2_with fail
    go_ret
    exact ⟨ret_bool (by rw [decide_eq_false HN.out]), SN.out.low⟩
end Go.Proofs.Ytlhniekjdoeidaa

