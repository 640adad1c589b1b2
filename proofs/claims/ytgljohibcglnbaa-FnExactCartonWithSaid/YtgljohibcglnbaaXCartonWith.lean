/-
  The law FnExactCartonWith: whatever the plan and the unit, the program's CartonWith answers what the reference's answers, and leaves the plan alone.
-/
import Derived.Test.YtgljohibcglnbaaCw
import Derived.Test.YtgljohibcglnbaaRp
namespace Go.Proofs.Ytgljohibcglnbaa
set_option linter.unusedVariables false
set_option linter.unusedSimpArgs false
open Go.RowKit Go.WideShapes Go.ChangeShapes Go.ChangeAt Go.Deep
open Go.ChangeMaps (open_string shut_string)
set_option maxHeartbeats 400000 in
theorem FnExactCartonWith_walk (v : Value) (u : Int) (w : World) (h : ∃ p, RPlan 9223372036854775807 w w.heap.size v p) (_hu : (Lit.int .i64 u).wf = true) :
    Calls Try.prog 8 #[v, .int .i64 u] w fun e w' => e = .returned (.bool true) ∧ Below w.heap.size w w' := by
  obtain ⟨p, v1, v2, rfl, hc, hs⟩ := h
  have h : RPlan 9223372036854775807 w w.heap.size (.agg #[v1, v2]) p := ⟨v1, v2, rfl, hc, hs⟩
  have hbW : Below w.heap.size w (w.alloc (.cells #[v1, v2] 45)) := (by repeat' (first | with_reducible exact Below.refl _ _ | with_reducible assumption | with_reducible refine Below.drew ?_ | with_reducible refine Below.alloc ?_ ?_ _ | with_reducible refine Below.setCell ?_ ?_ _ | with_reducible refine below_drewN ?_ _ | (simp; done) | (simp; omega)))
  have hz := szPlan_any _ p 1048576 _ (h.next hbW) (by omega) (by omega)
  obtain ⟨t, ht⟩ : ∃ t, szR 1048576 (p.bulk : Nat) = t := ⟨_, rfl⟩
  rw [ht] at hz
  have HZ := Lib.hid hz
  have HT := Lib.hid ht
  have H0 := Lib.hid (h.next hbW)
  have HX := Lib.hid (heap_alloc_new w (.cells #[v1, v2] 45))
  clear h hc hs hz ht
  by_cases hneg : t < 0
  · go_enter Try.func8, Try.ntmps8
    go_wp2_with fail
    refine HZ.out.mono ?_
    rintro e w1 ⟨rfl, hb1⟩
    go_wp2
    go_ret
    exact ⟨rfl, bstep hbW hb1⟩
  · have hle := szR_ok (show 0 ≤ szR 1048576 (p.bulk : Nat) by rw [HT.out]; omega)
    have hL : p.bulk ≤ 16777216 := by omega
    have H1 := Lib.hid (H0.out.wide hL)
    clear hle H0
    go_enter Try.func8, Try.ntmps8
    go_wp2_with fail
    refine HZ.out.mono ?_
    rintro e w0 ⟨rfl, hb0⟩
    have H10 := Lib.hid (H1.out.next hb0)
    have HX0 := Lib.hid (blk_next HX.out hb0)
    have hx0 := fun j => cell_of_row _ _ j _ _ (0, 0) HX0.out
    go_wp2_with fail
    refine (toPlan_any _ p _ H10.out).mono ?_
    rintro e w1 ⟨u1, f1, rfl, ho1, hb1⟩
    have HR1 := Lib.hid (OPlan.read ho1 hL)
    have H11 := Lib.hid (H10.out.next hb1)
    have HX1 := Lib.hid (blk_next HX0.out hb1)
    go_wp2_with fail
    refine (sCartonWith_any u1 p u _ HR1.out).mono ?_
    rintro e w2 ⟨rfl, hb2⟩
    have H12 := Lib.hid (H11.out.next hb2)
    have HX2 := Lib.hid (blk_next HX1.out hb2)
    have hx2 := fun j => cell_of_row _ _ j _ _ (0, 0) HX2.out
    obtain ⟨d, hd⟩ : ∃ d, d = cwith p.cartons u := ⟨_, rfl⟩
    rw [← hd]
    have HD := Lib.hid hd
    clear hd
    go_wp2_with fail
    refine (toPlan_any _ p _ H12.out).mono ?_
    rintro e w3 ⟨u3, f3, rfl, ho3, hb3⟩
    obtain ⟨A1, n1, c1, A2, n2, c2, rfl⟩ := OPlan.form ho3
    have HR3 := Lib.hid (OPlan.read ho3 hL)
    have H13 := Lib.hid (H12.out.next hb3)
    have HX3 := Lib.hid (blk_next HX2.out hb3)
    have hbA : Below w3.heap.size w3 (w3.alloc (.cells #[.slice A1 n1 c1, .slice A2 n2 c2] 51)) := (by repeat' (first | with_reducible exact Below.refl _ _ | with_reducible assumption | with_reducible refine Below.drew ?_ | with_reducible refine Below.alloc ?_ ?_ _ | with_reducible refine Below.setCell ?_ ?_ _ | with_reducible refine below_drewN ?_ _ | (simp; done) | (simp; omega)))
    have HR3A := Lib.hid (HR3.out.next hbA)
    have H13A := Lib.hid (H13.out.next hbA)
    have HX3A := Lib.hid (blk_next HX3.out hbA)
    have HY3 := Lib.hid (heap_alloc_new w3 (.cells #[.slice A1 n1 c1, .slice A2 n2 c2] 51))
    go_wp2_with fail
    refine (iCartonWith_any _ p u _ HR3A.out).mono ?_
    rintro e w4 ⟨rfl, hb4⟩
    have HR4 := Lib.hid (HR3A.out.next hb4)
    have H14 := Lib.hid (H13A.out.next hb4)
    have HX4 := Lib.hid (blk_next HX3A.out hb4)
    have HY4 := Lib.hid (blk_next HY3.out hb4)
    have hx4 := fun j => cell_of_row _ _ j _ _ (0, 0) HX4.out
    have hy4 := fun j => cell_of_row _ _ j _ _ (0, 0) HY4.out
    rw [← HD.out]
    go_wp2_with fail
    have hbd : Below w4.heap.size w4 w4.drew := (Below.refl _ _).drew
    have hy40 := hy4 0
    have hy41 := hy4 1
    have hx40 := hx4 0
    have hx41 := hx4 1
    have hl1 : w3.heap.size < w4.heap.size := lt_of_block HY4.out
    have hl2 : w.heap.size < w4.heap.size := lt_of_block HX4.out
    simp at hy40 hy41 hx40 hx41
    clear hy4 hx4
    go_region_held3 (fun W' => W'.cell? ⟨w3.heap.size, 0, none⟩ = some (.slice A1 n1 c1) ∧ W'.cell? ⟨w3.heap.size, 1, none⟩ = some (.slice A2 n2 c2) ∧ W'.cell? ⟨w.heap.size, 0, none⟩ = some v1 ∧ W'.cell? ⟨w.heap.size, 1, none⟩ = some v2)
      (first | go_keep | exact ⟨k1, k2, k3, k4⟩ | exact ⟨l1, l2, l3, l4⟩)
      (first
        | (go_at_call 28; refine (toPlan_any _ p _ (H14.out.next hbd)).mono ?_; rintro e w5 ⟨u5, f5, rfl, ho5, hb5⟩; have HR5 := Lib.hid (OPlan.read ho5 hL); have k1 := (hb5.cell (p := ⟨w3.heap.size, 0, none⟩) hl1).trans hy40; have k2 := (hb5.cell (p := ⟨w3.heap.size, 1, none⟩) hl1).trans hy41; have k3 := (hb5.cell (p := ⟨w.heap.size, 0, none⟩) hl2).trans hx40; have k4 := (hb5.cell (p := ⟨w.heap.size, 1, none⟩) hl2).trans hx41)
        | (go_at_call 30; refine (eqPlan_any _ u5 p p _ ((HR4.out.next hbd).next hb5) HR5.out).mono ?_; rintro e w6 ⟨rfl, hb6⟩; have l1 := (hb6.cell (p := ⟨w3.heap.size, 0, none⟩) (Nat.lt_of_lt_of_le hl1 hb5.size)).trans k1; have l2 := (hb6.cell (p := ⟨w3.heap.size, 1, none⟩) (Nat.lt_of_lt_of_le hl1 hb5.size)).trans k2; have l3 := (hb6.cell (p := ⟨w.heap.size, 0, none⟩) (Nat.lt_of_lt_of_le hl2 hb5.size)).trans k3; have l4 := (hb6.cell (p := ⟨w.heap.size, 1, none⟩) (Nat.lt_of_lt_of_le hl2 hb5.size)).trans k4))
    go_wp2
    go_ret
    exact ⟨rfl, bstep (bstep (bstep (bstep (bstep (bstep (bstep (bstep (bstep hbW hb0) hb1) hb2) hb3) hbA) hb4) hbd) hb5) hb6⟩
set_option maxRecDepth 100000 in
theorem FnExactCartonWith_lifted (os : Os) (started : os.Started) (H : Type) (enc : TypeId × Value → H) :
    ReturnsInHanded {} Try.checked os 8 .any (Rows.fnExactCartonWithSpec.pre6 enc Try.prog Try.f8 Rows.fnExactCartonWithRow.domain false) (Rows.fnExactCartonWithSpec.post enc Try.prog Try.f8 false true false false) := by
  refine returnsInHanded_of_change (C := Try.checked) own_ started (by kernel_rfl) Try.func8
    (ChangeSpec.witness6 (enc := enc) (C := Try.checked) false ⟨#[], #[.agg #[.slice none 0 0, .slice none 0 0], .int .i64 0], []⟩ 8 (by kernel_rfl) (by kernel_rfl) (by kernel_rfl) (by kernel_rfl)) ?_
  intro W base args ds gs before hval0 hW hcnd _
  have hval : ∀ (j : Nat) t v, Try.f8.params[j]? = some t → args[j]? = some v → Value.okWide Try.prog W .any base t v := hval0
  have hW' := hW
  obtain ⟨p, q, hA0, hV, rfl, hfz, hnd⟩ := hW
  have hA : DataW.TrodAll enc Try.prog W 0 (fun _ => true) true Try.f8.params.toList args.toList ds p := hA0
  rw [Try.params8] at hA hval
  obtain ⟨v0, vs0, d0, ds0, p0, q0, hargs, rfl, rfl, h0, r0⟩ := trodAll_cons hA
  obtain ⟨v1, vs1, d1, ds1, p1, q1, rfl, rfl, rfl, h1, r1⟩ := trodAll_cons r0
  obtain ⟨rfl, rfl, rfl⟩ := trodAll_nil r1
  obtain rfl : args = #[v0, v1] := by cases args; simp_all
  obtain ⟨rfl, rfl⟩ := trodVars_none hV
  clear hA0 hval0 hA
  simp only [List.append_nil] at hW'
  have hlt : ∀ x ∈ p0 ++ p1, x.block < W.heap.size := fun x hx => hW'.lt x (by simpa using hx)
  have k0 := h0
  have w0 := read_Plan (hval 0 45 v0 rfl rfl) h0 (fun x hx => hlt x (by simp [hx]))
  have k1 := h1
  obtain ⟨a1, rfl, rfl, rfl, w1⟩ := open_int Try.underlying3 (hval 1 3 v1 rfl rfl) h1
  refine (FnExactCartonWith_walk v0 a1 W w0 w1).mono fun e W' ⟨he, hb⟩ => ?_
  subst he
  exact ⟨_, rfl, post_of_below (pa := p0 ++ ([] ++ [])) (pv := []) hW' (fun _ _ _ => (trodAll_cons_mk (shut_bool Try.underlying4 _) trodAll_mk0)) (fun sp hsp => (trodAll_cons_mk (stays laidOut_ (by kernel_rfl) (of_decide_eq_true (by kernel_rfl)) k0 hb (fun x hx => hlt x (by simp [hx])) (fun x hx => hsp x (by simp [hx]))) (trodAll_cons_mk (stays laidOut_ (by kernel_rfl) (of_decide_eq_true (by kernel_rfl)) k1 hb (fun x hx => by cases hx) (fun x hx => by cases hx)) trodAll_mk0))) (fun _ _ => rfl) (by simp) hb
    (ok_one (by kernel_rfl) rfl (okWide_bool_mk Try.underlying4 _))⟩
theorem FnExactCartonWith_over : Rows.fnExactCartonWithRow.holds Try.pinned (OpenSpec.ofChange Rows.fnExactCartonWithSpec) :=
  OpenClaim.holds_of_wide 8 Try.f8 rfl rfl rfl rfl rfl rfl rfl ⟨rfl, rfl, rfl, rfl, rfl⟩ rfl rfl rfl rfl rfl (by kernel_rfl) Try.func8 (by kernel_rfl)
    (of_decide_eq_true (by kernel_rfl)) (by unfold Func.isWrapper; first | (rw [if_pos (by decide +kernel)]; kernel_rfl) | (rw [if_neg (by decide +kernel)]; exact ⟨rfl, rfl⟩))
    (fun os started H enc _ => FnExactCartonWith_lifted os started H enc)
theorem FnExactCartonWith_proved : Rows.FnExactCartonWithSaid := FnExactCartonWith_over
end Go.Proofs.Ytgljohibcglnbaa
