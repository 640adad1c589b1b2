/-
  The law FnExactTotal: whatever the bills, the program's Total answers what the reference's answers, and leaves the bills alone.
-/
import Derived.Test.YtgljohibcglnbaaTo
import Derived.Test.YtgljohibcglnbaaRd
namespace Go.Proofs.Ytgljohibcglnbaa
set_option linter.unusedVariables false
set_option linter.unusedSimpArgs false
open Go.RowKit Go.WideShapes Go.ChangeShapes Go.ChangeAt Go.Deep
open Go.ChangeMaps (open_string shut_string)
set_option maxHeartbeats 400000 in
theorem FnExactTotal_walk (v : Value) (w : World) (h : ∃ xs, RL 9223372036854775807 5 (flat Bill.cells) w w.heap.size v xs) :
    Calls Try.prog 7 #[v] w fun e w' => e = .returned (.bool true) ∧ Below w.heap.size w w' := by
  obtain ⟨xs, h⟩ := h
  have h' := h
  obtain ⟨A, c, rfl, hbd, _⟩ := h
  have hz := szBillS_any A xs.length c 1048576 w hbd (by omega) (by omega)
  obtain ⟨t, ht⟩ : ∃ t, szR 1048576 (xs.length : Int) = t := ⟨_, rfl⟩
  rw [ht] at hz
  have HZ := Lib.hid hz
  have HT := Lib.hid ht
  have H0 := Lib.hid h'
  clear h' hz ht
  by_cases hneg : t < 0
  · go_enter Try.func7, Try.ntmps7
    go_wp2_with (go_at_call 18; refine HZ.out.mono ?_; rintro e w' ⟨rfl, rfl⟩)
    go_ret
    exact ⟨rfl, Below.refl _ _⟩
  · have hle := szR_ok (show 0 ≤ szR 1048576 (xs.length : Int) by rw [HT.out]; omega)
    have hL : xs.length ≤ 16777216 := by omega
    have H1 := Lib.hid (H0.out.wide hL)
    obtain ⟨d, hd⟩ : ∃ d, d = totB xs := ⟨_, rfl⟩
    have cs : ∀ (W : World) (u : Value), RL 16777216 5 (flat Bill.cells) W W.heap.size u xs → Calls Try.prog 23 #[u] W fun e w' => e = .returned d.val ∧ Below W.heap.size W w' := fun W u hu => by rw [hd]; exact sTotal_any u xs W hu
    have ci : ∀ (W : World) (u : Value), RL 16777216 5 (flat Bill.cells) W W.heap.size u xs → Calls Try.prog 24 #[u] W fun e w' => e = .returned d.val ∧ Below W.heap.size W w' := fun W u hu => by rw [hd]; exact iTotal_any u xs W hu
    have CS := Lib.hid cs
    have CI := Lib.hid ci
    clear hle H0 hd cs ci
    go_enter Try.func7, Try.ntmps7
    go_wp2_with (go_at_call 18; refine HZ.out.mono ?_; rintro e w' ⟨rfl, rfl⟩)
    refine (toBillS_any _ xs _ H1.out).mono ?_
    rintro e w1 ⟨v1, rfl, ho1, hb1⟩
    have hr1 := OL.read (OL_of_own ho1 (fun _ => rfl)) (fun cs x f h h' => eflat_read cs x f h h') hL
    have H11 := Lib.hid ((H1.out.below (flat_mono _) hb1).more (flat_mono _) hb1.size)
    go_wp2_with fail
    refine (CS.out _ v1 hr1).mono ?_
    rintro e w2 ⟨rfl, hb2⟩
    have H12 := Lib.hid (((H11.out.below (flat_mono _) hb2).more (flat_mono _) hb2.size))
    go_wp2_with fail
    refine (toBillS_any _ xs _ ((H12.out.below (flat_mono _) ((Below.refl _ _).alloc (Nat.le_refl _) _)).more (flat_mono _) (by simp))).mono ?_
    rintro e w3 ⟨v3, rfl, ho3, hb3⟩
    have hr3 := OL.read (OL_of_own ho3 (fun _ => rfl)) (fun cs x f h h' => eflat_read cs x f h h') hL
    have hb23 : Below w2.heap.size w2 w3 := bstep ((Below.refl _ _).alloc (Nat.le_refl _) _) hb3
    have hx3 := (hb3.block w2.heap.size (by simp)).trans (heap_alloc_new w2 _)
    have H13 := Lib.hid ((H12.out.below (flat_mono _) hb23).more (flat_mono _) hb23.size)
    have HX3 := Lib.hid hx3
    clear hx3
    go_wp2_with fail
    refine (CI.out _ v3 hr3).mono ?_
    rintro e w4 ⟨rfl, hb4⟩
    have hr4 := (hr3.below (flat_mono _) hb4).more (flat_mono _) hb4.size
    have hx4 := (hb4.block w2.heap.size (lt_of_block HX3.out)).trans HX3.out
    have H14 := Lib.hid ((H13.out.below (flat_mono _) hb4).more (flat_mono _) hb4.size)
    have hc4 := fun j => cell_of_row _ _ j _ _ (0, 0) hx4
    have hlt4 := lt_of_block hx4
    have HX4 := Lib.hid hx4
    clear hx4
    go_wp2_with fail
    refine (eqBill_any d d _).mono ?_
    rintro e w5 ⟨rfl, hb5⟩
    have hb45 : Below w4.heap.size w4 w5 := bstep ((Below.refl _ _).alloc (Nat.le_refl _) _) hb5
    have H15 := Lib.hid ((H14.out.below (flat_mono _) hb45).more (flat_mono _) hb45.size)
    have hr5 := (hr4.below (flat_mono _) hb45).more (flat_mono _) hb45.size
    go_wp2_with fail
    refine (toBillS_any _ xs _ H15.out).mono ?_
    rintro e w6 ⟨v6, rfl, ho6, hb6⟩
    have hr6 := OL.read (OL_of_own ho6 (fun _ => rfl)) (fun cs x f h h' => eflat_read cs x f h h') hL
    go_wp2_with fail
    refine (eqBillS_any v3 v6 xs xs _ ((hr5.below (flat_mono _) hb6).more (flat_mono _) hb6.size) hr6).mono ?_
    rintro e w7 ⟨rfl, hb7⟩
    go_wp2
    go_ret
    exact ⟨rfl, bstep (bstep (bstep (bstep (bstep (bstep hb1 hb2) hb23) hb4) hb45) hb6) hb7⟩
set_option maxRecDepth 100000 in
theorem FnExactTotal_lifted (os : Os) (started : os.Started) (H : Type) (enc : TypeId × Value → H) :
    ReturnsInHanded {} Try.checked os 7 .any (Rows.fnExactTotalSpec.pre6 enc Try.prog Try.f7 Rows.fnExactTotalRow.domain false) (Rows.fnExactTotalSpec.post enc Try.prog Try.f7 false true false false) := by
  refine returnsInHanded_of_change (C := Try.checked) own_ started (by kernel_rfl) Try.func7
    (ChangeSpec.witness6 (enc := enc) (C := Try.checked) false ⟨#[], #[.slice none 0 0], []⟩ 8 (by kernel_rfl) (by kernel_rfl) (by kernel_rfl) (by kernel_rfl)) ?_
  intro W base args ds gs before hval0 hW hcnd _
  have hval : ∀ (j : Nat) t v, Try.f7.params[j]? = some t → args[j]? = some v → Value.okWide Try.prog W .any base t v := hval0
  have hW' := hW
  obtain ⟨p, q, hA0, hV, rfl, hfz, hnd⟩ := hW
  have hA : DataW.TrodAll enc Try.prog W 0 (fun _ => true) true Try.f7.params.toList args.toList ds p := hA0
  rw [Try.params7] at hA hval
  obtain ⟨v0, vs0, d0, ds0, p0, q0, hargs, rfl, rfl, h0, r0⟩ := trodAll_cons hA
  obtain ⟨rfl, rfl, rfl⟩ := trodAll_nil r0
  obtain rfl : args = #[v0] := by cases args; simp_all
  obtain ⟨rfl, rfl⟩ := trodVars_none hV
  clear hA0 hval0 hA
  simp only [List.append_nil] at hW'
  have hlt : ∀ x ∈ p0, x.block < W.heap.size := fun x hx => hW'.lt x (by simpa using hx)
  have k0 := h0
  have w0 := read_BillS (hval 0 31 v0 rfl rfl) h0 (fun x hx => hlt x (by simp [hx]))
  refine (FnExactTotal_walk v0 W w0).mono fun e W' ⟨he, hb⟩ => ?_
  subst he
  exact ⟨_, rfl, post_of_below (pa := p0 ++ []) (pv := []) hW' (fun _ _ _ => (trodAll_cons_mk (shut_bool Try.underlying4 _) trodAll_mk0)) (fun sp hsp => (trodAll_cons_mk (stays laidOut_ (by kernel_rfl) (of_decide_eq_true (by kernel_rfl)) k0 hb (fun x hx => hlt x (by simp [hx])) (fun x hx => hsp x (by simp [hx]))) trodAll_mk0)) (fun _ _ => rfl) (by simp) hb
    (ok_one (by kernel_rfl) rfl (okWide_bool_mk Try.underlying4 _))⟩
theorem FnExactTotal_over : Rows.fnExactTotalRow.holds Try.pinned (OpenSpec.ofChange Rows.fnExactTotalSpec) :=
  OpenClaim.holds_of_wide 7 Try.f7 rfl rfl rfl rfl rfl rfl rfl ⟨rfl, rfl, rfl, rfl, rfl⟩ rfl rfl rfl rfl rfl (by kernel_rfl) Try.func7 (by kernel_rfl)
    (of_decide_eq_true (by kernel_rfl)) (by unfold Func.isWrapper; first | (rw [if_pos (by decide +kernel)]; kernel_rfl) | (rw [if_neg (by decide +kernel)]; exact ⟨rfl, rfl⟩))
    (fun os started H enc _ => FnExactTotal_lifted os started H enc)
theorem FnExactTotal_proved : Rows.FnExactTotalSaid := FnExactTotal_over
end Go.Proofs.Ytgljohibcglnbaa
