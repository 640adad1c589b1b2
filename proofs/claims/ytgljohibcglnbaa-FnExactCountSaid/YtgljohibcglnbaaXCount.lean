/-
  The law FnExactCount: whatever the texts and the byte, the program's Count answers what the reference's answers, and leaves the texts alone.
-/
import Derived.Test.YtgljohibcglnbaaCt
import Derived.Test.YtgljohibcglnbaaFr
namespace Go.Proofs.Ytgljohibcglnbaa
set_option linter.unusedVariables false
set_option linter.unusedSimpArgs false
open Go.RowKit Go.WideShapes Go.ChangeShapes Go.ChangeAt Go.Deep
open Go.ChangeMaps (open_string shut_string)
set_option maxHeartbeats 400000 in
theorem FnExactCount_walk0 (v : Value) (xs : List ByteArray) (n : Int) (w : World) (h : RL 9223372036854775807 1 (flat cS) w w.heap.size v xs) (hs : ∀ s ∈ xs, s.size ≤ 9223372036854775807) :
    Calls Try.prog 5 #[v, .int .u8 n] w fun e w' => e = .returned (.bool true) ∧ Below w.heap.size w w' := by
  have hz := szStringS_any v xs 1048576 w h hs (by omega) (by omega)
  obtain ⟨t, ht⟩ : ∃ t, szR 1048576 ((xs.length + tot ByteArray.size xs : Nat) : Int) = t := ⟨_, rfl⟩
  rw [ht] at hz
  have HZ := Lib.hid hz
  have HT := Lib.hid ht
  have H0 := Lib.hid h
  clear h hs hz ht
  by_cases hneg : t < 0
  · go_enter Try.func5, Try.ntmps5
    go_wp2_with (go_at_call 13; refine HZ.out.mono ?_; rintro e w' ⟨rfl, rfl⟩)
    go_ret
    exact ⟨rfl, Below.refl _ _⟩
  · have hle := szR_ok (show 0 ≤ szR 1048576 ((xs.length + tot ByteArray.size xs : Nat) : Int) by rw [HT.out]; omega)
    have h1 : RL 16777216 1 (flat cS) w w.heap.size v xs := H0.out.wide (by omega)
    have hT : tot ByteArray.size xs ≤ 1048576 := by omega
    have hL : xs.length ≤ 16777216 := by omega
    have H1 := Lib.hid h1
    have HT := Lib.hid hT
    clear hle h1 hT H0
    go_enter Try.func5, Try.ntmps5
    go_wp2_with (go_at_call 13; refine HZ.out.mono ?_; rintro e w' ⟨rfl, rfl⟩)
    refine (toStringS_any v xs _ H1.out).mono ?_
    rintro e w1 ⟨v1, rfl, ho1, hb1⟩
    have hr1 := OL.read (OL_of_own ho1 (fun _ => rfl)) (fun cs x f h h' => eflat_read cs x f h h') hL
    have H11 := Lib.hid ((H1.out.below (flat_mono _) hb1).more (flat_mono _) hb1.size)
    go_wp2_with fail
    refine (sCount_any v1 xs n _ hr1 HT.out).mono ?_
    rintro e w' ⟨rfl, rfl⟩
    go_wp2_with fail
    refine (toStringS_any v xs _ H11.out).mono ?_
    rintro e w2 ⟨v2, rfl, ho2, hb2⟩
    have hr2 := OL.read (OL_of_own ho2 (fun _ => rfl)) (fun cs x f h h' => eflat_read cs x f h h') hL
    have H12 := Lib.hid ((H11.out.below (flat_mono _) hb2).more (flat_mono _) hb2.size)
    go_wp2_with fail
    refine (iCount_any v2 xs n _ hr2 HT.out).mono ?_
    rintro e w' ⟨rfl, rfl⟩
    go_wp2_with fail
    refine (toStringS_any v xs _ H12.out).mono ?_
    rintro e w3 ⟨v3, rfl, ho3, hb3⟩
    have hr3 := OL.read (OL_of_own ho3 (fun _ => rfl)) (fun cs x f h h' => eflat_read cs x f h h') hL
    go_wp2_with fail
    refine (eqStringS_any v2 v3 xs xs _ ((hr2.below (flat_mono _) hb3).more (flat_mono _) hb3.size) hr3).mono ?_
    rintro e w4 ⟨rfl, hb4⟩
    go_wp2
    go_ret
    exact ⟨rfl, hb1.trans ((hb2.mono hb1.size).trans ((hb3.mono (Nat.le_trans hb1.size hb2.size)).trans (hb4.mono (Nat.le_trans hb1.size (Nat.le_trans hb2.size hb3.size)))))⟩
theorem FnExactCount_walk (v : Value) (n : Int) (w : World) (h : ∃ xs, RL 9223372036854775807 1 rStr w w.heap.size v xs) (hn : (Lit.int .u8 n).wf = true) :
    Calls Try.prog 5 #[v, .int .u8 n] w fun e w' => e = .returned (.bool true) ∧ Below w.heap.size w w' := by
  obtain ⟨xs, h⟩ := h
  exact FnExactCount_walk0 v xs n w (h.weaken fun cs x _ hx => hx.1) (fun s hs => (h.all hs).choose_spec.2)
set_option maxRecDepth 100000 in
theorem FnExactCount_lifted (os : Os) (started : os.Started) (H : Type) (enc : TypeId × Value → H) :
    ReturnsInHanded {} Try.checked os 5 .any (Rows.fnExactCountSpec.pre6 enc Try.prog Try.f5 Rows.fnExactCountRow.domain false) (Rows.fnExactCountSpec.post enc Try.prog Try.f5 false true false false) := by
  refine returnsInHanded_of_change (C := Try.checked) own_ started (by kernel_rfl) Try.func5
    (ChangeSpec.witness6 (enc := enc) (C := Try.checked) false ⟨#[], #[.slice none 0 0, .int .u8 0], []⟩ 8 (by kernel_rfl) (by kernel_rfl) (by kernel_rfl) (by kernel_rfl)) ?_
  intro W base args ds gs before hval0 hW hcnd _
  have hval : ∀ (j : Nat) t v, Try.f5.params[j]? = some t → args[j]? = some v → Value.okWide Try.prog W .any base t v := hval0
  have hW' := hW
  obtain ⟨p, q, hA0, hV, rfl, hfz, hnd⟩ := hW
  have hA : DataW.TrodAll enc Try.prog W 0 (fun _ => true) true Try.f5.params.toList args.toList ds p := hA0
  rw [Try.params5] at hA hval
  obtain ⟨v0, vs0, d0, ds0, p0, q0, hargs, rfl, rfl, h0, r0⟩ := trodAll_cons hA
  obtain ⟨v1, vs1, d1, ds1, p1, q1, rfl, rfl, rfl, h1, r1⟩ := trodAll_cons r0
  obtain ⟨rfl, rfl, rfl⟩ := trodAll_nil r1
  obtain rfl : args = #[v0, v1] := by cases args; simp_all
  obtain ⟨rfl, rfl⟩ := trodVars_none hV
  clear hA0 hval0 hA
  simp only [List.append_nil] at hW'
  have hlt : ∀ x ∈ p0 ++ p1, x.block < W.heap.size := fun x hx => hW'.lt x (by simpa using hx)
  have k0 := h0
  have w0 := read_strs (hval 0 25 v0 rfl rfl) h0 (fun x hx => hlt x (by simp [hx]))
  have k1 := h1
  obtain ⟨a1, rfl, rfl, rfl, w1⟩ := open_int Try.underlying5 (hval 1 5 v1 rfl rfl) h1
  refine (FnExactCount_walk v0 a1 W w0 w1).mono fun e W' ⟨he, hb⟩ => ?_
  subst he
  exact ⟨_, rfl, post_of_below (pa := p0 ++ ([] ++ [])) (pv := []) hW' (fun _ _ _ => (trodAll_cons_mk (shut_bool Try.underlying4 _) trodAll_mk0)) (fun sp hsp => (trodAll_cons_mk (stays laidOut_ (by kernel_rfl) (of_decide_eq_true (by kernel_rfl)) k0 hb (fun x hx => hlt x (by simp [hx])) (fun x hx => hsp x (by simp [hx]))) (trodAll_cons_mk (stays laidOut_ (by kernel_rfl) (of_decide_eq_true (by kernel_rfl)) k1 hb (fun x hx => by cases hx) (fun x hx => by cases hx)) trodAll_mk0))) (fun _ _ => rfl) (by simp) hb
    (ok_one (by kernel_rfl) rfl (okWide_bool_mk Try.underlying4 _))⟩
theorem FnExactCount_over : Rows.fnExactCountRow.holds Try.pinned (OpenSpec.ofChange Rows.fnExactCountSpec) :=
  OpenClaim.holds_of_wide 5 Try.f5 rfl rfl rfl rfl rfl rfl rfl ⟨rfl, rfl, rfl, rfl, rfl⟩ rfl rfl rfl rfl rfl (by kernel_rfl) Try.func5 (by kernel_rfl)
    (of_decide_eq_true (by kernel_rfl)) (by unfold Func.isWrapper; first | (rw [if_pos (by decide +kernel)]; kernel_rfl) | (rw [if_neg (by decide +kernel)]; exact ⟨rfl, rfl⟩))
    (fun os started H enc _ => FnExactCount_lifted os started H enc)
theorem FnExactCount_proved : Rows.FnExactCountSaid := FnExactCount_over
end Go.Proofs.Ytgljohibcglnbaa
