/-
  The law FnExactTogether: whatever the plan and the unit, the program's Together answers what the reference's answers, in memory of its own, and leaves the plan alone.
-/
import Derived.Test.YtjmokahibcbjlaaTh
import Derived.Test.YtjmokahibcbjlaaMe
import Derived.Test.YtjmokahibcbjlaaRp
import Derived.Test.YtjmokahibcbjlaaEx
namespace Go.Proofs.Ytjmokahibcbjlaa
set_option linter.unusedVariables false
set_option linter.unusedSimpArgs false
open Go.RowKit Go.WideShapes Go.ChangeShapes Go.ChangeAt Go.Deep
open Go.ChangeMaps (open_string shut_string)
set_option maxHeartbeats 1000000 in
theorem FnExactTogether_walk (v0 : Value) (a1 : Int) (w : World) (h0 : ∃ p, RPlan 9223372036854775807 w w.heap.size v0 p) (_h1 : (Lit.int .i64 a1).wf = true) :
    Calls Try.prog 4 #[v0, .int .i64 a1] w fun e w' => e = .returned (.bool true) ∧ Below w.heap.size w w' := by
  obtain ⟨p0, va0, vb0, rfl, ha0, hb0⟩ := h0
  have H0 := Lib.hid (show RPlan 9223372036854775807 w w.heap.size (.agg #[va0, vb0]) p0 from ⟨_, _, rfl, ha0, hb0⟩)
  clear ha0 hb0
  have hB0 : Below w.heap.size w (w.alloc (.cells #[va0, vb0] 25)) := (by repeat' (first | with_reducible exact Below.refl _ _ | with_reducible assumption | with_reducible refine Below.drew ?_ | with_reducible refine Below.alloc ?_ ?_ _ | with_reducible refine Below.setCell ?_ ?_ _ | with_reducible refine below_drewN ?_ _ | (simp; done) | (simp; omega)))
  have HX0 : Hid ((w.alloc (.cells #[va0, vb0] 25)).heap[w.heap.size]? = some (.cells #[va0, vb0] 25 (0, 0))) := Lib.hid (by (simp only [heap_alloc_if, World.size_alloc]; repeat (first | rw [if_neg (by omega)] | rw [if_pos (by omega)] | rw [if_pos trivial])))
  go_enter Try.func4, Try.ntmps4
  have hz := szPlan_any _ p0 1048576 _ (H0.out.next hB0) (by omega) (by omega)
  obtain ⟨t0, ht⟩ : ∃ t, szR 1048576 ((p0).bulk : Nat) = t := ⟨_, rfl⟩
  rw [ht] at hz
  have HT0 := Lib.hid ht
  have HZ := Lib.hid hz
  clear ht hz
  go_wp2_with fail
  refine (HZ.out).mono ?_
  rintro e w1 ⟨rfl, hb1⟩
  clear HZ
  have HS1 := Lib.hid hb1.size
  have hW2 := bstep hB0 hb1
  by_cases hneg0 : t0 < 0
  · go_wp2
    go_ret
    exact ⟨rfl, hW2⟩
  have hle0 := szR_ok (show 0 ≤ szR 1048576 ((p0).bulk : Nat) by rw [HT0.out]; omega)
  have hte0 : 0 ≤ t0 ∧ t0 ≤ 1048576 := by have h1 := szR_eq (show 0 ≤ szR 1048576 ((p0).bulk : Nat) by rw [HT0.out]; omega); rw [HT0.out] at h1; omega
  obtain ⟨htl0, hth0⟩ := hte0
  have hL0 : (p0).bulk ≤ 1048576 := by omega
  have H0 := Lib.hid (H0.out.wide (show (p0).bulk ≤ 16777216 by omega))
  have HX3 := Lib.hid (blk_next HX0.out hb1)
  have hc4 := fun j => cell_of_row _ _ j _ _ (0, 0) HX3.out
  have hl5 := lt_of_block HX3.out
  go_wp2_with fail
  refine (toPlan_any _ p0 _ (H0.out.next hW2)).mono ?_
  rintro e w2 ⟨u2, f2, rfl, ho, hb2⟩
  have HS6 := Lib.hid hb2.size
  have hW7 := bstep hW2 hb2
  clear hW2
  have HL8 := Lib.hid ho.lt
  have HO9 := Lib.hid ho
  clear ho
  go_wp2_with fail
  refine (sTogether_any _ p0 a1 _ (HO9.out.read (by omega)) (by omega)).mono ?_
  rintro e w3 ⟨u3, f3, rfl, ho3, hb3⟩
  have HS10 := Lib.hid hb3.size
  have hW11 := bstep hW7 hb3
  clear hW7
  have HL13 := Lib.hid ho3.lt
  have HO14 := Lib.hid ho3
  clear ho3
  clear hc4 hl5
  have HX15 := Lib.hid (blk_next (blk_next HX3.out hb2) hb3)
  have hc16 := fun j => cell_of_row _ _ j _ _ (0, 0) HX15.out
  have hl17 := lt_of_block HX15.out
  go_wp2_with fail
  refine (toPlan_any _ p0 _ (H0.out.next hW11)).mono ?_
  rintro e w4 ⟨u4, f4, rfl, ho, hb4⟩
  have HS19 := Lib.hid hb4.size
  have hW20 := bstep hW11 hb4
  clear hW11
  have HL21 := Lib.hid ho.lt
  have HO22 := Lib.hid ho
  clear ho
  obtain ⟨Ak181, nk181, ck181, Ak182, nk182, ck182, rfl⟩ := OPlan.form HO22.out
  have hA23 : Below w4.heap.size w4 (w4.alloc (.cells #[.slice Ak181 nk181 ck181, .slice Ak182 nk182 ck182] 30)) := (by repeat' (first | with_reducible exact Below.refl _ _ | with_reducible assumption | with_reducible refine Below.drew ?_ | with_reducible refine Below.alloc ?_ ?_ _ | with_reducible refine Below.setCell ?_ ?_ _ | with_reducible refine below_drewN ?_ _ | (simp; done) | (simp; omega)))
  have HS24 := Lib.hid hA23.size
  have hW25 := bstep hW20 hA23
  clear hW20
  have HX26 := Lib.hid (heap_alloc_new w4 (.cells #[.slice Ak181 nk181 ck181, .slice Ak182 nk182 ck182] 30))
  clear hc16 hl17
  have hc27 := fun j => cell_of_row _ _ j _ _ (0, 0) HX26.out
  have hl28 := lt_of_block HX26.out
  have HO29 := Lib.hid (HO22.out.next hA23)
  go_wp2_with fail
  refine (iTogether_any _ p0 a1 _ (HO29.out.read (by omega)) (by omega)).mono ?_
  rintro e w5 ⟨u5, f5, rfl, ho5, hb5⟩
  have HS30 := Lib.hid hb5.size
  have hW31 := bstep hW25 hb5
  clear hW25
  have HL33 := Lib.hid ho5.lt
  have HO34 := Lib.hid ho5
  clear ho5
  clear hc27 hl28
  have HO35 := Lib.hid (((HO14.out.next hb4).next hA23).next hb5)
  go_wp2_with fail
  refine (eqIntS_any _ _ (tog p0 a1) (tog p0 a1) _ (HO34.out.read (by have := tog_len p0 a1; omega)) (HO35.out.read (by have := tog_len p0 a1; omega))).mono ?_
  rintro e w6 ⟨rfl, hb6⟩
  have HS36 := Lib.hid hb6.size
  have hW37 := bstep hW31 hb6
  clear hW31
  have HX38 := Lib.hid (blk_next (blk_next HX26.out hb5) hb6)
  have hc39 := fun j => cell_of_row _ _ j _ _ (0, 0) HX38.out
  have hl40 := lt_of_block HX38.out
  have HX41 := Lib.hid (blk_next (blk_next (blk_next (blk_next HX15.out hb4) hA23) hb5) hb6)
  have hc42 := fun j => cell_of_row _ _ j _ _ (0, 0) HX41.out
  have hl43 := lt_of_block HX41.out
  go_wp2_with fail
  have hD44 : Below w6.heap.size w6 w6.drew := (Below.refl _ _).drew
  have hl45 := lt_of_block HX38.out
  have hq46 : w6.cell? ⟨w4.heap.size, 0, none⟩ = some (.slice Ak181 nk181 ck181) := cell_of_row _ _ 0 _ _ (0, 0) HX38.out
  have hq47 : w6.cell? ⟨w4.heap.size, 1, none⟩ = some (.slice Ak182 nk182 ck182) := cell_of_row _ _ 1 _ _ (0, 0) HX38.out
  have hl48 := lt_of_block HX41.out
  have hq49 : w6.cell? ⟨w.heap.size, 0, none⟩ = some (va0) := cell_of_row _ _ 0 _ _ (0, 0) HX41.out
  have hq50 : w6.cell? ⟨w.heap.size, 1, none⟩ = some (vb0) := cell_of_row _ _ 1 _ _ (0, 0) HX41.out
  have HO51 := Lib.hid ((HO29.out.next hb5).next hb6)
  clear hc39 hl40 hc42 hl43
  have HS52 := Lib.hid hD44.size
  have hW53 := bstep hW37 hD44
  clear hW37
  have HO54 := Lib.hid (HO51.out.next hD44)
  go_region_held3 (fun W' => W'.cell? ⟨w4.heap.size, 0, none⟩ = some (.slice Ak181 nk181 ck181) ∧ W'.cell? ⟨w4.heap.size, 1, none⟩ = some (.slice Ak182 nk182 ck182) ∧ W'.cell? ⟨w.heap.size, 0, none⟩ = some (va0) ∧ W'.cell? ⟨w.heap.size, 1, none⟩ = some (vb0))
      (first | go_keep | exact ⟨k57, k58, k59, k60⟩ | exact ⟨k61, k62, k63, k64⟩)
      (first
        | (go_at_call 8; refine (toPlan_any _ p0 _ (H0.out.next hW53)).mono ?_; rintro e wy55 ⟨uy55, fy55, rfl, hoy55, hby55⟩; have hsy55 := hby55.size; have k57 := (hby55.cell (p := ⟨w4.heap.size, 0, none⟩) hl45).trans hq46; have k58 := (hby55.cell (p := ⟨w4.heap.size, 1, none⟩) hl45).trans hq47; have k59 := (hby55.cell (p := ⟨w.heap.size, 0, none⟩) hl48).trans hq49; have k60 := (hby55.cell (p := ⟨w.heap.size, 1, none⟩) hl48).trans hq50)
        | (go_at_call 10; refine (eqPlan_any _ _ (p0) p0 _ ((HO54.out.next hby55).read (by omega)) (hoy55.read (by omega))).mono ?_; rintro e wy56 ⟨rfl, hby56⟩; have k61 := (hby56.cell (p := ⟨w4.heap.size, 0, none⟩) (Nat.lt_of_lt_of_le hl45 hsy55)).trans k57; have k62 := (hby56.cell (p := ⟨w4.heap.size, 1, none⟩) (Nat.lt_of_lt_of_le hl45 hsy55)).trans k58; have k63 := (hby56.cell (p := ⟨w.heap.size, 0, none⟩) (Nat.lt_of_lt_of_le hl48 hsy55)).trans k59; have k64 := (hby56.cell (p := ⟨w.heap.size, 1, none⟩) (Nat.lt_of_lt_of_le hl48 hsy55)).trans k60))
  have HS65 := Lib.hid hby55.size
  have hW66 := bstep hW53 hby55
  clear hW53
  have HS67 := Lib.hid hby56.size
  have hW68 := bstep hW66 hby56
  clear hW66
  have HO69 := Lib.hid ((HO54.out.next hby55).next hby56)
  have HX70 := Lib.hid (blk_next (blk_next (blk_next HX38.out hD44) hby55) hby56)
  have hc71 := fun j => cell_of_row _ _ j _ _ (0, 0) HX70.out
  have hl72 := lt_of_block HX70.out
  have hcn6 : cntP (p0) ≤ 4194304 := by have h1 := cntP_le (p0); omega
  go_wp2_with fail
  refine (markPlan_any _ (p0) _ (1) _ _ HO69.out (by omega) (by omega) (by omega)).mono ?_
  rintro e w7 ⟨rfl, ho, ht7⟩
  have HS73 := Lib.hid ht7.size
  have hW74 := hW68.trans (ht7.below hW68.size (fun b hb => by have h1 := HL21.out b hb; have := hB0.size; have := HS1.out; have := HS6.out; have := HS10.out; have := HS19.out; have := HS24.out; have := HS30.out; have := HS36.out; have := HS52.out; have := HS65.out; have := HS67.out; simp only [World.size_alloc] at *; omega))
  have HO75 := Lib.hid ho
  clear ho
  clear hc71 hl72
  have HO76 := Lib.hid (((((HO34.out.next hb6).next hD44).next hby55).next hby56).tch ht7 (fun b hb hm => by have h1 := HL33.out b hb; have h2 := HL21.out b hm; have := HS1.out; have := HS6.out; have := HS10.out; have := HS19.out; have := HS24.out; have := HS30.out; have := HS36.out; have := HS52.out; have := HS65.out; have := HS67.out; have := HS73.out; simp only [World.size_alloc] at *; omega))
  have HO77 := Lib.hid (((((HO35.out.next hb6).next hD44).next hby55).next hby56).tch ht7 (fun b hb hm => by have h1 := HL13.out b hb; have h2 := HL21.out b hm; have := HS1.out; have := HS6.out; have := HS10.out; have := HS19.out; have := HS24.out; have := HS30.out; have := HS36.out; have := HS52.out; have := HS65.out; have := HS67.out; have := HS73.out; simp only [World.size_alloc] at *; omega))
  go_wp2_with fail
  refine (eqIntS_any _ _ (tog p0 a1) (tog p0 a1) _ (HO76.out.read (by have := tog_len p0 a1; omega)) (HO77.out.read (by have := tog_len p0 a1; omega))).mono ?_
  rintro e w8 ⟨rfl, hb8⟩
  have HS78 := Lib.hid hb8.size
  have hW79 := bstep hW74 hb8
  clear hW74
  have HO80 := Lib.hid (HO76.out.next hb8)
  have hcn8 : ((tog p0 a1)).length * 1 ≤ 4194304 := by have := tog_len p0 a1; omega
  go_wp2_with fail
  refine (markInts_any _ (tog p0 a1) _ (1) _ _ HO80.out (by have := tog_len p0 a1; omega) (by omega) (by omega)).mono ?_
  rintro e w9 ⟨rfl, ho, ht9⟩
  have HS81 := Lib.hid ht9.size
  have hW82 := hW79.trans (ht9.below hW79.size (fun b hb => by have h1 := HL33.out b hb; have := hB0.size; have := HS1.out; have := HS6.out; have := HS10.out; have := HS19.out; have := HS24.out; have := HS30.out; have := HS36.out; have := HS52.out; have := HS65.out; have := HS67.out; have := HS73.out; have := HS78.out; simp only [World.size_alloc] at *; omega))
  have HO83 := Lib.hid ho
  clear ho
  go_wp2_with fail
  refine (heldInts_any _ (tog p0 a1) (1) _ (HO83.out.read (by rw [mkS_length]; have := tog_len p0 a1; omega)) (by have := tog_len p0 a1; omega) (by omega) (by omega)).mono ?_
  rintro e w10 ⟨rfl, hb10⟩
  have HS84 := Lib.hid hb10.size
  have hW85 := bstep hW82 hb10
  clear hW82
  have HX86 := Lib.hid (blk_next (blk_tch (blk_next (blk_tch (blk_next (blk_next (blk_next HX41.out hD44) hby55) hby56) ht7 (fun hm => by have h1 := HL21.out _ hm; have := HS1.out; have := HS6.out; have := HS10.out; have := HS19.out; have := HS24.out; have := HS30.out; have := HS36.out; have := HS52.out; have := HS65.out; have := HS67.out; have := HS73.out; have := HS78.out; have := HS81.out; have := HS84.out; simp only [World.size_alloc] at *; omega)) hb8) ht9 (fun hm => by have h1 := HL33.out _ hm; have := HS1.out; have := HS6.out; have := HS10.out; have := HS19.out; have := HS24.out; have := HS30.out; have := HS36.out; have := HS52.out; have := HS65.out; have := HS67.out; have := HS73.out; have := HS78.out; have := HS81.out; have := HS84.out; simp only [World.size_alloc] at *; omega)) hb10)
  have hc87 := fun j => cell_of_row _ _ j _ _ (0, 0) HX86.out
  have hl88 := lt_of_block HX86.out
  go_wp2_with fail
  refine (toPlan_any _ p0 _ (H0.out.next hW85)).mono ?_
  rintro e w11 ⟨u11, f11, rfl, ho, hb11⟩
  have HS89 := Lib.hid hb11.size
  have hW90 := bstep hW85 hb11
  clear hW85
  have HL91 := Lib.hid ho.lt
  have HO92 := Lib.hid ho
  clear ho
  go_wp2_with fail
  refine (iTogether_any _ p0 a1 _ (HO92.out.read (by omega)) (by omega)).mono ?_
  rintro e w12 ⟨u12, f12, rfl, ho12, hb12⟩
  have HS93 := Lib.hid hb12.size
  have hW94 := bstep hW90 hb12
  clear hW90
  have HL96 := Lib.hid ho12.lt
  have HO97 := Lib.hid ho12
  clear ho12
  clear hc87 hl88
  have HO98 := Lib.hid (((((HO77.out.next hb8).tch ht9 (fun b hb hm => by have h1 := HL13.out b hb; have h2 := HL33.out b hm; have := HS1.out; have := HS6.out; have := HS10.out; have := HS19.out; have := HS24.out; have := HS30.out; have := HS36.out; have := HS52.out; have := HS65.out; have := HS67.out; have := HS73.out; have := HS78.out; have := HS81.out; have := HS84.out; have := HS89.out; have := HS93.out; simp only [World.size_alloc] at *; omega)).next hb10).next hb11).next hb12)
  go_wp2_with fail
  refine (eqIntS_any _ _ (tog p0 a1) (tog p0 a1) _ (HO97.out.read (by have := tog_len p0 a1; omega)) (HO98.out.read (by have := tog_len p0 a1; omega))).mono ?_
  rintro e w13 ⟨rfl, hb13⟩
  have HS99 := Lib.hid hb13.size
  have hW100 := bstep hW94 hb13
  clear hW94
  have HO101 := Lib.hid ((((HO83.out.next hb10).next hb11).next hb12).next hb13)
  go_wp2_with fail
  refine (heldInts_any _ (tog p0 a1) (1) _ (HO101.out.read (by rw [mkS_length]; have := tog_len p0 a1; omega)) (by have := tog_len p0 a1; omega) (by omega) (by omega)).mono ?_
  rintro e w14 ⟨rfl, hb14⟩
  have HS102 := Lib.hid hb14.size
  have hW103 := bstep hW100 hb14
  clear hW100
  go_wp2
  go_ret
  exact ⟨rfl, hW103⟩
set_option maxRecDepth 100000 in
theorem FnExactTogether_lifted (os : Os) (started : os.Started) (H : Type) (enc : TypeId × Value → H) :
    ReturnsInHanded {} Try.checked os 4 .any (Rows.fnExactTogetherSpec.pre6 enc Try.prog Try.f4 Rows.fnExactTogetherRow.domain false) (Rows.fnExactTogetherSpec.post enc Try.prog Try.f4 false true false false) := by
  refine returnsInHanded_of_change (C := Try.checked) own_ started (by kernel_rfl) Try.func4
    (ChangeSpec.witness6 (enc := enc) (C := Try.checked) false ⟨#[], #[.agg #[.slice none 0 0, .slice none 0 0], .int .i64 0], []⟩ 8 (by kernel_rfl) (by kernel_rfl) (by kernel_rfl) (by kernel_rfl)) ?_
  intro W base args ds gs before hval0 hW hcnd _
  have hval : ∀ (j : Nat) t v, Try.f4.params[j]? = some t → args[j]? = some v → Value.okWide Try.prog W .any base t v := hval0
  have hW' := hW
  obtain ⟨p, q, hA0, hV, rfl, hfz, hnd⟩ := hW
  have hA : DataW.TrodAll enc Try.prog W 0 (fun _ => true) true Try.f4.params.toList args.toList ds p := hA0
  rw [Try.params4] at hA hval
  obtain ⟨v0, vs0, d0, ds0, p0, q0, hargs, rfl, rfl, h0, r0⟩ := trodAll_cons hA
  obtain ⟨v1, vs1, d1, ds1, p1, q1, rfl, rfl, rfl, h1, r1⟩ := trodAll_cons r0
  obtain ⟨rfl, rfl, rfl⟩ := trodAll_nil r1
  obtain rfl : args = #[v0, v1] := by cases args; simp_all
  obtain ⟨rfl, rfl⟩ := trodVars_none hV
  clear hA0 hval0 hA
  simp only [List.append_nil] at hW'
  have hlt : ∀ x ∈ p0 ++ p1, x.block < W.heap.size := fun x hx => hW'.lt x (by simpa using hx)
  have k0 := h0
  have w0 := read_Plan (hval 0 25 v0 rfl rfl) h0 (fun x hx => hlt x (by simp [hx]))
  have k1 := h1
  obtain ⟨a1, rfl, rfl, rfl, w1⟩ := open_int Try.underlying3 (hval 1 3 v1 rfl rfl) h1
  refine (FnExactTogether_walk v0 a1 W w0 w1).mono fun e W' ⟨he, hb⟩ => ?_
  subst he
  exact ⟨_, rfl, post_of_below (pa := p0 ++ ([] ++ [])) (pv := []) hW' (fun _ _ _ => (trodAll_cons_mk (shut_bool Try.underlying4 _) trodAll_mk0)) (fun sp hsp => (trodAll_cons_mk (stays laidOut_ (by kernel_rfl) (of_decide_eq_true (by kernel_rfl)) k0 hb (fun x hx => hlt x (by simp [hx])) (fun x hx => hsp x (by simp [hx]))) (trodAll_cons_mk (stays laidOut_ (by kernel_rfl) (of_decide_eq_true (by kernel_rfl)) k1 hb (fun x hx => by cases hx) (fun x hx => by cases hx)) trodAll_mk0))) (fun _ _ => rfl) (by simp) hb
    (ok_one (by kernel_rfl) rfl (okWide_bool_mk Try.underlying4 _))⟩
theorem FnExactTogether_over : Rows.fnExactTogetherRow.holds Try.pinned (OpenSpec.ofChange Rows.fnExactTogetherSpec) :=
  OpenClaim.holds_of_wide 4 Try.f4 rfl rfl rfl rfl rfl rfl rfl ⟨rfl, rfl, rfl, rfl, rfl⟩ rfl rfl rfl rfl rfl (by kernel_rfl) Try.func4 (by kernel_rfl)
    (of_decide_eq_true (by kernel_rfl)) (by unfold Func.isWrapper; first | (rw [if_pos (by decide +kernel)]; kernel_rfl) | (rw [if_neg (by decide +kernel)]; exact ⟨rfl, rfl⟩))
    (fun os started H enc _ => FnExactTogether_lifted os started H enc)
theorem FnExactTogether_proved : Rows.FnExactTogetherSaid := FnExactTogether_over
end Go.Proofs.Ytjmokahibcbjlaa
