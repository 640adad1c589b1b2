/-
  The law FnExactLabelOf: whatever the plan and the place, the program's LabelOf answers what the reference's answers, and leaves the plan alone; it leans on the library's table of powers of ten, which the row lists.
-/
import Derived.Test.YtjmokahibcbjlaaDoorLo
import Derived.Test.YtjmokahibcbjlaaDoorRp
import Derived.Test.YtjmokahibcbjlaaDoorFr
import Derived.Test.YtjmokahibcbjlaaDoorCards
import Derived.Test.YtjmokahibcbjlaaDoorTie
import Derived.Deep.DeepHandedRow
import Derived.Lib.LaidTab
import Derived.MakeChecks
import Derived.LaidSub

namespace Go.Proofs.YtjmokahibcbjlaaDoor
set_option linter.unusedVariables false
set_option linter.unusedSimpArgs false
open Go.RowKit Go.WideShapes Go.ChangeShapes Go.ChangeAt Go.Deep
open Go.ChangeMaps (open_string shut_string)
set_option maxHeartbeats 1000000 in
theorem FnExactLabelOf_walk (v0 : Value) (a1 : Int) (w : World) (h0 : ∃ p, RPlan 9223372036854775807 w w.heap.size v0 p) (_h1 : (Lit.int .i64 a1).wf = true) (htab : Tab w) :
    Calls Tryd.prog 4 #[v0, .int .i64 a1] w fun e w' => e = .returned (.bool true) ∧ Below w.heap.size w w' := by
  obtain ⟨p0, va0, vb0, rfl, ha0, hb0⟩ := h0
  have H0 := Lib.hid (show RPlan 9223372036854775807 w w.heap.size (.agg #[va0, vb0]) p0 from ⟨_, _, rfl, ha0, hb0⟩)
  clear ha0 hb0
  have HTB := Lib.hid htab
  clear htab
  have hB0 : Below w.heap.size w (w.alloc (.cells #[va0, vb0] 31)) := (by repeat' (first | with_reducible exact Below.refl _ _ | with_reducible assumption | with_reducible refine Below.drew ?_ | with_reducible refine Below.alloc ?_ ?_ _ | with_reducible refine Below.setCell ?_ ?_ _ | with_reducible refine below_drewN ?_ _ | (simp; done) | (simp; omega)))
  have HX0 : Hid ((w.alloc (.cells #[va0, vb0] 31)).heap[w.heap.size]? = some (.cells #[va0, vb0] 31 (0, 0))) := Lib.hid (by (simp only [heap_alloc_if, World.size_alloc]; repeat (first | rw [if_neg (by omega)] | rw [if_pos (by omega)] | rw [if_pos trivial])))
  go_enter Tryd.func4, Tryd.ntmps4
  have hz := szPlan_any _ p0 1048576 _ (H0.out.next hB0) (by omega) (by omega)
  obtain ⟨t0, ht⟩ : ∃ t, szR 1048576 ((p0).bulk : Nat) = t := ⟨_, rfl⟩
  rw [ht] at hz
  have HT0 := Lib.hid ht
  have HZ := Lib.hid hz
  clear ht hz
  go_wp2_with fail
  refine (HZ.out).mono ?_
  rintro e w1 ⟨rfl, hb1⟩
  clear HZ
  have HS1 := Lib.hid hb1.size
  have hW2 := bstep hB0 hb1
  by_cases hneg0 : t0 < 0
  · go_wp2
    go_ret
    exact ⟨rfl, hW2⟩
  have hle0 := szR_ok (show 0 ≤ szR 1048576 ((p0).bulk : Nat) by rw [HT0.out]; omega)
  have hte0 : 0 ≤ t0 ∧ t0 ≤ 1048576 := by have h1 := szR_eq (show 0 ≤ szR 1048576 ((p0).bulk : Nat) by rw [HT0.out]; omega); rw [HT0.out] at h1; omega
  obtain ⟨htl0, hth0⟩ := hte0
  have hL0 : (p0).bulk ≤ 1048576 := by omega
  have H0 := Lib.hid (H0.out.wide (show (p0).bulk ≤ 16777216 by omega))
  have HX3 := Lib.hid (blk_next HX0.out hb1)
  have hc4 := fun j => cell_of_row _ _ j _ _ (0, 0) HX3.out
  have hl5 := lt_of_block HX3.out
  go_wp2_with fail
  refine (toPlan_any _ p0 _ (H0.out.next hW2)).mono ?_
  rintro e w2 ⟨u2, f2, rfl, ho, hb2⟩
  have HS6 := Lib.hid hb2.size
  have hW7 := bstep hW2 hb2
  clear hW2
  have HL8 := Lib.hid ho.lt
  have HO9 := Lib.hid ho
  clear ho
  go_wp2_with fail
  refine (sLabelOf_any _ p0 a1 _ (HO9.out.read (by omega))).mono ?_
  rintro e w3 ⟨rfl, hb3⟩
  have HS10 := Lib.hid hb3.size
  have hW11 := bstep hW7 hb3
  clear hW7
  clear hc4 hl5
  have HX13 := Lib.hid (blk_next (blk_next HX3.out hb2) hb3)
  have hc14 := fun j => cell_of_row _ _ j _ _ (0, 0) HX13.out
  have hl15 := lt_of_block HX13.out
  go_wp2_with fail
  refine (toPlan_any _ p0 _ (H0.out.next hW11)).mono ?_
  rintro e w4 ⟨u4, f4, rfl, ho, hb4⟩
  have HS17 := Lib.hid hb4.size
  have hW18 := bstep hW11 hb4
  clear hW11
  have HL19 := Lib.hid ho.lt
  have HO20 := Lib.hid ho
  clear ho
  obtain ⟨Ak161, nk161, ck161, Ak162, nk162, ck162, rfl⟩ := OPlan.form HO20.out
  have hA21 : Below w4.heap.size w4 (w4.alloc (.cells #[.slice Ak161 nk161 ck161, .slice Ak162 nk162 ck162] 37)) := (by repeat' (first | with_reducible exact Below.refl _ _ | with_reducible assumption | with_reducible refine Below.drew ?_ | with_reducible refine Below.alloc ?_ ?_ _ | with_reducible refine Below.setCell ?_ ?_ _ | with_reducible refine below_drewN ?_ _ | (simp; done) | (simp; omega)))
  have HS22 := Lib.hid hA21.size
  have hW23 := bstep hW18 hA21
  clear hW18
  have HX24 := Lib.hid (heap_alloc_new w4 (.cells #[.slice Ak161 nk161 ck161, .slice Ak162 nk162 ck162] 37))
  clear hc14 hl15
  have hc25 := fun j => cell_of_row _ _ j _ _ (0, 0) HX24.out
  have hl26 := lt_of_block HX24.out
  have HO27 := Lib.hid (HO20.out.next hA21)
  go_wp2_with fail
  refine (iLabelOf_any _ p0 a1 _ (HO27.out.read (by omega)) (HTB.out.next hW23)).mono ?_
  rintro e w5 ⟨rfl, hb5⟩
  have HS28 := Lib.hid hb5.size
  have hW29 := bstep hW23 hb5
  clear hW23
  clear hc25 hl26
  have HX31 := Lib.hid (blk_next HX24.out hb5)
  have hc32 := fun j => cell_of_row _ _ j _ _ (0, 0) HX31.out
  have hl33 := lt_of_block HX31.out
  have HX34 := Lib.hid (blk_next (blk_next (blk_next HX13.out hb4) hA21) hb5)
  have hc35 := fun j => cell_of_row _ _ j _ _ (0, 0) HX34.out
  have hl36 := lt_of_block HX34.out
  go_wp2_with fail
  have hD37 : Below w5.heap.size w5 w5.drew := (Below.refl _ _).drew
  have hl38 := lt_of_block HX31.out
  have hq39 : w5.cell? ⟨w4.heap.size, 0, none⟩ = some (.slice Ak161 nk161 ck161) := cell_of_row _ _ 0 _ _ (0, 0) HX31.out
  have hq40 : w5.cell? ⟨w4.heap.size, 1, none⟩ = some (.slice Ak162 nk162 ck162) := cell_of_row _ _ 1 _ _ (0, 0) HX31.out
  have hl41 := lt_of_block HX34.out
  have hq42 : w5.cell? ⟨w.heap.size, 0, none⟩ = some (va0) := cell_of_row _ _ 0 _ _ (0, 0) HX34.out
  have hq43 : w5.cell? ⟨w.heap.size, 1, none⟩ = some (vb0) := cell_of_row _ _ 1 _ _ (0, 0) HX34.out
  have HO44 := Lib.hid (HO27.out.next hb5)
  clear hc32 hl33 hc35 hl36
  have HS45 := Lib.hid hD37.size
  have hW46 := bstep hW29 hD37
  clear hW29
  have HO47 := Lib.hid (HO44.out.next hD37)
  go_region_held3 (fun W' => W'.cell? ⟨w4.heap.size, 0, none⟩ = some (.slice Ak161 nk161 ck161) ∧ W'.cell? ⟨w4.heap.size, 1, none⟩ = some (.slice Ak162 nk162 ck162) ∧ W'.cell? ⟨w.heap.size, 0, none⟩ = some (va0) ∧ W'.cell? ⟨w.heap.size, 1, none⟩ = some (vb0))
      (first | go_keep | exact ⟨k50, k51, k52, k53⟩ | exact ⟨k54, k55, k56, k57⟩)
      (first
        | (go_at_call 10; refine (toPlan_any _ p0 _ (H0.out.next hW46)).mono ?_; rintro e wy48 ⟨uy48, fy48, rfl, hoy48, hby48⟩; have hsy48 := hby48.size; have k50 := (hby48.cell (p := ⟨w4.heap.size, 0, none⟩) hl38).trans hq39; have k51 := (hby48.cell (p := ⟨w4.heap.size, 1, none⟩) hl38).trans hq40; have k52 := (hby48.cell (p := ⟨w.heap.size, 0, none⟩) hl41).trans hq42; have k53 := (hby48.cell (p := ⟨w.heap.size, 1, none⟩) hl41).trans hq43)
        | (go_at_call 12; refine (eqPlan_any _ _ (p0) p0 _ ((HO47.out.next hby48).read (by omega)) (hoy48.read (by omega))).mono ?_; rintro e wy49 ⟨rfl, hby49⟩; have k54 := (hby49.cell (p := ⟨w4.heap.size, 0, none⟩) (Nat.lt_of_lt_of_le hl38 hsy48)).trans k50; have k55 := (hby49.cell (p := ⟨w4.heap.size, 1, none⟩) (Nat.lt_of_lt_of_le hl38 hsy48)).trans k51; have k56 := (hby49.cell (p := ⟨w.heap.size, 0, none⟩) (Nat.lt_of_lt_of_le hl41 hsy48)).trans k52; have k57 := (hby49.cell (p := ⟨w.heap.size, 1, none⟩) (Nat.lt_of_lt_of_le hl41 hsy48)).trans k53))
  have HS58 := Lib.hid hby48.size
  have hW59 := bstep hW46 hby48
  clear hW46
  have HS60 := Lib.hid hby49.size
  have hW61 := bstep hW59 hby49
  clear hW59
  go_wp2
  go_ret
  exact ⟨rfl, hW61⟩
theorem FnExactLabelOf_tab {W : World} (h : laidMetH Tryd.prog Rows.fnExactLabelOfRow.laid W) : Tab W := by
  have h2 := h.filter (fun x => x.1 == "internal/strconv.uint64pow10")
  rw [show (Rows.fnExactLabelOfRow.laid.filter fun x => x.1 == "internal/strconv.uint64pow10") = [("internal/strconv.uint64pow10", Lib.tabData .u64 Lib.pow10Tab)] by kernel_rfl, Go.MakeChecks.laidMetH_plain _ _ _ (by kernel_rfl)] at h2
  exact Lib.tabIs_of_head (rest := []) (g := 0) (by kernel_rfl) (by kernel_rfl) Tryd.underlying105 Tryd.underlying91 (by kernel_rfl) (by kernel_rfl) h2
noncomputable def FnExactLabelOf_world (os : Os) : World := { World.holding Tryd.prog os ⟨#[], #[], []⟩ with heap := ((((World.holding Tryd.prog os ⟨#[], #[], []⟩).heap.modify 2 fun
      | .cells _ t frozen => .cells #[.int .u8 0, .int .u8 1, .int .u8 28, .int .u8 2, .int .u8 29, .int .u8 14, .int .u8 24, .int .u8 3, .int .u8 30, .int .u8 22, .int .u8 20, .int .u8 15, .int .u8 25, .int .u8 17, .int .u8 4, .int .u8 8, .int .u8 31, .int .u8 27, .int .u8 13, .int .u8 23, .int .u8 21, .int .u8 19, .int .u8 16, .int .u8 7, .int .u8 26, .int .u8 12, .int .u8 18, .int .u8 6, .int .u8 11, .int .u8 5, .int .u8 10, .int .u8 9] t frozen
      | o => o).modify 3 fun
      | .cells _ t frozen => .cells #[.int .u8 0, .int .u8 1, .int .u8 56, .int .u8 2, .int .u8 57, .int .u8 49, .int .u8 28, .int .u8 3, .int .u8 61, .int .u8 58, .int .u8 42, .int .u8 50, .int .u8 38, .int .u8 29, .int .u8 17, .int .u8 4, .int .u8 62, .int .u8 47, .int .u8 59, .int .u8 36, .int .u8 45, .int .u8 43, .int .u8 51, .int .u8 22, .int .u8 53, .int .u8 39, .int .u8 33, .int .u8 30, .int .u8 24, .int .u8 18, .int .u8 12, .int .u8 5, .int .u8 63, .int .u8 55, .int .u8 48, .int .u8 27, .int .u8 60, .int .u8 41, .int .u8 37, .int .u8 16, .int .u8 46, .int .u8 35, .int .u8 44, .int .u8 21, .int .u8 52, .int .u8 32, .int .u8 23, .int .u8 11, .int .u8 54, .int .u8 26, .int .u8 40, .int .u8 15, .int .u8 34, .int .u8 20, .int .u8 31, .int .u8 10, .int .u8 25, .int .u8 14, .int .u8 19, .int .u8 9, .int .u8 13, .int .u8 8, .int .u8 7, .int .u8 6] t frozen
      | o => o).modify 0 fun
      | .cells _ t frozen => .cells #[.int .u64 1, .int .u64 10, .int .u64 100, .int .u64 1000, .int .u64 10000, .int .u64 100000, .int .u64 1000000, .int .u64 10000000, .int .u64 100000000, .int .u64 1000000000, .int .u64 10000000000, .int .u64 100000000000, .int .u64 1000000000000, .int .u64 10000000000000, .int .u64 100000000000000, .int .u64 1000000000000000, .int .u64 10000000000000000, .int .u64 100000000000000000, .int .u64 1000000000000000000, .int .u64 10000000000000000000] t frozen
      | o => o) }
theorem FnExactLabelOf_met (os : Os) : laidMet Tryd.prog Rows.fnExactLabelOfRow.laid ((FnExactLabelOf_world os).forCall (fun _ _ => 0) ⟨#[], #[.agg #[.slice none 0 0, .slice none 0 0], .int .i64 0], []⟩).memory := laidMet_of_run' 8 (by kernel_rfl) (by kernel_rfl)
theorem FnExactLabelOf_reads (os : Os) {H : Type} (enc : TypeId × Value → H) : ∃ places, DataW.whole enc Tryd.prog ((FnExactLabelOf_world os).forCall (fun _ _ => 0) ⟨#[], #[.agg #[.slice none 0 0, .slice none 0 0], .int .i64 0], []⟩).memory Tryd.f4.params.toList Rows.fnExactLabelOfSpec.vars false (#[.agg #[.slice none 0 0, .slice none 0 0], .int .i64 0] : Array Value).toList 8 = some ([.agg [.nil, .nil], .lit (.int .i64 0)], [], places) := ⟨[], by kernel_rfl⟩
set_option maxRecDepth 100000 in
theorem FnExactLabelOf_lifted (os : Os) (started : os.Started) (H : Type) (enc : TypeId × Value → H) (F : Stop.Interp) :
    ReturnsInHanded {} Tryd.checked os 4 .any ((OpenSpec.ofChange Rows.fnExactLabelOfSpec).preRow enc Tryd.prog Tryd.f4 Rows.fnExactLabelOfRow.domain false Rows.fnExactLabelOfRow.laid) (((OpenSpec.ofChange Rows.fnExactLabelOfSpec).at F).post enc Tryd.prog Tryd.f4 false true false false) := by
  obtain ⟨places, hx⟩ := FnExactLabelOf_reads os enc
  refine returnsInHanded_of_row (C := Tryd.checked) (s := OpenSpec.ofChange Rows.fnExactLabelOfSpec) own_ started (by kernel_rfl) Tryd.func4
    (witness_row_at (enc := enc) (C := Tryd.checked) false (FnExactLabelOf_world os) #[.agg #[.slice none 0 0, .slice none 0 0], .int .i64 0] rfl (by kernel_rfl) (by kernel_rfl) (by kernel_rfl) (OpenSpec.preRow_of_cond 8 hx (by kernel_rfl) (fun k hk => by cases hk) (by kernel_rfl) (FnExactLabelOf_met os))) ?_
  intro W base args ds gs before hval0 hW _ _ _ hL _ _
  have hval : ∀ (j : Nat) t v, Tryd.f4.params[j]? = some t → args[j]? = some v → Value.okWide Tryd.prog W .any base t v := hval0
  have hW' := hW
  obtain ⟨p, q, hA0, hV, rfl, hfz, hnd⟩ := hW
  have hA : DataW.TrodAll enc Tryd.prog W 0 (fun _ => true) true Tryd.f4.params.toList args.toList ds p := hA0
  rw [Tryd.params4] at hA hval
  obtain ⟨v0, vs0, d0, ds0, p0, q0, hargs, rfl, rfl, h0, r0⟩ := trodAll_cons hA
  obtain ⟨v1, vs1, d1, ds1, p1, q1, rfl, rfl, rfl, h1, r1⟩ := trodAll_cons r0
  obtain ⟨rfl, rfl, rfl⟩ := trodAll_nil r1
  obtain rfl : args = #[v0, v1] := by cases args; simp_all
  obtain ⟨rfl, rfl⟩ := trodVars_none hV
  clear hA0 hval0 hA
  simp only [List.append_nil] at hW'
  have hlt : ∀ x ∈ p0 ++ p1, x.block < W.heap.size := fun x hx => hW'.lt x (by simpa using hx)
  have k0 := h0
  have w0 := read_Plan (hval 0 31 v0 rfl rfl) h0 (fun x hx => hlt x (by simp [hx]))
  have k1 := h1
  obtain ⟨a1, rfl, rfl, rfl, w1⟩ := open_int Tryd.underlying3 (hval 1 3 v1 rfl rfl) h1
  refine (FnExactLabelOf_walk v0 a1 W w0 w1 (FnExactLabelOf_tab hL)).mono fun e W' ⟨he, hb⟩ => ?_
  subst he
  exact ⟨_, rfl, post_of_below (pa := p0 ++ ([] ++ [])) (pv := []) hW' (fun _ _ _ => (trodAll_cons_mk (shut_bool Tryd.underlying4 _) trodAll_mk0)) (fun sp hsp => (trodAll_cons_mk (stays laidOut_ (by kernel_rfl) (of_decide_eq_true (by kernel_rfl)) k0 hb (fun x hx => hlt x (by simp [hx])) (fun x hx => hsp x (by simp [hx]))) (trodAll_cons_mk (stays laidOut_ (by kernel_rfl) (of_decide_eq_true (by kernel_rfl)) k1 hb (fun x hx => by cases hx) (fun x hx => by cases hx)) trodAll_mk0))) (fun _ _ => rfl) (by simp) hb
    (ok_one (by kernel_rfl) rfl (okWide_bool_mk Tryd.underlying4 _))⟩
theorem FnExactLabelOf_said : Rows.FnExactLabelOfSaid :=
  OpenClaim.holds_of_cond 4 Tryd.f4 rfl rfl rfl rfl rfl rfl rfl ⟨rfl, rfl, rfl, rfl, rfl⟩ rfl rfl rfl rfl rfl (by kernel_rfl) Tryd.func4 (by kernel_rfl)
    (of_decide_eq_true (by kernel_rfl)) (by unfold Func.isWrapper; first | (rw [if_pos (by decide +kernel)]; kernel_rfl) | (rw [if_neg (by decide +kernel)]; exact ⟨rfl, rfl⟩))
    (fun os started H enc _ F => by rw [OpenClaim.pre_eq_preRow]; exact FnExactLabelOf_lifted os started H enc F)
theorem FnExactLabelOf_plain (f : FuncId) (fn : Func) (hf : Tryd.pinned.checked.prog.funcNamed "loop.example/g00489/laws.FnExactLabelOf" = some f) (hfn : Tryd.pinned.checked.prog.funcs[f]? = some fn) :
    false = Tryd.pinned.checked.prog.looks [] ∧ ∀ (j : Nat) t, fn.params[j]? = some t → Tryd.pinned.checked.prog.wantsStandIn t = false := by
  obtain rfl : f = 4 := Option.some.inj ((show Tryd.prog.funcNamed "loop.example/g00489/laws.FnExactLabelOf" = some 4 by kernel_rfl).symm.trans hf) |>.symm
  obtain rfl : fn = Tryd.f4 := (Option.some.inj (Tryd.func4.symm.trans hfn)).symm
  refine ⟨by kernel_rfl, fun j t ht => ?_⟩
  rw [Tryd.params4] at ht
  have ht2 : t = 31 ∨ t = 3 := by simpa using Array.mem_of_getElem? ht
  rcases ht2 with rfl | rfl
  · exact (show Tryd.prog.wantsStandIn 31 = false by kernel_rfl)
  · exact (show Tryd.prog.wantsStandIn 3 = false by kernel_rfl)
theorem FnExactLabelOf_proved : Rows.FnExactLabelOfCardSaid :=
  Claim7.holds_tied_plain_at .later [] _ _ _ _ FnExactLabelOf_said (fun _ h => by cases h) (by kernel_rfl) (fun _ h => by cases h) fnExactLabelOf_row_tie rfl ⟨rfl, rfl⟩ (by kernel_rfl) rfl FnExactLabelOf_plain (by kernel_rfl)
end Go.Proofs.YtjmokahibcbjlaaDoor
