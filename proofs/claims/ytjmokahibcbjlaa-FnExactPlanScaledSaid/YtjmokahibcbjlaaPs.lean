/-
  The walks over PlanScaled, both sides.
-/
import Derived.Test.YtjmokahibcbjlaaCd
import Derived.Test.YtjmokahibcbjlaaCe
import Derived.Test.YtjmokahibcbjlaaPk
import Derived.Deep.RegionHeld3
namespace Go.Proofs.Ytjmokahibcbjlaa
set_option linter.unusedVariables false
set_option linter.unusedSimpArgs false
open Go.RowKit
theorem setL_app : ∀ (us l1 l2 : List Value) (j : Nat), setL (l1 ++ l2) (l1.length + j) us = l1 ++ setL l2 j us
  | [], _, _, _ => rfl
  | u :: us, l1, l2, j => by
    unfold setL
    rw [List.set_append_right _ _ (Nat.le_add_right _ _), Nat.add_sub_cancel_left, Nat.add_assoc]
    exact setL_app us l1 _ (j + 1)
theorem flat_len {α : Type} {f : α → List Value} {K : Nat} (hK : ∀ x, (f x).length = K) : ∀ xs : List α, (xs.flatMap f).length = xs.length * K
  | [] => by simp
  | x :: xs => by rw [List.flatMap_cons, List.length_append, flat_len hK xs, hK, List.length_cons, Nat.add_mul]; omega
def mixed (n : Int) (k : Nat) (xs : List Spot) : List Spot := (xs.take k).map (Spot.scaled n) ++ xs.drop k
theorem mixed_zero (n : Int) (xs : List Spot) : mixed n 0 xs = xs := by simp [mixed]
theorem mixed_all (n : Int) (xs : List Spot) : mixed n xs.length xs = xs.map (Spot.scaled n) := by simp [mixed]
theorem mixed_length (n : Int) (k : Nat) (xs : List Spot) : (mixed n k xs).length = xs.length := by simp [mixed]; omega
theorem mixed_step {n : Int} {k : Nat} {xs : List Spot} {x : Spot} (hx : xs[k]? = some x) :
    setL ((mixed n k xs).flatMap Spot.cells) (k * 4 + 1) [.int .i64 (wrap64 (n * x.x)), .int .i64 (wrap64 (n * x.y)), .int .i64 (wrap64 (n * x.z))] = (mixed n (k + 1) xs).flatMap Spot.cells := by
  obtain ⟨hk, rfl⟩ := List.getElem?_eq_some_iff.1 hx
  have hd : xs.drop k = xs[k] :: xs.drop (k + 1) := List.drop_eq_getElem_cons hk
  have hl : (((xs.take k).map (Spot.scaled n)).flatMap Spot.cells).length = k * 4 := by
    rw [flat_len (K := 4) (fun _ => rfl)]
    simp
    omega
  unfold mixed
  rw [hd, List.flatMap_append, ← hl, setL_app, List.take_add_one, hx, List.map_append, List.flatMap_append, List.flatMap_append, List.append_assoc]
  rfl
theorem mixed_step0 {n : Int} {k : Nat} {xs : List Spot} {x : Spot} (hx : xs[k]? = some x) :
    setL ((mixed n k xs).flatMap Spot.cells) (k * 4) [.int .i64 x.pallet, .int .i64 (wrap64 (n * x.x)), .int .i64 (wrap64 (n * x.y)), .int .i64 (wrap64 (n * x.z))] = (mixed n (k + 1) xs).flatMap Spot.cells := by
  obtain ⟨hk, rfl⟩ := List.getElem?_eq_some_iff.1 hx
  have hd : xs.drop k = xs[k] :: xs.drop (k + 1) := List.drop_eq_getElem_cons hk
  have hl : (((xs.take k).map (Spot.scaled n)).flatMap Spot.cells).length = k * 4 + 0 := by
    rw [flat_len (K := 4) (fun _ => rfl)]
    simp
    omega
  unfold mixed
  rw [hd, List.flatMap_append, show k * 4 = (((xs.take k).map (Spot.scaled n)).flatMap Spot.cells).length + 0 from by omega, setL_app, List.take_add_one, hx, List.map_append, List.flatMap_append, List.flatMap_append, List.append_assoc]
  rfl
theorem OPlan.base {w : World} {B B' : Nat} {v : Value} {p : Plan} {fp : List Nat} (h : OPlan w B v p fp) (hB : B' ≤ B) : OPlan w B' v p fp := by
  obtain ⟨v1, v2, f1, f2, rfl, h1, h2, rfl, hn⟩ := h
  exact ⟨v1, v2, f1, f2, rfl, OL.base h1 hB, OL.base h2 hB, rfl, hn⟩
theorem OPlan.stored {w : World} {B g : Nat} {v : Value} {p : Plan} {fp : List Nat} (h : OPlan w B v p fp) (hg : g < B) (u1 u2 : Value) : OPlan ((w.setCell ⟨g, 0, none⟩ u1).setCell ⟨g, 1, none⟩ u2) B v p fp := by
  refine OPlan.keep h (by simp) (fun b hb => ?_)
  have := (h.lt b hb).1
  rw [Below.heap_setCell, Below.heap_setCell] <;> simp <;> omega
set_option maxHeartbeats 400000 in
theorem sPlanScaled_any (v : Value) (p : Plan) (n : Int) (w : World) (h : RPlan 16777216 w w.heap.size v p) (hL : p.bulk ≤ 16777216) :
    Calls Try.prog 7 #[v, .int .i64 n] w fun e w' => ∃ v' fp, e = .returned v' ∧ OPlan w' w.heap.size v' (planScaled p n) fp ∧ Below w.heap.size w w' := by
  have H := Lib.hid h
  obtain ⟨v1, v2, rfl, h1, h2⟩ := h
  have H2 := Lib.hid h2
  clear h1
  obtain ⟨A2, c2, rfl, hbd2, _⟩ := h2
  obtain ⟨bp, hbp⟩ : ∃ x, planOk p = x := ⟨_, rfl⟩
  obtain ⟨bn, hbn⟩ : ∃ x, inB n 1 100 = x := ⟨_, rfl⟩
  have HBP := Lib.hid hbp
  have HBN := Lib.hid hbn
  clear hbp hbn
  have hb0 : Below w.heap.size w ((w.alloc (.cells #[v1, .slice A2 p.spots.length c2] 30)).alloc (.cells #[.slice none 0 0, .slice none 0 0] 30)) := (by repeat' (first | with_reducible exact Below.refl _ _ | with_reducible assumption | with_reducible refine Below.drew ?_ | with_reducible refine Below.alloc ?_ ?_ _ | with_reducible refine Below.setCell ?_ ?_ _ | with_reducible refine below_drewN ?_ _ | (simp; done) | (simp; omega)))
  go_enter Try.func7, Try.ntmps7
  go_wp2_with fail
  refine (l13Copy_any _ p _ (H.out.next hb0)).mono ?_
  rintro e w1 ⟨v', fp, rfl, ho, hb1⟩
  obtain ⟨A3, n3, c3, A4, n4, c4, rfl⟩ := OPlan.form ho
  have hb01 := bstep hb0 hb1
  have hbx := (hb1.block w.heap.size (by simp; omega)).trans (show _ = some (.cells #[v1, .slice A2 p.spots.length c2] 30 (0, 0)) by (simp only [heap_alloc_if, World.size_alloc]; repeat (first | rw [if_neg (by omega)] | rw [if_pos (by omega)] | rw [if_pos trivial])))
  have hby := (hb1.block (w.heap.size + 1) (by simp)).trans (show _ = some (.cells #[.slice none 0 0, .slice none 0 0] 30 (0, 0)) by (simp only [heap_alloc_if, World.size_alloc]; repeat (first | rw [if_neg (by omega)] | rw [if_pos (by omega)] | rw [if_pos trivial])))
  have HX := Lib.hid hbx
  have HY := Lib.hid hby
  have HO := Lib.hid ho
  have hl1 := lt_of_block hby
  have hl0 := lt_of_block hbx
  have hfl := ho.lt
  have hcx := fun j => cell_of_row _ _ j _ _ (0, 0) hbx
  clear hbx hby ho
  have hbA : Below w1.heap.size w1 (w1.alloc (.cells #[.slice A3 n3 c3, .slice A4 n4 c4] 30)) := (by repeat' (first | with_reducible exact Below.refl _ _ | with_reducible assumption | with_reducible refine Below.drew ?_ | with_reducible refine Below.alloc ?_ ?_ _ | with_reducible refine Below.setCell ?_ ?_ _ | with_reducible refine below_drewN ?_ _ | (simp; done) | (simp; omega)))
  go_wp2_with fail
  refine (sPlanOk_any _ p _ (H.out.next (bstep hb01 hbA))).mono ?_
  rintro e w3 ⟨rfl, hb3⟩
  have hle01 := hb01.size
  have hx3 := (hb3.block w.heap.size (by simp; omega)).trans ((Below.heap_alloc _ _ _ hl0).trans HX.out)
  have hy3 := (hb3.block (w.heap.size + 1) (by simp; omega)).trans ((Below.heap_alloc _ _ _ hl1).trans HY.out)
  have hn3 := (hb3.block w1.heap.size (by simp)).trans (heap_alloc_new w1 _)
  have ho3 := ((HO.out.next hbA).next hb3).base (B' := w.heap.size + 2) (by simp)
  have hb03 := bstep (bstep hb01 hbA) hb3
  have hHY := Lib.hid hy3
  have hHX := Lib.hid hx3
  have hHN := Lib.hid hn3
  have HO3 := Lib.hid ho3
  have hlN := lt_of_block hn3
  have hcx3 := fun j => cell_of_row _ _ j _ _ (0, 0) hx3
  have hcy3 := fun j => cell_of_row _ _ j _ _ (0, 0) hy3
  have hfy3 := fun j => frozen_of_row _ _ j _ _ hy3
  have hcn3 := fun j => cell_of_row _ _ j _ _ (0, 0) hn3
  clear hx3 hy3 hn3 ho3 hcx
  by_cases hA : bp = true ∧ bn = true
  · obtain ⟨rfl, rfl⟩ := hA
    obtain ⟨va, vb, f1, f2, heq, hc, hs, hfe, hnd⟩ := HO3.out
    cases heq
    obtain ⟨hrow, rfl⟩ := own_of_OL hs (fun _ => rfl)
    obtain ⟨Aq, cq, hq⟩ := own_form hrow
    cases hq
    have HC := Lib.hid hc
    have HE := Lib.hid (And.intro hfe hnd)
    clear hc hs hfe hnd
    have hcn31 := hcn3 1
    have hcx31 := hcx3 1
    simp at hcn31 hcx31
    go_wp2_with (go_at_call 24; refine (l1In_any n 1 100 _).mono ?_; rintro e w4 ⟨rfl, rfl⟩; rw [HBN.out])
    go_loopw [6] (fun i wr => ∃ k : Nat, k ≤ p.spots.length ∧ i = .int .i64 k ∧ wr.ownsRow (w.heap.size + 2) 48 4 (.slice A4 p.spots.length c4) p.spots.length ((mixed n k p.spots).flatMap Spot.cells) ∧ w3.heap.size ≤ wr.heap.size ∧ (∀ b, b < w3.heap.size → (Value.slice A4 p.spots.length c4).ownBlock ≠ some b → wr.heap[b]? = w3.heap[b]?) ∧ Below w.heap.size w wr) (fun i _ => p.spots.length - (intOf i).toNat)
    case atStart => exact ⟨0, Nat.zero_le _, rfl, by rw [mixed_zero]; exact hrow, Nat.le_refl _, fun _ _ _ => rfl, hb03⟩
    case round =>
      obtain ⟨k, hk, rfl, hown, hsz, hkeep, hbl⟩ := hrel
      have hNb : ∀ b, b < w.heap.size + 2 → (Value.slice A4 p.spots.length c4).ownBlock ≠ some b := fun b hb he => by have := (hrow.lt b he).1; omega
      by_cases hlt : k < p.spots.length
      · obtain ⟨g, rfl⟩ : ∃ g, A4 = some ⟨g, 0, none⟩ := by
          rcases hown.2 with ⟨hv, _⟩ | ⟨g, cap, cur, hv, _⟩
          · have hv' := congrArg (fun v => match v with | .slice _ m _ => m | _ => 0) hv; simp at hv'; omega
          · cases hv; exact ⟨g, rfl⟩
        have hg1 := (hrow.lt g rfl).1
        have hg2 : g < w1.heap.size := (hfl g (by rw [HE.out.1]; simp [Value.ownBlock])).2
        obtain ⟨b, off, x, _, heq, hb, hxk, _, hfx, hc⟩ := (H2.out.below (flat_mono _) hbl).at_ k hlt
        cases heq
        cases hfx
        have hc1 := hc 1 _ rfl
        have hc2 := hc 2 _ rfl
        have hc3 := hc 3 _ rfl
        have hcnr := fun j => cell_of_row _ _ j _ _ (0, 0) ((hkeep w1.heap.size (by omega) (by simp [Value.ownBlock]; omega)).trans hHN.out)
        have hcxr := fun j => cell_of_row _ _ j _ _ (0, 0) ((hkeep w.heap.size (by omega) (hNb _ (by omega))).trans hHX.out)
        have hn1 := hcnr 1
        have hx1 := hcxr 1
        simp at hn1 hx1
        have hf := hown.frozenAt
        obtain ⟨o1, ho1⟩ := own_room hown k 1 hlt (by omega)
        obtain ⟨o2, ho2⟩ := own_room hown k 2 hlt (by omega)
        obtain ⟨o3, ho3⟩ := own_room hown k 3 hlt (by omega)
        have hne1 : ¬ (g = w1.heap.size) := by omega
        have hne2 : ¬ (w1.heap.size = g) := by omega
        have hne3 : ¬ (g = w.heap.size) := by omega
        have hne4 : ¬ (w.heap.size = g) := by omega
        have hne5 : ¬ (g = b) := by omega
        have hne6 : ¬ (b = g) := by omega
        clear hc hcnr hcxr hcn3 hcx3 hcy3 hfy3
        go_wp2
        go_region_held3 (fun W' => W'.cell? ⟨w1.heap.size, 1, none⟩ = some (.slice (some ⟨g, 0, none⟩) p.spots.length c4) ∧ W'.cell? ⟨w.heap.size, 1, none⟩ = some (.slice (some ⟨b, off, none⟩) p.spots.length c2) ∧ W'.cell? ⟨b, off + k * 4 + 1, none⟩ = some (.int .i64 x.x) ∧ W'.cell? ⟨b, off + k * 4 + 2, none⟩ = some (.int .i64 x.y) ∧ W'.cell? ⟨b, off + k * 4 + 3, none⟩ = some (.int .i64 x.z)) (go_keep) (fail)
        go_wp2
        go_region_held3 (fun W' => W'.cell? ⟨w1.heap.size, 1, none⟩ = some (.slice (some ⟨g, 0, none⟩) p.spots.length c4) ∧ W'.cell? ⟨w.heap.size, 1, none⟩ = some (.slice (some ⟨b, off, none⟩) p.spots.length c2) ∧ W'.cell? ⟨b, off + k * 4 + 1, none⟩ = some (.int .i64 x.x) ∧ W'.cell? ⟨b, off + k * 4 + 2, none⟩ = some (.int .i64 x.y) ∧ W'.cell? ⟨b, off + k * 4 + 3, none⟩ = some (.int .i64 x.z)) (go_keep) (fail)
        go_wp2
        go_region_held3 (fun W' => W'.cell? ⟨w1.heap.size, 1, none⟩ = some (.slice (some ⟨g, 0, none⟩) p.spots.length c4) ∧ W'.cell? ⟨w.heap.size, 1, none⟩ = some (.slice (some ⟨b, off, none⟩) p.spots.length c2) ∧ W'.cell? ⟨b, off + k * 4 + 1, none⟩ = some (.int .i64 x.x) ∧ W'.cell? ⟨b, off + k * 4 + 2, none⟩ = some (.int .i64 x.y) ∧ W'.cell? ⟨b, off + k * 4 + 3, none⟩ = some (.int .i64 x.z)) (go_keep) (fail)
        go_wp2
        have hst := storedL [.int .i64 (wrap64 (n * x.x)), .int .i64 (wrap64 (n * x.y)), .int .i64 (wrap64 (n * x.z))] _ wr (k * 4 + 1) hown
        rw [mixed_step hxk] at hst
        have hkw := fun b (hb : b ≠ g) => heap_setW hb [.int .i64 (wrap64 (n * x.x)), .int .i64 (wrap64 (n * x.y)), .int .i64 (wrap64 (n * x.z))] wr (k * 4 + 1)
        have hbw := Below.setW (show w.heap.size ≤ g by omega) [.int .i64 (wrap64 (n * x.x)), .int .i64 (wrap64 (n * x.y)), .int .i64 (wrap64 (n * x.z))] wr (k * 4 + 1) hbl
        have hsw := size_setW (g := g) [.int .i64 (wrap64 (n * x.x)), .int .i64 (wrap64 (n * x.y)), .int .i64 (wrap64 (n * x.z))] wr (k * 4 + 1)
        have HST := Lib.hid hst
        have HKW := Lib.hid hkw
        have HBW := Lib.hid hbw
        have HSW := Lib.hid hsw
        clear hst hkw hbw hsw
        go_roundw
        case rel =>
          refine ⟨k + 1, hlt, by go_num, own_block HST.out (fun _ _ => rfl), Nat.le_trans hsz (Nat.le_of_eq HSW.out.symm), fun b hb hne => (HKW.out b (fun e => hne (by rw [e]; rfl))).trans (hkeep b hb hne), HBW.out.drew.drew.drew⟩
        case measure => simp [intOf]; omega
      · obtain rfl : k = p.spots.length := by omega
        rw [mixed_all] at hown
        have hle : ∀ b ∈ f1, b < w3.heap.size ∧ (Value.slice A4 p.spots.length c4).ownBlock ≠ some b := fun b hb => ⟨(OL.lt HC.out b hb).2, fun e => by
          obtain ⟨h1, h2⟩ := HE.out
          rw [h1, List.nodup_append] at h2
          exact h2.2.2 b hb b (by rw [e]; simp) rfl⟩
        have hop : OPlan wr (w.heap.size + 2) (.agg #[.slice A3 n3 c3, .slice A4 p.spots.length c4]) (planTimes p n) fp :=
          ⟨_, _, f1, _, rfl, OL.keep HC.out ECarton_fr hsz (fun b hb => hkeep b (hle b hb).1 (hle b hb).2), OL_of_own (xs := p.spots.map (Spot.scaled n)) (by simpa using hown) (fun _ => rfl), HE.out.1, HE.out.2⟩
        have hrp : RPlan 16777216 wr wr.heap.size (.agg #[.slice A3 n3 c3, .slice A4 p.spots.length c4]) (planTimes p n) := hop.read (by simpa [Plan.bulk, planTimes] using hL)
        have HOP := Lib.hid hop
        have hNn : (Value.slice A4 p.spots.length c4).ownBlock ≠ some w1.heap.size := fun e => by have := (hfl w1.heap.size (by rw [HE.out.1]; simp [e])).2; omega
        have hcnr := fun j => cell_of_row _ _ j _ _ (0, 0) ((hkeep w1.heap.size (by omega) hNn).trans hHN.out)
        have hcxr := fun j => cell_of_row _ _ j _ _ (0, 0) ((hkeep w.heap.size (by omega) (hNb _ (by omega))).trans hHX.out)
        obtain ⟨bt, hbt⟩ : ∃ x, planOk (planTimes p n) = x := ⟨_, rfl⟩
        have HP : Hid (planScaled p n = if bt = true then planTimes p n else p) := Lib.hid (by unfold planScaled; rw [HBP.out, HBN.out, hbt]; rfl)
        have HBT := Lib.hid hbt
        clear hop hbt hcn3 hcx3 hcy3 hfy3 hown
        go_wp2_with fail
        refine (sPlanOk_any _ (planTimes p n) _ hrp).mono ?_
        rintro e w5 ⟨rfl, hb5⟩
        have hl5 := lt_of_block ((hkeep (w.heap.size + 1) (by omega) (hNb _ (by omega))).trans hHY.out)
        have hl6 := lt_of_block ((hkeep w1.heap.size (by omega) hNn).trans hHN.out)
        have hy5 := (hb5.block (w.heap.size + 1) hl5).trans ((hkeep (w.heap.size + 1) (by omega) (hNb _ (by omega))).trans hHY.out)
        have hx5 := (hb5.block w.heap.size (by omega)).trans ((hkeep w.heap.size (by omega) (hNb _ (by omega))).trans hHX.out)
        have hn5 := (hb5.block w1.heap.size hl6).trans ((hkeep w1.heap.size (by omega) hNn).trans hHN.out)
        have hcy5 := fun j => cell_of_row _ _ j _ _ (0, 0) hy5
        have hfy5 := fun j => frozen_of_row _ _ j _ _ hy5
        have hcx5 := fun j => cell_of_row _ _ j _ _ (0, 0) hx5
        have hcn5 := fun j => cell_of_row _ _ j _ _ (0, 0) hn5
        have hb05 := bstep hbl hb5
        have HY5 := Lib.hid hy5
        clear hy5 hx5 hn5 hcnr hcxr
        rw [HBT.out]
        cases bt
        · clear hcy5 hfy5
          go_wp2_with fail
          refine (l13Copy_any _ p _ (H.out.next hb05)).mono ?_
          rintro e w6 ⟨v6, fp6, rfl, ho6, hb6⟩
          obtain ⟨B3, m3, d3, B4, m4, d4, rfl⟩ := OPlan.form ho6
          have hl7 := lt_of_block HY5.out
          have hy6 := (hb6.block (w.heap.size + 1) hl7).trans HY5.out
          have hcy6 := fun j => cell_of_row _ _ j _ _ (0, 0) hy6
          have hfy6 := fun j => frozen_of_row _ _ j _ _ hy6
          have hb06 := bstep hb05 hb6
          have HO6 := Lib.hid ho6
          clear hy6 ho6
          go_wp2
          refine bodyPost_ret (v := .agg #[.slice B3 m3 d3, .slice B4 m4 d4]) (by simp [results, Try.results7, go_sem, hcy6]) rfl ?_
          rw [HP.out]
          exact ⟨_, fp6, rfl, (HO6.out.stored hl7 _ _).base (by omega), (by repeat' (first | with_reducible exact Below.refl _ _ | with_reducible assumption | with_reducible refine Below.drew ?_ | with_reducible refine Below.alloc ?_ ?_ _ | with_reducible refine Below.setCell ?_ ?_ _ | with_reducible refine below_drewN ?_ _ | (simp; done) | (simp; omega)))⟩
        · go_wp2
          refine bodyPost_ret (v := .agg #[.slice A3 n3 c3, .slice A4 p.spots.length c4]) (by simp [results, Try.results7, go_sem, hcy5]) rfl ?_
          rw [HP.out]
          exact ⟨_, fp, rfl, ((HOP.out.next hb5).stored (by omega) _ _).base (by omega), (by repeat' (first | with_reducible exact Below.refl _ _ | with_reducible assumption | with_reducible refine Below.drew ?_ | with_reducible refine Below.alloc ?_ ?_ _ | with_reducible refine Below.setCell ?_ ?_ _ | with_reducible refine below_drewN ?_ _ | (simp; done) | (simp; omega)))⟩
  · have HP : Hid (planScaled p n = p) := Lib.hid (by unfold planScaled; rw [HBP.out, HBN.out, if_neg (by simpa using hA)])
    rw [HBP.out]
    cases bp
    · go_wp2
      refine bodyPost_ret (v := .agg #[.slice A3 n3 c3, .slice A4 n4 c4]) (by simp [results, Try.results7, go_sem, hcy3]) rfl ?_
      rw [HP.out]
      exact ⟨_, fp, rfl, (HO3.out.stored (by omega) _ _).base (by omega), (by repeat' (first | with_reducible exact Below.refl _ _ | with_reducible assumption | with_reducible refine Below.drew ?_ | with_reducible refine Below.alloc ?_ ?_ _ | with_reducible refine Below.setCell ?_ ?_ _ | with_reducible refine below_drewN ?_ _ | (simp; done) | (simp; omega)))⟩
    · obtain rfl : bn = false := by simpa using hA
      go_wp2_with (go_at_call 24; refine (l1In_any n 1 100 _).mono ?_; rintro e w4 ⟨rfl, rfl⟩; rw [HBN.out])
      refine bodyPost_ret (v := .agg #[.slice A3 n3 c3, .slice A4 n4 c4]) (by simp [results, Try.results7, go_sem, hcy3]) rfl ?_
      rw [HP.out]
      exact ⟨_, fp, rfl, (HO3.out.stored (by omega) _ _).base (by omega), (by repeat' (first | with_reducible exact Below.refl _ _ | with_reducible assumption | with_reducible refine Below.drew ?_ | with_reducible refine Below.alloc ?_ ?_ _ | with_reducible refine Below.setCell ?_ ?_ _ | with_reducible refine below_drewN ?_ _ | (simp; done) | (simp; omega)))⟩
end Go.Proofs.Ytjmokahibcbjlaa
