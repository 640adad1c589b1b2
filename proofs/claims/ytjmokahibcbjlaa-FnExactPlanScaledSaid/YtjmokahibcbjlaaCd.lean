/-
  The walks over the program's copies of plans.
-/
import Derived.Test.YtjmokahibcbjlaaCc
import Derived.Deep.RegionHeld3
namespace Go.Proofs.Ytjmokahibcbjlaa
set_option linter.unusedVariables false
set_option linter.unusedSimpArgs false
open Go.RowKit
set_option maxHeartbeats 400000 in
theorem clonePlan_any (v : Value) (p : Plan) (w : World) (h : RPlan 16777216 w w.heap.size v p) :
    Calls Try.prog 27 #[v] w fun e w' => ∃ v' fp, e = .returned v' ∧ OPlan w' w.heap.size v' p fp ∧ Below w.heap.size w w' := by
  obtain ⟨v1, v2, rfl, h1, h2⟩ := h
  have H1 := Lib.hid h1
  have H2 := Lib.hid h2
  clear h1 h2
  go_enter Try.func27, Try.ntmps27
  go_wp2
  have hsz0 : ((w.alloc (.cells #[v1, v2] 30)).alloc (.cells #[.slice none 0 0, .slice none 0 0] 30)).heap.size = w.heap.size + 2 := by simp
  have hbx : ((w.alloc (.cells #[v1, v2] 30)).alloc (.cells #[.slice none 0 0, .slice none 0 0] 30)).heap[w.heap.size]? = some (.cells #[v1, v2] 30 (0, 0)) := by (simp only [heap_alloc_if, World.size_alloc]; repeat (first | rw [if_neg (by omega)] | rw [if_pos (by omega)] | rw [if_pos trivial]))
  have hby : ((w.alloc (.cells #[v1, v2] 30)).alloc (.cells #[.slice none 0 0, .slice none 0 0] 30)).heap[w.heap.size + 1]? = some (.cells #[.slice none 0 0, .slice none 0 0] 30 (0, 0)) := by (simp only [heap_alloc_if, World.size_alloc]; repeat (first | rw [if_neg (by omega)] | rw [if_pos (by omega)] | rw [if_pos trivial]))
  have hb0 : Below w.heap.size w ((w.alloc (.cells #[v1, v2] 30)).alloc (.cells #[.slice none 0 0, .slice none 0 0] 30)) := (by repeat' (first | with_reducible exact Below.refl _ _ | with_reducible assumption | with_reducible refine Below.drew ?_ | with_reducible refine Below.alloc ?_ ?_ _ | with_reducible refine Below.setCell ?_ ?_ _ | with_reducible refine below_drewN ?_ _ | (simp; done) | (simp; omega)))
  generalize (w.alloc (.cells #[v1, v2] 30)).alloc (.cells #[.slice none 0 0, .slice none 0 0] 30) = W0 at *
  have HC : ∀ W, Below W0.heap.size W0 W → RCartons 16777216 W W.heap.size v1 p.cartons := fun W hW => H1.out.next (RCarton_mono _) (bstep hb0 hW)
  have HS : ∀ W, Below W0.heap.size W0 W → RSpots 16777216 W W.heap.size v2 p.spots := fun W hW => H2.out.next (flat_mono _) (bstep hb0 hW)
  have HX := Lib.hid hbx
  have HY := Lib.hid hby
  have HC := Lib.hid HC
  have HS := Lib.hid HS
  have HZ := Lib.hid hsz0
  have hx := fun j => cell_of_row _ _ j _ _ (0, 0) hbx
  have hx0 := hx 0
  have hx1 := hx 1
  simp at hx0 hx1
  clear hbx hby hsz0 hx
  have hl0 : w.heap.size < W0.heap.size := lt_of_block HX.out
  have hl1 : w.heap.size + 1 < W0.heap.size := lt_of_block HY.out
  go_region_held3 (fun W' => W'.cell? ⟨w.heap.size, 0, none⟩ = some v1 ∧ W'.cell? ⟨w.heap.size, 1, none⟩ = some v2)
    (first | go_keep | exact ⟨k1, k2⟩ | exact ⟨l1, l2⟩)
    (first
      | (go_at_call 53; refine (cloneCartons_any v1 p.cartons _ (HC.out _ (by repeat' (first | with_reducible exact Below.refl _ _ | with_reducible assumption | with_reducible refine Below.drew ?_ | with_reducible refine Below.alloc ?_ ?_ _ | with_reducible refine Below.setCell ?_ ?_ _ | with_reducible refine below_drewN ?_ _ | (simp; done) | (simp; omega))))).mono ?_; rintro e w5 ⟨u1, f1, rfl, ho1, hb1⟩; obtain ⟨A1, d1, rfl⟩ := OL.form ho1; have c1 : Below W0.heap.size W0 w5 := bstep (by repeat' (first | with_reducible exact Below.refl _ _ | with_reducible assumption | with_reducible refine Below.drew ?_ | with_reducible refine Below.alloc ?_ ?_ _ | with_reducible refine Below.setCell ?_ ?_ _ | with_reducible refine below_drewN ?_ _ | (simp; done) | (simp; omega))) hb1; have k1 := (c1.cell (p := ⟨w.heap.size, 0, none⟩) hl0).trans hx0; have k2 := (c1.cell (p := ⟨w.heap.size, 1, none⟩) hl0).trans hx1; have hyc := (c1.block (w.heap.size + 1) hl1).trans HY.out; have hyd := fun j => cell_of_row _ _ j _ _ (0, 0) hyc; have hyf := fun j => frozen_of_row _ _ j _ _ hyc; clear hyc)
      | (go_at_call 54; refine (cloneSpot_any v2 p.spots _ (HS.out _ (by repeat' (first | with_reducible exact Below.refl _ _ | with_reducible assumption | with_reducible refine Below.drew ?_ | with_reducible refine Below.alloc ?_ ?_ _ | with_reducible refine Below.setCell ?_ ?_ _ | with_reducible refine below_drewN ?_ _ | (simp; done) | (simp; omega))))).mono ?_; rintro e w6 ⟨u2, rfl, ho2, hb2⟩; obtain ⟨A2, d2, rfl⟩ := own_form ho2; have s1 : Below W0.heap.size W0 w6 := bstep (by repeat' (first | with_reducible exact Below.refl _ _ | with_reducible assumption | with_reducible refine Below.drew ?_ | with_reducible refine Below.alloc ?_ ?_ _ | with_reducible refine Below.setCell ?_ ?_ _ | with_reducible refine below_drewN ?_ _ | (simp; done) | (simp; omega))) hb2; have l1 := (s1.cell (p := ⟨w.heap.size, 0, none⟩) hl0).trans hx0; have l2 := (s1.cell (p := ⟨w.heap.size, 1, none⟩) hl0).trans hx1; have hyc := (s1.block (w.heap.size + 1) hl1).trans HY.out; have hyd := fun j => cell_of_row _ _ j _ _ (0, 0) hyc; have hyf := fun j => frozen_of_row _ _ j _ _ hyc; clear hyc))
  have hf1 := OL.lt ho1
  have hf2 := ho2.lt
  have hs1 := hb1.size
  have hs2 := hb2.size
  simp only [show W0.drew.heap.size = W0.heap.size from rfl] at hf1 hs1
  have HO1 := Lib.hid ho1
  have HO2 := Lib.hid ho2
  clear ho1 ho2
  go_wp2
  refine bodyPost_ret (v := .agg #[.slice A1 p.cartons.length d1, .slice A2 p.spots.length d2]) (by simp [results, Try.results27, go_sem, hyd]) rfl ?_
  have hk : ∀ (u1 u2 : Value) b, b ≠ w.heap.size + 1 → ((w6.setCell ⟨w.heap.size + 1, 0, none⟩ u1).setCell ⟨w.heap.size + 1, 1, none⟩ u2).heap[b]? = w6.heap[b]? := fun u1 u2 b hb => by
    rw [Below.heap_setCell, Below.heap_setCell] <;> simpa using hb
  refine ⟨_, f1 ++ (Value.slice A2 p.spots.length d2).ownBlock.toList, rfl, ⟨_, _, f1, _, rfl, OL.keep (OL.below (OL.base HO1.out (by have := hb0.size; exact this)) ECarton_fr hb2 (fun b hb => (hf1 b hb).2)) ECarton_fr (by simp) (fun b hb => hk _ _ b (by have := (hf1 b hb).1; omega)), OL_of_own (own_block (own_base HO2.out (by omega)) (fun g hg => hk _ _ g (by have := (hf2 g hg).1; omega))) (fun _ => rfl), rfl, ?_⟩, ?_⟩
  · rw [List.nodup_append]
    refine ⟨OL.nodup HO1.out, by cases (Value.slice A2 p.spots.length d2).ownBlock <;> simp, fun a ha b hb hab => ?_⟩
    have h1 := (hf1 a ha).2
    have h2 := (hf2 b (ownBlock_mem hb)).1
    omega
  · have hb3 := bstep hb0 s1
    (repeat' (first | with_reducible exact Below.refl _ _ | with_reducible assumption | with_reducible refine Below.drew ?_ | with_reducible refine Below.alloc ?_ ?_ _ | with_reducible refine Below.setCell ?_ ?_ _ | with_reducible refine below_drewN ?_ _ | (simp; done) | (simp; omega)))
end Go.Proofs.Ytjmokahibcbjlaa
