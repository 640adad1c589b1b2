/-
  The walks over the specification's copies of cartons and plans.
-/
import Derived.Test.YtjmokahibcbjlaaCc
import Derived.Deep.RegionHeld3
import Derived.Deep.RegionLaw
namespace Go.Proofs.Ytjmokahibcbjlaa
set_option linter.unusedVariables false
set_option linter.unusedSimpArgs false
open Go.RowKit
set_option maxHeartbeats 400000 in
theorem l9Carton_any (x : Carton) (v : Value) (w : World) (hr : RInts 16777216 w w.heap.size v x.units) :
    Calls Try.prog 49 #[.agg #[.int .i64 x.type, .int .i64 x.group, v]] w fun e w' => ∃ A c, e = .returned (.agg #[.int .i64 x.type, .int .i64 x.group, .slice A x.units.length c]) ∧ w'.ownsRow w.heap.size 3 1 (.slice A x.units.length c) x.units.length (x.units.flatMap cI) ∧ Below w.heap.size w w' := by
  obtain ⟨i0, hi, hz0, hz1, hz2⟩ := info_parts info_int
  have HR := Lib.hid hr
  obtain ⟨A, c, rfl, hbd, _⟩ := hr
  go_enter Try.func49, Try.ntmps49
  go_wp2
  generalize hW : (w.alloc (.cells #[.int .i64 x.type, .int .i64 x.group, .slice A x.units.length c] 56)).alloc (.cells #[.int .i64 0, .int .i64 0, .slice none 0 0] 56) = W0
  have hsz0 : W0.heap.size = w.heap.size + 2 := by rw [← hW]; simp
  have hbx : W0.heap[w.heap.size]? = some (.cells #[.int .i64 x.type, .int .i64 x.group, .slice A x.units.length c] 56 (0, 0)) := by rw [← hW]; (simp only [heap_alloc_if, World.size_alloc]; repeat (first | rw [if_neg (by omega)] | rw [if_pos (by omega)] | rw [if_pos trivial]))
  have hby : W0.heap[w.heap.size + 1]? = some (.cells #[.int .i64 0, .int .i64 0, .slice none 0 0] 56 (0, 0)) := by rw [← hW]; (simp only [heap_alloc_if, World.size_alloc]; repeat (first | rw [if_neg (by omega)] | rw [if_pos (by omega)] | rw [if_pos trivial]))
  have hb0 : Below w.heap.size w W0 := by rw [← hW]; exact (by repeat' (first | with_reducible exact Below.refl _ _ | with_reducible assumption | with_reducible refine Below.drew ?_ | with_reducible refine Below.alloc ?_ ?_ _ | with_reducible refine Below.setCell ?_ ?_ _ | with_reducible refine below_drewN ?_ _ | (simp; done) | (simp; omega)))
  have HX := Lib.hid hbx
  have HY := Lib.hid hby
  have HZ := Lib.hid hsz0
  have hx := fun j => cell_of_row _ _ j _ _ (0, 0) hbx
  have hx0 := hx 0
  have hx1 := hx 1
  have hx2 := hx 2
  simp at hx0 hx1 hx2
  have hle := hb0.size
  have hl0 : w.heap.size < W0.heap.size := lt_of_block HX.out
  have hl1 : w.heap.size + 1 < W0.heap.size := lt_of_block HY.out
  clear hbx hby hsz0 hx hW
  go_region_held3 (fun W' => W'.cell? ⟨w.heap.size, 0, none⟩ = some (.int .i64 x.type) ∧ W'.cell? ⟨w.heap.size, 1, none⟩ = some (.int .i64 x.group) ∧ W'.cell? ⟨w.heap.size, 2, none⟩ = some (.slice A x.units.length c))
    (first | go_keep | exact ⟨k1, k2, k3⟩)
    (first
      | (refine step_appAll _ rfl (.tmp 7) (.tmp 9) 36 rfl W0.heap.size 3 i0 _ 1 8 Try.underlying36 hi hz0 hz1 hz2 rfl (by omega) (.slice (some ⟨W0.heap.size, 0, none⟩) 0 0) 0 [] rfl (own_empty (Nat.le_refl _) (heap_alloc_new W0 _)) 16777216 w.heap.size cI _ _ _ x.units rfl (HR.out.below (flat_mono _) (by repeat' (first | with_reducible exact Below.refl _ _ | with_reducible assumption | with_reducible refine Below.drew ?_ | with_reducible refine Below.alloc ?_ ?_ _ | with_reducible refine Below.setCell ?_ ?_ _ | with_reducible refine below_drewN ?_ _ | (simp; done) | (simp; omega)))) rfl (fun _ => rfl) (fun y u hu => by simp [cI] at hu; subst hu; rfl) (by unfold maxLen; omega) (by omega) (by simp) ?_; intro v' w5 ho hg hn; have c1 : Below W0.heap.size W0 w5 := Below.grown (show Below W0.heap.size W0 _ from (by repeat' (first | with_reducible exact Below.refl _ _ | with_reducible assumption | with_reducible refine Below.drew ?_ | with_reducible refine Below.alloc ?_ ?_ _ | with_reducible refine Below.setCell ?_ ?_ _ | with_reducible refine below_drewN ?_ _ | (simp; done) | (simp; omega)))) hg (by simp) (fun k hk => by simp [Value.ownBlock] at hk; omega); obtain ⟨A1, d1, rfl⟩ := own_form ho; have k1 := (c1.cell (p := ⟨w.heap.size, 0, none⟩) hl0).trans hx0; have k2 := (c1.cell (p := ⟨w.heap.size, 1, none⟩) hl0).trans hx1; have k3 := (c1.cell (p := ⟨w.heap.size, 2, none⟩) hl0).trans hx2; have hyc := (c1.block (w.heap.size + 1) hl1).trans HY.out; have hyd := fun j => cell_of_row _ _ j _ _ (0, 0) hyc; have hyf := fun j => frozen_of_row _ _ j _ _ hyc; clear hyc))
  have hblk := ho.lt
  have HO := Lib.hid ho
  clear ho
  go_wp2
  refine bodyPost_ret (v := .agg #[.int .i64 x.type, .int .i64 x.group, .slice A1 x.units.length d1]) (by simp [results, Try.results49, go_sem, hyd]) rfl ?_
  refine ⟨A1, d1, rfl, own_base (B := W0.heap.size) ?_ hle, ?_⟩
  · have h := HO.out
    simp only [Nat.zero_add, List.nil_append] at h
    refine own_block h (fun g hg => ?_)
    have h1 := (hblk g (by simpa using hg)).1
    rw [Below.heap_setCell, Below.heap_setCell, Below.heap_setCell] <;> simp <;> omega
  · have hb3 := bstep hb0 c1
    (repeat' (first | with_reducible exact Below.refl _ _ | with_reducible assumption | with_reducible refine Below.drew ?_ | with_reducible refine Below.alloc ?_ ?_ _ | with_reducible refine Below.setCell ?_ ?_ _ | with_reducible refine below_drewN ?_ _ | (simp; done) | (simp; omega)))
set_option maxHeartbeats 400000 in
theorem l13Copy_any (v : Value) (p : Plan) (w : World) (h : RPlan 16777216 w w.heap.size v p) :
    Calls Try.prog 22 #[v] w fun e w' => ∃ v' fp, e = .returned v' ∧ OPlan w' w.heap.size v' p fp ∧ Below w.heap.size w w' := by
  obtain ⟨i0, hi, hz0, hz1, hz2⟩ := info_parts info_Carton
  obtain ⟨j0, hj, hy0, hy1, hy2⟩ := info_parts info_Spot
  obtain ⟨v1, v2, rfl, h1, h2⟩ := h
  have H1 := Lib.hid h1
  have H2 := Lib.hid h2
  obtain ⟨A1, c1, rfl, hbd1, _⟩ := h1
  obtain ⟨A2, c2, rfl, hbd2, _⟩ := h2
  go_enter Try.func22, Try.ntmps22
  have hb0 : Below w.heap.size w ((w.alloc (.cells #[.slice A1 p.cartons.length c1, .slice A2 p.spots.length c2] 30)).alloc (.cells #[.slice none 0 0, .slice none 0 0] 30)) := (by repeat' (first | with_reducible exact Below.refl _ _ | with_reducible assumption | with_reducible refine Below.drew ?_ | with_reducible refine Below.alloc ?_ ?_ _ | with_reducible refine Below.setCell ?_ ?_ _ | with_reducible refine below_drewN ?_ _ | (simp; done) | (simp; omega)))
  have hbS : Below w.heap.size w (((w.alloc (.cells #[.slice A1 p.cartons.length c1, .slice A2 p.spots.length c2] 30)).alloc (.cells #[.slice none 0 0, .slice none 0 0] 30)).alloc (.cells #[] 48)) := (by repeat' (first | with_reducible exact Below.refl _ _ | with_reducible assumption | with_reducible refine Below.drew ?_ | with_reducible refine Below.alloc ?_ ?_ _ | with_reducible refine Below.setCell ?_ ?_ _ | with_reducible refine below_drewN ?_ _ | (simp; done) | (simp; omega)))
  go_wp2_with (at_builtin; refine at_app (.tmp 5) (.tmp 7) 28 rfl ?_; refine wpList_appAll _ rfl (.tmp 5) (.tmp 7) 28 rfl (w.heap.size + 2) 48 j0 _ 4 32 Try.underlying28 hj hy0 hy1 hy2 rfl (by omega) (.slice (some ⟨w.heap.size + 2, 0, none⟩) 0 0) 0 [] rfl (own_empty (Nat.le_refl _) (by (simp only [heap_alloc_if, World.size_alloc]; repeat (first | rw [if_neg (by omega)] | rw [if_pos (by omega)] | rw [if_pos trivial])))) 16777216 w.heap.size Spot.cells _ _ c2 p.spots rfl (H2.out.below (flat_mono _) hbS) rfl (fun _ => rfl) (fun y u hu => by simp [Spot.cells] at hu; rcases hu with rfl | rfl | rfl | rfl <;> rfl) (by unfold maxLen; omega) (by omega) (by simp) ?_; intro v' w5 ho hg hn; obtain ⟨A3, c3, rfl⟩ := own_form ho; have hbx := grown_blk (b := w.heap.size) hg (by (simp only [heap_alloc_if, World.size_alloc]; repeat (first | rw [if_neg (by omega)] | rw [if_pos (by omega)] | rw [if_pos trivial]))) (fun k hk => by simp [Value.ownBlock] at hk; omega); have hby := grown_blk (b := w.heap.size + 1) hg (by (simp only [heap_alloc_if, World.size_alloc]; repeat (first | rw [if_neg (by omega)] | rw [if_pos (by omega)] | rw [if_pos trivial]))) (fun k hk => by simp [Value.ownBlock] at hk; omega))
  simp only [Nat.zero_add, List.nil_append] at ho hg hn
  have hls := ho.lt
  have hbl5 : Below w.heap.size w w5 := hbS.grown hg (by simp; omega) (fun k hk => by simp [Value.ownBlock] at hk; omega)
  have hN := lt_of_block hby
  have HX := Lib.hid hbx
  have HY := Lib.hid hby
  have HO := Lib.hid ho
  clear hbx hby hg hn ho hb0 hbS hj hy0 hy1 hy2
  go_loopw [4] (fun i wr => ∃ k : Nat, ∃ vc fp, k ≤ p.cartons.length ∧ i = .int .i64 k ∧ wr.heap[w5.heap.size]? = some (.cells #[vc, .slice A3 p.spots.length c3] 30 (0, 0)) ∧ OCartons wr (w5.heap.size + 1) vc (p.cartons.take k) fp ∧ Below w5.heap.size w5 wr) (fun i _ => p.cartons.length - (intOf i).toNat)
  case atStart => exact ⟨0, _, _, Nat.zero_le _, rfl, by (simp only [heap_alloc_if, World.size_alloc]; repeat (first | rw [if_neg (by omega)] | rw [if_pos (by omega)] | rw [if_pos trivial])), OL_empty (World.ownsRow_nil _ _ _ _), (Below.refl _ _).alloc (Nat.le_refl _) _⟩
  case round =>
    obtain ⟨k, vc, fp, hk, rfl, hbn, hol, hbl⟩ := hrel
    obtain ⟨Ac, cc, rfl⟩ := OL.form hol
    have hkl : (p.cartons.take k).length = k := by simp; omega
    rw [hkl] at hol hbn
    have hx := fun j => cell_of_row _ _ j _ _ (0, 0) ((hbl.block _ (by omega)).trans HX.out)
    have hn := fun j => cell_of_row _ _ j _ _ (0, 0) hbn
    have hx0 := hx 0
    have hn0 := hn 0
    simp at hx0 hn0
    by_cases hlt : k < p.cartons.length
    · clear hx hn
      obtain ⟨b, off, x, _, heq, hb, hxk, _, ⟨vu, rfl, hru⟩, hc⟩ := (H1.out.below (RCarton_mono _) (hbl5.trans (hbl.mono (by omega)))).at_ k hlt
      cases heq
      have hwr := hbl.size
      have hru' := hru.more (flat_mono _) (show w.heap.size ≤ wr.heap.size by omega)
      obtain ⟨Au, cu, rfl, hun, _⟩ := hru
      have hc0 := hc 0 _ rfl
      have hc1 := hc 1 _ rfl
      have hc2 := hc 2 _ rfl
      have HRU := Lib.hid hru'
      clear hc hru'
      simp only [Nat.add_zero] at hc0
      obtain ⟨cs, ifp, hrow, hfe, hnd, hfl, hpo⟩ := hol
      rw [hkl] at hrow
      have HBN := Lib.hid hbn
      have HF := Lib.hid (And.intro hfe hkl)
      have HROW := Lib.hid hrow
      clear hfe hkl hbn hrow
      go_wp2
      have hbw : b < wr.heap.size := by omega
      have hww : w.heap.size < wr.heap.size := by omega
      have hNr := lt_of_block HBN.out
      have hbN : b < w5.heap.size + 1 := by omega
      have hwN : w.heap.size < w5.heap.size + 1 := by omega
      have hne1 : ¬ (b = w5.heap.size) := by omega
      have hne2 : ¬ (w.heap.size = w5.heap.size) := by omega
      have hne3 : ¬ (w5.heap.size = b) := by omega
      have hne4 : ¬ (w5.heap.size = w.heap.size) := by omega
      go_region_law
        (first
          | (go_simp; go_at_call 49; refine (l9Carton_any x _ _ (HRU.out.next (flat_mono _) (by repeat' (first | with_reducible exact Below.refl _ _ | with_reducible assumption | with_reducible refine Below.drew ?_ | with_reducible refine Below.alloc ?_ ?_ _ | with_reducible refine Below.setCell ?_ ?_ _ | with_reducible refine below_drewN ?_ _ | (simp; done) | (simp; omega))))).mono ?_; rintro e w6 ⟨A6, c6, rfl, ho6, hb6⟩; have d1 : Below wr.heap.size wr w6 := bstep (by repeat' (first | with_reducible exact Below.refl _ _ | with_reducible assumption | with_reducible refine Below.drew ?_ | with_reducible refine Below.alloc ?_ ?_ _ | with_reducible refine Below.setCell ?_ ?_ _ | with_reducible refine below_drewN ?_ _ | (simp; done) | (simp; omega))) hb6; have d1s := d1.size; have hnb1 : w5.heap.size < w6.heap.size := Nat.lt_of_lt_of_le hNr d1s; have hnb2 : b < w6.heap.size := Nat.lt_of_lt_of_le hbw d1s; have hnb3 : w.heap.size < w6.heap.size := Nat.lt_of_lt_of_le hww d1s; have hn6 := (d1.cell (p := ⟨w5.heap.size, 0, none⟩) (lt_of_block HBN.out)).trans hn0; have k0 := (d1.cell (p := ⟨w.heap.size, 0, none⟩) hww).trans hx0; have k1 := (d1.cell (p := ⟨b, off + k * 3, none⟩) hbw).trans hc0; have k2 := (d1.cell (p := ⟨b, off + k * 3 + 1, none⟩) hbw).trans hc1; have k3 := (d1.cell (p := ⟨b, off + k * 3 + 2, none⟩) hbw).trans hc2)
          | (refine step_appAll _ rfl (.tmp 18) (.tmp 25) 27 rfl (w5.heap.size + 1) 56 i0 _ 3 40 Try.underlying27 hi hz0 hz1 hz2 rfl (by omega) (.slice Ac k cc) k cs rfl (own_block HROW.out (fun g hg => Below.block (B := wr.heap.size) (by repeat' (first | with_reducible exact Below.refl _ _ | with_reducible assumption | with_reducible refine Below.drew ?_ | with_reducible refine Below.alloc ?_ ?_ _ | with_reducible refine Below.setCell ?_ ?_ _ | with_reducible refine below_drewN ?_ _ | (simp; done) | (simp; omega))) g (HROW.out.lt g hg).2)) 1 (w6.heap.size + 1) (fun _ : Unit => [.int .i64 x.type, .int .i64 x.group, .slice A6 x.units.length c6]) _ _ _ [()] rfl (RL_one (g := w6.heap.size) (news := #[.int .i64 x.type, .int .i64 x.group, .slice A6 x.units.length c6]) (heap_alloc_new w6 _) rfl (Nat.lt_succ_self _) (Nat.le_refl _)) rfl (fun _ => rfl) (fun y u hu => by simp at hu; rcases hu with rfl | rfl | rfl <;> rfl) (by unfold maxLen; omega) (by omega) (by first | omega | (simp; omega)) ?_; intro v' w7 ho7 hg7 hn7; have e1 : Below wr.heap.size wr (w6.alloc (.cells #[.int .i64 x.type, .int .i64 x.group, .slice A6 x.units.length c6] 56)) := d1.alloc d1s _; have hgg : (w6.alloc (.cells #[.int .i64 x.type, .int .i64 x.group, .slice A6 x.units.length c6] 56)).grownBy w7 (Value.slice Ac k cc).ownBlock := ⟨hg7.os, hg7.tape, hg7.output, hg7.size, hg7.block⟩; have HO7 := Lib.hid ho7; have HG7 := Lib.hid hgg; have HN7 := Lib.hid hn7; clear ho7 hg7 hn7 hgg; have e2 : Below (w5.heap.size + 1) wr w7 := (e1.mono hNr).grown HG7.out (by first | omega | (simp; omega)) (fun g hg => (HROW.out.lt g hg).1); obtain ⟨A7, c7, rfl⟩ := own_form HO7.out; have m0 := (e2.cell (p := ⟨w.heap.size, 0, none⟩) hwN).trans hx0; have m1 := (e2.cell (p := ⟨b, off + k * 3, none⟩) hbN).trans hc0; have m2 := (e2.cell (p := ⟨b, off + k * 3 + 1, none⟩) hbN).trans hc1; have m3 := (e2.cell (p := ⟨b, off + k * 3 + 2, none⟩) hbN).trans hc2; have hyc := (e2.block w5.heap.size (Nat.lt_succ_self _)).trans HBN.out; have HYC := Lib.hid hyc; have hyd := fun j => cell_of_row _ _ j _ _ (0, 0) hyc; have hyf := fun j => frozen_of_row _ _ j _ _ hyc; clear hyc))
      all_goals
        have hblk6 : ∀ g, (Value.slice A6 x.units.length c6).ownBlock = some g → wr.heap.size ≤ g ∧ g < w6.heap.size := ho6.lt
        have HO6 := Lib.hid ho6
        clear ho6
        go_wp2
        go_roundw
        case rel =>
          obtain ⟨hfe, hkl⟩ := HF.out
          subst hfe
          have hol7 : ∃ fp7, OCartons w7 (w5.heap.size + 1) (.slice A7 (k + 1) c7) (p.cartons.take k ++ [x]) fp7 := ⟨_, OL_app (f := (Value.slice A6 x.units.length c6).ownBlock.toList) (by rw [hkl]; exact own_block HROW.out (fun g hg => e1.block g (HROW.out.lt g hg).2)) hnd (fun b hb => ⟨(hfl b hb).1, Nat.lt_of_lt_of_le (hfl b hb).2 e1.size⟩) (hpo.keep ECarton_fr (fun b hb => e1.block b (hfl b (by simp [hb])).2)) ECarton_fr rfl ⟨_, rfl, own_base (own_block HO6.out (fun g hg => Below.heap_alloc _ _ _ (hblk6 g hg).2)) (Nat.zero_le _), rfl⟩ (by cases (Value.slice A6 x.units.length c6).ownBlock <;> simp) (fun b hb => ?_) (fun b hb hm => ?_) (by rw [hkl]; exact HO7.out) HG7.out (HN7.out.imp id (fun h => ⟨_, h, Nat.le_refl _⟩))⟩
          · obtain ⟨fp7, hol7⟩ := hol7
            refine ⟨k + 1, _, fp7, hlt, by go_num, heap_setCell_same w7 w5.heap.size 0 _ _ _ HYC.out, ?_, ?_⟩
            · rw [List.take_add_one, hxk]
              exact OL.keep hol7 ECarton_fr (by simp [World.setCell]) (fun b hb => Below.heap_setCell _ _ _ _ (by have := (OL.lt hol7 b hb).1; show b ≠ w5.heap.size; omega))
            · exact Below.setCell (hbl.trans (e2.mono (Nat.le_succ _))) (Nat.le_refl _) _
          · have h1 := hblk6 b (ownBlock_mem hb)
            exact ⟨by omega, Nat.lt_of_lt_of_le h1.2 (by simp)⟩
          · have h1 := hblk6 b (ownBlock_mem hb)
            have h2 := hfl b hm
            omega
        case measure => simp [intOf]; omega
    · obtain rfl : k = p.cartons.length := by omega
      have hyc := (hbl.block (w.heap.size + 1) hN).trans HY.out
      have hyd := fun j => cell_of_row _ _ j _ _ (0, 0) hyc
      have hyf := fun j => frozen_of_row _ _ j _ _ hyc
      clear hyc
      rw [List.take_length] at hol
      have hf1 := OL.lt hol
      have hwr := hbl.size
      go_wp2
      refine bodyPost_ret (v := .agg #[.slice Ac p.cartons.length cc, .slice A3 p.spots.length c3]) (by simp [results, Try.results22, go_sem, hyd]) rfl ?_
      have hk : ∀ (u1 u2 : Value) b, b ≠ w.heap.size + 1 → ((wr.setCell ⟨w.heap.size + 1, 0, none⟩ u1).setCell ⟨w.heap.size + 1, 1, none⟩ u2).heap[b]? = wr.heap[b]? := fun u1 u2 b hb => by
        rw [Below.heap_setCell, Below.heap_setCell] <;> simpa using hb
      refine ⟨_, fp ++ (Value.slice A3 p.spots.length c3).ownBlock.toList, rfl, ⟨_, _, fp, _, rfl, OL.keep (OL.base hol (by omega)) ECarton_fr (by simp) (fun b hb => hk _ _ b (by have := (hf1 b hb).1; omega)), OL_of_own (own_block (own_base HO.out (by omega)) (fun g hg => (hk _ _ g (by have := (hls g hg).1; omega)).trans (hbl.block g (hls g hg).2))) (fun _ => rfl), rfl, ?_⟩, ?_⟩
      · rw [List.nodup_append]
        refine ⟨OL.nodup hol, by cases (Value.slice A3 p.spots.length c3).ownBlock <;> simp, fun a ha b hb hab => ?_⟩
        have h1 := (hf1 a ha).1
        have h2 := (hls b (ownBlock_mem hb)).2
        omega
      · have hb3 := hbl5.trans (hbl.mono (Nat.le_of_lt (Nat.lt_of_succ_lt hN)))
        (repeat' (first | with_reducible exact Below.refl _ _ | with_reducible assumption | with_reducible refine Below.drew ?_ | with_reducible refine Below.alloc ?_ ?_ _ | with_reducible refine Below.setCell ?_ ?_ _ | with_reducible refine below_drewN ?_ _ | (simp; done) | (simp; omega)))
end Go.Proofs.Ytjmokahibcbjlaa
