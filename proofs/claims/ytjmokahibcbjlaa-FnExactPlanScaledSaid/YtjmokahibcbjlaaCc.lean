/-
  The walks over the program's copies of cartons and plans.
-/
import Derived.Test.YtjmokahibcbjlaaCl
import Derived.Test.YtjmokahibcbjlaaPl
namespace Go.Proofs.Ytjmokahibcbjlaa
set_option linter.unusedVariables false
set_option linter.unusedSimpArgs false
open Go.RowKit
set_option maxHeartbeats 400000 in
theorem cloneCartons_any (v : Value) (xs : List Carton) (w : World) (h : RCartons 16777216 w w.heap.size v xs) :
    Calls Try.prog 53 #[v] w fun e w' => ∃ v' fp, e = .returned v' ∧ OCartons w' w.heap.size v' xs fp ∧ Below w.heap.size w w' := by
  obtain ⟨i0, hi, hz0, hz1, hz2⟩ := info_parts info_Carton
  have h' := h
  obtain ⟨A, c, rfl, hbd, _⟩ := h
  have H := Lib.hid h'
  clear h'
  go_enter Try.func53, Try.ntmps53
  go_wp2
  go_loopw [3, 9] (fun l i wr => ∃ k : Nat, ∃ fp, k ≤ xs.length ∧ i = .int .i64 k ∧ OCartons wr w.heap.size l (xs.take k) fp ∧ Below w.heap.size w wr) (fun _ i _ => xs.length - (intOf i).toNat)
  case atStart => exact ⟨0, _, Nat.zero_le _, rfl, OL_empty (own_empty (Nat.le_refl _) (heap_alloc_new w _)), (Below.refl _ _).alloc (Nat.le_refl _) _⟩
  case round =>
    obtain ⟨k, fp, hk, rfl, hol, hbl⟩ := hrel
    by_cases hlt : k < xs.length
    · obtain ⟨b, off, x, _, rfl, hb, hx, _, ⟨vu, rfl, hru⟩, hc⟩ := (H.out.below (RCarton_mono _) hbl).at_ k hlt
      have hru' := hru.more (flat_mono _) hbl.size
      obtain ⟨Au, cu, rfl, hun, _⟩ := hru
      have hc0 := hc 0 _ rfl
      have hc1 := hc 1 _ rfl
      have hc2 := hc 2 _ rfl
      have HRU := Lib.hid hru'
      clear hc hru'
      simp only [Nat.add_zero] at hc0
      go_wp2_with fail
      have hb0 : Below wr.heap.size wr (wr.alloc (.cells #[.int .i64 x.type, .int .i64 x.group, .slice Au x.units.length cu] 56)) := (by repeat' (first | with_reducible exact Below.refl _ _ | with_reducible assumption | with_reducible refine Below.drew ?_ | with_reducible refine Below.alloc ?_ ?_ _ | with_reducible refine Below.setCell ?_ ?_ _ | with_reducible refine below_drewN ?_ _ | (simp; done) | (simp; omega)))
      refine (cloneInt_any _ x.units _ (HRU.out.next (flat_mono _) hb0)).mono ?_
      rintro e w2 ⟨v2, rfl, ho2, hb2⟩
      obtain ⟨A2, c2, rfl⟩ := own_form ho2
      have hx1 : w2.heap[wr.heap.size]? = some (.cells #[.int .i64 x.type, .int .i64 x.group, .slice Au x.units.length cu] 56 (0, 0)) := (hb2.block wr.heap.size (by simp)).trans (by (simp only [heap_alloc_if, World.size_alloc]; repeat (first | rw [if_neg (by omega)] | rw [if_pos (by omega)] | rw [if_pos trivial])))
      have hc1' := fun j => cell_of_row _ _ j _ _ (0, 0) hx1
      have hf1 := fun j => frozen_of_row _ _ j _ _ hx1
      have hb3 := bstep hb0 hb2
      clear hc0 hc1 hc2 hx1
      obtain ⟨cs, ifp, hrow, hfe, hnd, hfl, hpo⟩ := hol
      have hkl : (xs.take k).length = k := by simp; omega
      rw [hkl] at hrow
      obtain ⟨W, hW⟩ : ∃ W, setW w2 wr.heap.size 2 [.slice A2 x.units.length c2] = W := ⟨_, rfl⟩
      have hWk : ∀ b, b < wr.heap.size → W.heap[b]? = wr.heap[b]? := fun b hlb => by rw [← hW, heap_setW (by omega)]; exact hb3.block b hlb
      have hWs : W.heap.size = w2.heap.size := by rw [← hW]; exact size_setW _ _ _
      have hs2 := hb2.size
      have hblk := ho2.lt
      simp at hs2 hblk
      have hrW : W.ownsRow w.heap.size 56 3 u3 k cs := own_block hrow (fun g hg => hWk g (hrow.lt g hg).2)
      have hpW := hpo.keep ECarton_fr (fun b hb => hWk b (hfl b (by rw [hfe]; simp [hb])).2)
      have hE : ECarton W [.int .i64 x.type, .int .i64 x.group, .slice A2 x.units.length c2] x (Value.slice A2 x.units.length c2).ownBlock.toList :=
        ⟨_, rfl, own_base (own_block ho2 (fun g hg => by rw [← hW]; exact heap_setW (by have := (hblk g hg).1; omega) _ _ _)) (Nat.zero_le _), rfl⟩
      have hbW : Below w.heap.size w W := by rw [← hW]; exact Below.setW hbl.size _ _ _ (hbl.trans (hb3.mono hbl.size))
      have hBW : w.heap.size ≤ W.heap.size := hbW.size
      have HW := Lib.hid (show w2.setCell ⟨wr.heap.size, 2, none⟩ (.slice A2 x.units.length c2) = W from hW)
      have HF := Lib.hid (And.intro hfe (And.intro hkl (And.intro hWk hWs)))
      clear hW hfe hkl hWk hWs
      go_wp2_with (at_builtin; refine at_app (.tmp 17) (.tmp 19) 27 rfl ?_; rw [HW.out]; refine wpList_app1 _ rfl (.tmp 17) (.tmp 19) 27 rfl w.heap.size 56 i0 _ 3 40 Try.underlying27 hi hz0 hz1 hz2 rfl (by omega) u3 _ _ rfl hrW _ _ rfl HF.out.2.2.2.symm rfl (by simp [Value.oneCell']) (by unfold maxLen; omega) (by omega) hBW ?_; intro v' w3 ho hg hn)
      go_roundw
      case rel =>
        obtain ⟨hfe, hkl, hWk, hWs⟩ := HF.out
        have hws := hbl.size
        subst hfe
        refine ⟨k + 1, v'.ownBlock.toList ++ (ifp ++ (Value.slice A2 x.units.length c2).ownBlock.toList), hlt, by go_num, ?_, below_grown hbW hrW hg hBW⟩
        rw [List.take_add_one, hx]
        refine OL_app (by rw [hkl]; exact hrW) hnd (fun b hb => ⟨(hfl b hb).1, by have := (hfl b hb).2; omega⟩) hpW ECarton_fr rfl hE (by cases (Value.slice A2 x.units.length c2).ownBlock <;> simp) (fun b hb => ?_) (fun b hb hm => ?_) (by rw [hkl]; exact ho) hg hn
        · have := hblk b (ownBlock_mem hb)
          omega
        · have h1 := hblk b (ownBlock_mem hb)
          have h2 := hfl b hm
          omega
      case measure => simp [intOf]; omega
    · go_wp2
      go_ret
      obtain rfl : k = xs.length := by omega
      rw [List.take_length] at hol
      exact ⟨_, _, rfl, hol, hbl⟩
set_option maxHeartbeats 400000 in
theorem cloneSpot_any (v : Value) (xs : List Spot) (w : World) (h : RSpots 16777216 w w.heap.size v xs) :
    Calls Try.prog 54 #[v] w fun e w' => ∃ v', e = .returned v' ∧ w'.ownsRow w.heap.size 48 4 v' xs.length (xs.flatMap Spot.cells) ∧ Below w.heap.size w w' := by
  obtain ⟨i0, hi, hz0, hz1, hz2⟩ := info_parts info_Spot
  have h' := h
  obtain ⟨A, c, rfl, hbd, hA⟩ := h
  have H := Lib.hid h'
  clear h'
  have hnil := fun (W : World) (a : Option Addr) (n c : Nat) => Lib.run_eql_slice_nil (P := Try.prog) W 28 48 a n c 0 0 Try.underlying28
  rcases A with _ | ad
  · have hn : xs.length = 0 := by
      rcases Nat.eq_zero_or_pos xs.length with h0 | h0
      · exact h0
      · obtain ⟨b, off, h, _⟩ := hA h0
        cases h
    have hx : xs = [] := List.eq_nil_of_length_eq_zero hn
    subst hx
    clear hA
    go_enter Try.func54, Try.ntmps54
    go_wp2
    go_ret
    exact ⟨_, rfl, World.ownsRow_nil _ _ _ _, Below.refl _ _⟩
  · clear hA
    go_enter Try.func54, Try.ntmps54
    go_wp2_with (at_builtin; refine at_app (.tmp 5) (.tmp 6) 28 rfl ?_; refine wpList_appAll _ rfl (.tmp 5) (.tmp 6) 28 rfl w.heap.size 48 i0 _ 4 32 Try.underlying28 hi hz0 hz1 hz2 rfl (by omega) (.slice (some ⟨w.heap.size, 0, none⟩) 0 0) 0 [] rfl (own_empty (Nat.le_refl _) (heap_alloc_new w _)) 16777216 w.heap.size Spot.cells _ _ c xs rfl (H.out.below (flat_mono _) ((Below.refl _ _).alloc (Nat.le_refl _) _)) rfl (fun _ => rfl) (fun y u hu => by simp [Spot.cells] at hu; rcases hu with rfl | rfl | rfl | rfl <;> rfl) (by unfold maxLen; omega) (by omega) (by simp) ?_; intro v' w1 ho hg hn)
    go_ret
    exact ⟨_, rfl, by simpa using ho, ((Below.refl _ _).alloc (Nat.le_refl _) _).grown hg (by simp) (fun k hk => by simp [Value.ownBlock] at hk; omega)⟩
end Go.Proofs.Ytjmokahibcbjlaa
