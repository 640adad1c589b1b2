/-
  slices.Clone at the program's flat types. Written by wip/clfam.py.
-/
import Derived.Test.YteamlfcfillbjaaGreatRq
import Derived.Test.YteamlfcfillbjaaGreatAi
namespace Go.Proofs.YteamlfcfillbjaaGreat
set_option linter.unusedVariables false
set_option linter.unusedSimpArgs false
set_option maxRecDepth 100000
open Go.RowKit

set_option maxHeartbeats 400000 in
theorem clonePair_any (v : Value) (xs : List Pair) (w : World) (h : RL 16777216 2 (flat Pair.cells) w w.heap.size v xs) :
    Calls Tryz.prog 59 #[v] w fun e w' => ∃ v', e = .returned v' ∧ w'.ownsRow w.heap.size 81 2 v' xs.length (xs.flatMap Pair.cells) ∧ Below w.heap.size w w' := by
  obtain ⟨i0, hi, hz0, hz1, hz2⟩ := info_parts info_Pair
  have h' := h
  obtain ⟨A, c, rfl, hbd, hA⟩ := h
  have H := Lib.hid h'
  clear h'
  have hnil := fun (W : World) (a : Option Addr) (n c : Nat) => Lib.run_eql_slice_nil (P := Tryz.prog) W 33 81 a n c 0 0 Tryz.underlying33
  rcases A with _ | ad
  · have hn : xs.length = 0 := by
      rcases Nat.eq_zero_or_pos xs.length with h0 | h0
      · exact h0
      · obtain ⟨b, off, h, _⟩ := hA h0
        cases h
    have hx : xs = [] := List.eq_nil_of_length_eq_zero hn
    subst hx
    clear hA
    go_enter Tryz.func59, Tryz.ntmps59
    go_wp2
    go_ret
    exact ⟨_, rfl, World.ownsRow_nil _ _ _ _, Below.refl _ _⟩
  · clear hA
    go_enter Tryz.func59, Tryz.ntmps59
    go_wp2_with (at_builtin; refine at_app (.tmp 5) (.tmp 6) 33 rfl ?_; refine wpList_appAll _ rfl (.tmp 5) (.tmp 6) 33 rfl w.heap.size 81 i0 _ 2 16 Tryz.underlying33 hi hz0 hz1 hz2 rfl (by omega) (.slice (some ⟨w.heap.size, 0, none⟩) 0 0) 0 [] rfl (own_empty (Nat.le_refl _) (heap_alloc_new w _)) 16777216 w.heap.size Pair.cells _ _ c xs rfl (H.out.below (flat_mono _) ((Below.refl _ _).alloc (Nat.le_refl _) _)) rfl (fun _ => rfl) (fun y u hu => by simp [Pair.cells] at hu; rcases hu with rfl | rfl <;> rfl) (by unfold maxLen; omega) (by omega) (by simp) ?_; intro v' w1 ho hg hn)
    go_ret
    exact ⟨_, rfl, by simpa using ho, ((Below.refl _ _).alloc (Nat.le_refl _) _).grown hg (by simp) (fun k hk => by simp [Value.ownBlock] at hk; omega)⟩

set_option maxHeartbeats 400000 in
theorem cloneType_any (v : Value) (xs : List GType) (w : World) (h : RL 16777216 7 (flat GType.cells) w w.heap.size v xs) :
    Calls Tryz.prog 60 #[v] w fun e w' => ∃ v', e = .returned v' ∧ w'.ownsRow w.heap.size 67 7 v' xs.length (xs.flatMap GType.cells) ∧ Below w.heap.size w w' := by
  obtain ⟨i0, hi, hz0, hz1, hz2⟩ := info_parts info_Type
  have h' := h
  obtain ⟨A, c, rfl, hbd, hA⟩ := h
  have H := Lib.hid h'
  clear h'
  have hnil := fun (W : World) (a : Option Addr) (n c : Nat) => Lib.run_eql_slice_nil (P := Tryz.prog) W 34 67 a n c 0 0 Tryz.underlying34
  rcases A with _ | ad
  · have hn : xs.length = 0 := by
      rcases Nat.eq_zero_or_pos xs.length with h0 | h0
      · exact h0
      · obtain ⟨b, off, h, _⟩ := hA h0
        cases h
    have hx : xs = [] := List.eq_nil_of_length_eq_zero hn
    subst hx
    clear hA
    go_enter Tryz.func60, Tryz.ntmps60
    go_wp2
    go_ret
    exact ⟨_, rfl, World.ownsRow_nil _ _ _ _, Below.refl _ _⟩
  · clear hA
    go_enter Tryz.func60, Tryz.ntmps60
    go_wp2_with (at_builtin; refine at_app (.tmp 5) (.tmp 6) 34 rfl ?_; refine wpList_appAll _ rfl (.tmp 5) (.tmp 6) 34 rfl w.heap.size 67 i0 _ 7 56 Tryz.underlying34 hi hz0 hz1 hz2 rfl (by omega) (.slice (some ⟨w.heap.size, 0, none⟩) 0 0) 0 [] rfl (own_empty (Nat.le_refl _) (heap_alloc_new w _)) 16777216 w.heap.size GType.cells _ _ c xs rfl (H.out.below (flat_mono _) ((Below.refl _ _).alloc (Nat.le_refl _) _)) rfl (fun _ => rfl) (fun y u hu => by simp [GType.cells] at hu; rcases hu with rfl | rfl | rfl | rfl | rfl | rfl | rfl <;> rfl) (by unfold maxLen; omega) (by omega) (by simp) ?_; intro v' w1 ho hg hn)
    go_ret
    exact ⟨_, rfl, by simpa using ho, ((Below.refl _ _).alloc (Nat.le_refl _) _).grown hg (by simp) (fun k hk => by simp [Value.ownBlock] at hk; omega)⟩

set_option maxHeartbeats 400000 in
theorem cloneItem_any (v : Value) (xs : List Item) (w : World) (h : RL 16777216 7 (flat Item.cells) w w.heap.size v xs) :
    Calls Tryz.prog 61 #[v] w fun e w' => ∃ v', e = .returned v' ∧ w'.ownsRow w.heap.size 41 7 v' xs.length (xs.flatMap Item.cells) ∧ Below w.heap.size w w' := by
  obtain ⟨i0, hi, hz0, hz1, hz2⟩ := info_parts info_Item
  have h' := h
  obtain ⟨A, c, rfl, hbd, hA⟩ := h
  have H := Lib.hid h'
  clear h'
  have hnil := fun (W : World) (a : Option Addr) (n c : Nat) => Lib.run_eql_slice_nil (P := Tryz.prog) W 35 41 a n c 0 0 Tryz.underlying35
  rcases A with _ | ad
  · have hn : xs.length = 0 := by
      rcases Nat.eq_zero_or_pos xs.length with h0 | h0
      · exact h0
      · obtain ⟨b, off, h, _⟩ := hA h0
        cases h
    have hx : xs = [] := List.eq_nil_of_length_eq_zero hn
    subst hx
    clear hA
    go_enter Tryz.func61, Tryz.ntmps61
    go_wp2
    go_ret
    exact ⟨_, rfl, World.ownsRow_nil _ _ _ _, Below.refl _ _⟩
  · clear hA
    go_enter Tryz.func61, Tryz.ntmps61
    go_wp2_with (at_builtin; refine at_app (.tmp 5) (.tmp 6) 35 rfl ?_; refine wpList_appAll _ rfl (.tmp 5) (.tmp 6) 35 rfl w.heap.size 41 i0 _ 7 56 Tryz.underlying35 hi hz0 hz1 hz2 rfl (by omega) (.slice (some ⟨w.heap.size, 0, none⟩) 0 0) 0 [] rfl (own_empty (Nat.le_refl _) (heap_alloc_new w _)) 16777216 w.heap.size Item.cells _ _ c xs rfl (H.out.below (flat_mono _) ((Below.refl _ _).alloc (Nat.le_refl _) _)) rfl (fun _ => rfl) (fun y u hu => by simp [Item.cells] at hu; rcases hu with rfl | rfl | rfl | rfl | rfl | rfl | rfl <;> rfl) (by unfold maxLen; omega) (by omega) (by simp) ?_; intro v' w1 ho hg hn)
    go_ret
    exact ⟨_, rfl, by simpa using ho, ((Below.refl _ _).alloc (Nat.le_refl _) _).grown hg (by simp) (fun k hk => by simp [Value.ownBlock] at hk; omega)⟩


end Go.Proofs.YteamlfcfillbjaaGreat
