/-
  The walks over copies of slices, cartons and plans.
-/
import Derived.Test.YtjmokahibcbjlaaAa
import Derived.Test.YtjmokahibcbjlaaSl
namespace Go.Proofs.Ytjmokahibcbjlaa
set_option linter.unusedVariables false
set_option linter.unusedSimpArgs false
open Go.RowKit
set_option maxHeartbeats 400000 in
theorem cloneInt_any (v : Value) (xs : List Int) (w : World) (h : RInts 16777216 w w.heap.size v xs) :
    Calls Try.prog 40 #[v] w fun e w' => ∃ v', e = .returned v' ∧ w'.ownsRow w.heap.size 3 1 v' xs.length (xs.flatMap cI) ∧ Below w.heap.size w w' := by
  obtain ⟨i0, hi, hz0, hz1, hz2⟩ := info_parts info_int
  have h' := h
  obtain ⟨A, c, rfl, hbd, hA⟩ := h
  have H := Lib.hid h'
  clear h'
  have hnil := fun (W : World) (a : Option Addr) (n c : Nat) => Lib.run_eql_slice_nil (P := Try.prog) W 36 3 a n c 0 0 Try.underlying36
  rcases A with _ | ad
  · have hn : xs.length = 0 := by
      rcases Nat.eq_zero_or_pos xs.length with h0 | h0
      · exact h0
      · obtain ⟨b, off, h, _⟩ := hA h0
        cases h
    have hx : xs = [] := List.eq_nil_of_length_eq_zero hn
    subst hx
    clear hA
    go_enter Try.func40, Try.ntmps40
    go_wp2
    go_ret
    exact ⟨_, rfl, World.ownsRow_nil _ _ _ _, Below.refl _ _⟩
  · clear hA
    go_enter Try.func40, Try.ntmps40
    go_wp2_with (at_builtin; refine at_app (.tmp 5) (.tmp 6) 36 rfl ?_; refine wpList_appAll _ rfl (.tmp 5) (.tmp 6) 36 rfl w.heap.size 3 i0 _ 1 8 Try.underlying36 hi hz0 hz1 hz2 rfl (by omega) (.slice (some ⟨w.heap.size, 0, none⟩) 0 0) 0 [] rfl (own_empty (Nat.le_refl _) (heap_alloc_new w _)) 16777216 w.heap.size cI _ _ c xs rfl (H.out.below (flat_mono _) ((Below.refl _ _).alloc (Nat.le_refl _) _)) rfl (fun _ => rfl) (fun y u hu => by simp [cI] at hu; subst hu; rfl) (by unfold maxLen; omega) (by omega) (by simp) ?_; intro v' w1 ho hg hn)
    go_ret
    exact ⟨_, rfl, by simpa using ho, ((Below.refl _ _).alloc (Nat.le_refl _) _).grown hg (by simp) (fun k hk => by simp [Value.ownBlock] at hk; omega)⟩
end Go.Proofs.Ytjmokahibcbjlaa
