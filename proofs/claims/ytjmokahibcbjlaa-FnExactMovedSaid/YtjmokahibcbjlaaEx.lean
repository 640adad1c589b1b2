/-
  Words for the exact laws' walks: lists and plans of the call's own, carried past later steps.
-/
import Derived.Test.YtjmokahibcbjlaaMe
import Derived.Test.YtjmokahibcbjlaaOi
import Derived.Test.YtjmokahibcbjlaaMp
namespace Go.Proofs.Ytjmokahibcbjlaa
set_option linter.unusedVariables false
set_option linter.unusedSimpArgs false
open Go.RowKit
theorem blk_tch {w w' : World} {b : Nat} {o : Obj} {fp : List Nat} (h : w.heap[b]? = some o) (ht : Tch fp w w') (hn : b ∈ fp → False) : w'.heap[b]? = some o := (ht.block b (lt_of_block h) hn).trans h
theorem OPlan.tch {w w' : World} {base : Nat} {v : Value} {p : Plan} {fp fp' : List Nat} (h : OPlan w base v p fp) (ht : Tch fp' w w') (hd : ∀ b ∈ fp, b ∈ fp' → False) : OPlan w' base v p fp :=
  h.keep ht.size fun b hb => ht.block b (h.lt b hb).2 (hd b hb)
theorem markInts_any (v : Value) (xs : List Int) (fp : List Nat) (k : Int) (base : Nat) (w : World) (h : OInts w base v xs fp) (hb : xs.length ≤ 16777216) (h0 : 0 ≤ k) (h1 : k ≤ 4294967296) :
    Calls Try.prog 16 #[v, .int .i64 k] w fun e w' => e = .returned (.int .i64 (k + ((xs.length * 1 : Nat) : Int))) ∧ OInts w' base v (mkS 1 mkInt k xs.length) fp ∧ Tch fp w w' := by
  obtain ⟨h, rfl⟩ := h
  exact (markIntS_any v xs k base w h hb h0 h1).mono fun e w' ⟨h1, h2, h3⟩ => ⟨h1, ⟨by rw [mkS_length]; exact h2, rfl⟩, h3⟩
theorem heldInts_any (v : Value) (xs : List Int) (k : Int) (w : World) (h : RInts 16777216 w w.heap.size v (mkS 1 mkInt k xs.length)) (_hb : xs.length ≤ 16777216) (h0 : 0 ≤ k) (h1 : k ≤ 4294967296) :
    Calls Try.prog 17 #[v, .int .i64 k] w fun e w' => e = .returned (.int .i64 (k + ((xs.length * 1 : Nat) : Int))) ∧ Below w.heap.size w w' :=
  (heldIntS_any v xs.length k w h h0 h1).mono fun e w' ⟨h1, h2⟩ => ⟨h1, h2 ▸ Below.refl _ _⟩
theorem planScaled_bulk (p : Plan) (n : Int) : (planScaled p n).bulk = p.bulk := by
  unfold planScaled
  split
  · split
    · simp [Plan.bulk, planTimes]
    · rfl
  · rfl
end Go.Proofs.Ytjmokahibcbjlaa
