/-
  Words for the exact laws' walks: lists and plans of the call's own, carried past later steps.
-/
import Derived.Test.YtioijfplbgpjpaaGreatKx23
import Derived.Test.YtioijfplbgpjpaaGreatKx01
namespace Go.Proofs.YtioijfplbgpjpaaGreat
set_option linter.unusedVariables false
set_option linter.unusedSimpArgs false
set_option maxRecDepth 100000
open Go.RowKit
theorem OPlan.tch {w w' : World} {base : Nat} {v : Value} {p : Plan} {fp fp' : List Nat} (h : OPlan w base v p fp) (ht : Tch fp' w w') (hd : ∀ b ∈ fp, b ∈ fp' → False) : OPlan w' base v p fp :=
 h.keep ht.size fun b hb => ht.block b (h.lt b hb).2 (hd b hb)
theorem markInts_any (v : Value) (xs : List Int) (fp : List Nat) (k : Int) (base : Nat) (w : World) (h : OInts w base v xs fp) (hb : xs.length ≤ 16777216) (h0 : 0 ≤ k) (h1 : k ≤ 4294967296) :
  Calls Tryz.prog 34 #[v, .int .i64 k] w fun e w' => e = .returned (.int .i64 (k + ((xs.length * 1 : Nat) : Int))) ∧ OInts w' base v (mkS 1 mkInt k xs.length) fp ∧ Tch fp w w' := by
 obtain ⟨h, rfl⟩ := h
 exact (markIntS_any v xs k base w h hb h0 h1).mono fun e w' ⟨h1, h2, h3⟩ => ⟨h1, ⟨by rw [mkS_length]; exact h2, rfl⟩, h3⟩
theorem heldInts_any (v : Value) (xs : List Int) (k : Int) (w : World) (h : RInts 16777216 w w.heap.size v (mkS 1 mkInt k xs.length)) (_hb : xs.length ≤ 16777216) (h0 : 0 ≤ k) (h1 : k ≤ 4294967296) :
  Calls Tryz.prog 35 #[v, .int .i64 k] w fun e w' => e = .returned (.int .i64 (k + ((xs.length * 1 : Nat) : Int))) ∧ Below w.heap.size w w' :=
 (heldIntS_any v xs.length k w h h0 h1).mono fun e w' ⟨h1, h2⟩ => ⟨h1, h2 ▸ Below.refl _ _⟩
end Go.Proofs.YtioijfplbgpjpaaGreat
namespace Go.Proofs.YtioijfplbgpjpaaGreat
set_option linter.unusedVariables false
set_option linter.unusedSimpArgs false
set_option maxRecDepth 100000
theorem fx_maps : mapsRowed Tryz.prog = true := by kernel_rfl
theorem fx_stops : (Tryz.prog.stops == []) = true := by kernel_rfl
theorem fx_stopKnobs : (Tryz.prog.stopKnobs == []) = true := by kernel_rfl
theorem fx_plain : Tryz.prog.plainKeys = true := by kernel_rfl
theorem fx_heard : Tryz.prog.stopsHeard = true := by kernel_rfl
theorem fx_may : Tryz.prog.mayEnter = true := by kernel_rfl
theorem fx_lift : Tryz.prog.liftsFinal = false := by kernel_rfl
end Go.Proofs.YtioijfplbgpjpaaGreat
