/-
  The walks over PlanOk (chapter 13).
-/
import Derived.Test.YtioijfplbgpjpaaGreatKm02
import Derived.Test.YtioijfplbgpjpaaGreatKm01
namespace Go.Proofs.YtioijfplbgpjpaaGreat
set_option linter.unusedVariables false
set_option linter.unusedSimpArgs false
set_option maxRecDepth 100000
open Go.RowKit
set_option maxHeartbeats 400000 in
theorem l2Id_any (a : Int) (w : World) :
  Calls Tryz.prog 292 #[.int .i64 a] w fun e w' => e = .returned (.bool (inB a 0 999)) ∧ w = w' := by
 go_enter Tryz.func292, Tryz.ntmps292
 go_wp2_with (go_at_call 104; refine (l1In_any _ _ _ _).mono ?_; rintro e w' ⟨rfl, rfl⟩)
 go_ret
 exact ⟨rfl, rfl⟩
end Go.Proofs.YtioijfplbgpjpaaGreat
