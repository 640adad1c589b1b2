/-
  The walks over PlanOk (chapter 13).
-/
import Derived.Test.YteamlfcfillbjaaGreatSl
import Derived.Test.YteamlfcfillbjaaGreatLa
import Derived.Test.YteamlfcfillbjaaGreatMp
namespace Go.Proofs.YteamlfcfillbjaaGreat
set_option linter.unusedVariables false
set_option linter.unusedSimpArgs false
set_option maxRecDepth 100000
open Go.RowKit
set_option maxHeartbeats 400000 in
theorem l2Id_any (a : Int) (w : World) :
    Calls Tryz.prog 70 #[.int .i64 a] w fun e w' => e = .returned (.bool (inB a 0 999)) ∧ w = w' := by
  go_enter Tryz.func70, Tryz.ntmps70
  go_wp2_with (go_at_call 43; refine (l1In_any _ _ _ _).mono ?_; rintro e w' ⟨rfl, rfl⟩)
  go_ret
  exact ⟨rfl, rfl⟩
end Go.Proofs.YteamlfcfillbjaaGreat
