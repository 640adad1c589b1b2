/-
  The walks over copies of slices, cartons and plans.
-/
import Derived.Test.YteamlfcfillbjaaGreatAa
import Derived.Test.YteamlfcfillbjaaGreatSl
namespace Go.Proofs.YteamlfcfillbjaaGreat
set_option linter.unusedVariables false
set_option linter.unusedSimpArgs false
set_option maxRecDepth 100000
open Go.RowKit
end Go.Proofs.YteamlfcfillbjaaGreat
