/-
  Words for the exact laws' walks: lists and plans of the call's own, carried past later steps.
-/
import Derived.Test.YtioijfplbgpjpaaGreatKu23
import Derived.Test.YtioijfplbgpjpaaGreatKu01
namespace Go.Proofs.YtioijfplbgpjpaaGreat
set_option linter.unusedVariables false
set_option linter.unusedSimpArgs false
set_option maxRecDepth 100000
open Go.RowKit
theorem OPlan.tch {w w':World} {base:Nat} {v:Value} {p:Plan} {fp fp':List Nat} (h:OPlan w base v p fp) (ht:Tch fp' w w') (hd:∀ b∈fp,b∈fp'→False):OPlan w' base v p fp :=
 h.keep ht.size fun b hb=>ht.block b (h.lt b hb).2 (hd b hb)
end Go.Proofs.YtioijfplbgpjpaaGreat
namespace Go.Proofs.YtioijfplbgpjpaaGreat
set_option linter.unusedVariables false
set_option linter.unusedSimpArgs false
set_option maxRecDepth 100000
theorem fx_maps:mapsRowed Tryz.prog=true:=by kernel_rfl
theorem fx_stops:(Tryz.prog.stops == [])=true:=by kernel_rfl
theorem fx_stopKnobs:(Tryz.prog.stopKnobs == [])=true:=by kernel_rfl
theorem fx_plain:Tryz.prog.plainKeys=true:=by kernel_rfl
theorem fx_heard:Tryz.prog.stopsHeard=true:=by kernel_rfl
theorem fx_may:Tryz.prog.mayEnter=true:=by kernel_rfl
theorem fx_lift:Tryz.prog.liftsFinal=false:=by kernel_rfl
end Go.Proofs.YtioijfplbgpjpaaGreat
