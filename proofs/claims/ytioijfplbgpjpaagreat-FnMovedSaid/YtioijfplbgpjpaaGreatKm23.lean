/-
  The walks over the laws' own helpers that write marks into cartons and plans of the call's own, and look whether they are still there.
-/
import Derived.Test.YtioijfplbgpjpaaGreatKm01
import Derived.Test.YtioijfplbgpjpaaGreatKm04
import Derived.Test.YtioijfplbgpjpaaGreatKm02
namespace Go.Proofs.YtioijfplbgpjpaaGreat
set_option linter.unusedVariables false
set_option linter.unusedSimpArgs false
set_option maxRecDepth 100000
open Go.RowKit
end Go.Proofs.YtioijfplbgpjpaaGreat
namespace Go.Proofs.YtioijfplbgpjpaaGreat
set_option linter.unusedVariables false
set_option linter.unusedSimpArgs false
set_option maxRecDepth 100000
open Go.RowKit
abbrev fOP (base : Nat) (v : Value) (p : Plan) (fp : List Nat) : Fact := ⟨fun W => OPlan W base v p fp, fp⟩
section
variable {w W W' : World} {L : List Fact} {v : Value} {p : Plan} {fp : List Nat} {b : Nat}
theorem Sit.op (h : Sit w W L) (hm : fOP b v p fp ∈ L) (hb : p.bulk ≤ 16777216) : RPlan 16777216 W W.heap.size v p := OPlan.read (h.on _ hm) hb
end
end Go.Proofs.YtioijfplbgpjpaaGreat
