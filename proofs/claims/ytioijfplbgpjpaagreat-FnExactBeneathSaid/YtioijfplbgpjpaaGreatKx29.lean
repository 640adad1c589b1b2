/-
  Plain models of what lies on a pallet (chapters 23, 24): top, covered, beneath; the reference's and the program's way of telling who is beneath are one. No program is named here.
-/
import Derived.Test.YtioijfplbgpjpaaGreatKx26
namespace Go.Proofs.YtioijfplbgpjpaaGreat
set_option linter.unusedVariables false
set_option linter.unusedSimpArgs false
set_option maxRecDepth 100000
open Go.RowKit
def boxAt (r : Request) (x : Plan) (i : Int) : Box := boxR r (cartAt x i)
def topStep (r : Request) (x : Plan) (n i : Int) : Int := max n (wrap64 ((spotAt x i).z + (boxAt r x i).h))
def topR (r : Request) (x : Plan) (k : Int) : Int := if feasible r x = true then (onPal x k).foldl (topStep r x) 0 else 0
def atH (r : Request) (x : Plan) (z i : Int) : Bool := inB z (spotAt x i).z (wrap64 (wrap64 ((spotAt x i).z + (boxAt r x i).h) - 1))
def atHeight (r : Request) (x : Plan) (k z : Int) : List Int := (onPal x k).filter (atH r x z)
def covStep (r : Request) (x : Plan) (n i : Int) : Int := wrap64 (n + wrap64 ((boxAt r x i).w * (boxAt r x i).d))
def coveredR (r : Request) (x : Plan) (k z : Int) : Int := if feasible r x = true then (atHeight r x k z).foldl (covStep r x) 0 else 0
def zsOn (x : Plan) (k : Int) : List Int := (onPal x k).map fun i => (spotAt x i).z
end Go.Proofs.YtioijfplbgpjpaaGreat
namespace Go.Proofs.YtioijfplbgpjpaaGreat
set_option linter.unusedVariables false
set_option linter.unusedSimpArgs false
set_option maxRecDepth 100000
open Go.RowKit
def point : Box := ⟨1, 1, 1, 0⟩
end Go.Proofs.YtioijfplbgpjpaaGreat
namespace Go.Proofs.YtioijfplbgpjpaaGreat
set_option linter.unusedVariables false
set_option linter.unusedSimpArgs false
set_option maxRecDepth 100000
open Go.RowKit
end Go.Proofs.YtioijfplbgpjpaaGreat
