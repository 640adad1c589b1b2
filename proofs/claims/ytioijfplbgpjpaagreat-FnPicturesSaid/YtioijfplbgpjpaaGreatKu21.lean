/-
  A plan of the walk's own among a walk's facts; a draw's plan and its bulk. No function is named here.
-/
import Derived.Test.YtioijfplbgpjpaaGreatKu20
import Derived.Test.YtioijfplbgpjpaaGreatKu23
namespace Go.Proofs.YtioijfplbgpjpaaGreat
set_option linter.unusedVariables false
set_option linter.unusedSimpArgs false
set_option maxRecDepth 100000
open Go.RowKit
section
variable {w W W':World} {L:List Fact} {v:Value} {p:Plan} {fp:List Nat} {b:Nat}
theorem PlanSmall.bulk (h:PlanSmall p):p.bulk≤10200:=by
 have:∀ (cs:List Carton),(∀ c∈cs,c.units.length≤100)→tot (fun c=>c.units.length) cs≤100 * cs.length:=by
  intro cs
  induction cs with
  |nil=>intro _;simp [tot]
  |cons c cs ih =>
   intro hc
   have h1:=hc c (by simp)
   have h2:=ih (fun d hd=>hc d (by simp [hd]))
   simp only [tot,List.map_cons,List.sum_cons,List.length_cons] at h2 ⊢
   omega
 have h1:=this p.cartons h.units
 have h2:=h.cartons
 have h3:=h.spots
 unfold Plan.bulk
 omega
end
end Go.Proofs.YtioijfplbgpjpaaGreat
