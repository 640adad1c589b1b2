/-
  No cell of these rows narrows 'for every input' (looked for: loops, veiled, ifaces, maps, wideKeys, modest, calm, conditions, laid).
  DERIVED. THE GIVEN ROWS OF THIS SEAT. 3 by the template 'for every input the law returns true; each argument reads behind the call as it read before'; 0 by the template 'total and deterministic' (their statements: YtjmokahibcbjlaaTotals.lean).
  GIVEN WITH THE SEED: the statements are not yours to turn. If you find one false, say at which input.
  Laid BY PROGRAM, IN A SANDBOX (cutbox-rows.mjs): the forced cells as the released guide's own fill.sh prints them over the translation 3f03845b0dd173aa… (all of the seat's roots in one cut). By AI agents, Wed Nov 11 2026. No macro, syntax, notation, axiom, sorry.
-/
import Derived.Test.YtjmokahibcbjlaaChecked
import GoSem.Claim
import GoSem.ClaimJoined
import GoSem.ClaimMapViews
import Derived.JoinedTies
import Derived.KernelRfl
namespace Go.Proofs.Ytjmokahibcbjlaa
/- THE CELL 'sum', in the pinned program and in every row, IS THE sha256 OF THE DUMP (.gsa) THAT YtjmokahibcbjlaaProg.lean LOADS. Nothing in Lean hashes anything: it is a label: what it is worth is what the hold of that sum in a sandbox is worth. -/
noncomputable def Try.pinned : Pinned := { name := "ytjmokahibcbjlaa", sum := "3f03845b0dd173aaa888a2166f0d9c0fa38eca8794f79fd63ca4919e5775d38d", checked := Try.checked }
namespace Rows
def none {H : Type} : Left H := { results := [], args := [] }

/-- 'laws.FnExactPlanScaled': WHATEVER THE INPUT: true; the input reads as it did. -/
def fnExactPlanScaledSpec : ChangeSpec := { name := "fnExactPlanScaled", fn := fun _ => fun
  | [d1, d2] => { results := [.lit (.bool true)], args := [d1, d2] }
  | _ => none }
def fnExactPlanScaledRow : OpenClaim := { program := "ytjmokahibcbjlaa", sum := "3f03845b0dd173aaa888a2166f0d9c0fa38eca8794f79fd63ca4919e5775d38d", func := "loop.example/g00489/laws.FnExactPlanScaled", spec := "fnExactPlanScaled", apart := false }
def FnExactPlanScaledSaid : Prop := fnExactPlanScaledRow.holds Try.pinned (OpenSpec.ofChange fnExactPlanScaledSpec)

/-- ITS FALSE NEIGHBOUR: 'it returns false'. Refute it at one input. -/
def fnExactPlanScaledWrong : ChangeSpec := { name := "fnExactPlanScaled", fn := fun _ => fun
  | [d1, d2] => { results := [.lit (.bool false)], args := [d1, d2] }
  | _ => none }
def FnExactPlanScaledWrongFalsely : Prop := fnExactPlanScaledRow.holds Try.pinned (OpenSpec.ofChange fnExactPlanScaledWrong)

/-- 'laws.FnExactTogether': WHATEVER THE INPUT: true; the input reads as it did. -/
def fnExactTogetherSpec : ChangeSpec := { name := "fnExactTogether", fn := fun _ => fun
  | [d1, d2] => { results := [.lit (.bool true)], args := [d1, d2] }
  | _ => none }
def fnExactTogetherRow : OpenClaim := { program := "ytjmokahibcbjlaa", sum := "3f03845b0dd173aaa888a2166f0d9c0fa38eca8794f79fd63ca4919e5775d38d", func := "loop.example/g00489/laws.FnExactTogether", spec := "fnExactTogether", unfollowed := true, recurses := true, apart := false }
def FnExactTogetherSaid : Prop := fnExactTogetherRow.holds Try.pinned (OpenSpec.ofChange fnExactTogetherSpec)

/-- ITS FALSE NEIGHBOUR: 'it returns false'. Refute it at one input. -/
def fnExactTogetherWrong : ChangeSpec := { name := "fnExactTogether", fn := fun _ => fun
  | [d1, d2] => { results := [.lit (.bool false)], args := [d1, d2] }
  | _ => none }
def FnExactTogetherWrongFalsely : Prop := fnExactTogetherRow.holds Try.pinned (OpenSpec.ofChange fnExactTogetherWrong)

/-- 'laws.FnExactMoved': WHATEVER THE INPUT: true; the input reads as it did. -/
def fnExactMovedSpec : ChangeSpec := { name := "fnExactMoved", fn := fun _ => fun
  | [d1, d2] => { results := [.lit (.bool true)], args := [d1, d2] }
  | _ => none }
def fnExactMovedRow : OpenClaim := { program := "ytjmokahibcbjlaa", sum := "3f03845b0dd173aaa888a2166f0d9c0fa38eca8794f79fd63ca4919e5775d38d", func := "loop.example/g00489/laws.FnExactMoved", spec := "fnExactMoved", unfollowed := true, recurses := true, apart := false }
def FnExactMovedSaid : Prop := fnExactMovedRow.holds Try.pinned (OpenSpec.ofChange fnExactMovedSpec)

/-- ITS FALSE NEIGHBOUR: 'it returns false'. Refute it at one input. -/
def fnExactMovedWrong : ChangeSpec := { name := "fnExactMoved", fn := fun _ => fun
  | [d1, d2] => { results := [.lit (.bool false)], args := [d1, d2] }
  | _ => none }
def FnExactMovedWrongFalsely : Prop := fnExactMovedRow.holds Try.pinned (OpenSpec.ofChange fnExactMovedWrong)

/- THE SECOND FORM. 'bulk': how many values and letters a reading holds, each counted each time it is reached (what is shared counts as often as it is met; a slice's spare places count too). A statement '..UptoSaid' is the law's where the arguments, and the package variables that the reading takes, are together of bulk at most 1048576: NARROWER than '..Said'. Prove '..Said' where nothing that the law and all that it calls make is longer than what came in: it says more and counts as full. Else prove '..UptoSaid'. A law counts once. -/
mutual
def uptoBulk {H : Type} : DataW H → Nat
  | .lit (.string bytes) => bytes.length + 1
  | .lit _ => 1
  | .nil => 1
  | .ptr d => uptoBulk d + 1
  | .slice elems spare => uptoBulkAll elems + uptoBulkAll spare + 1
  | .agg parts => uptoBulkAll parts + 1
  | .iface _ d => uptoBulk d + 1
  | .map entries => uptoBulkEntries entries + 1
  | .held _ => 1
def uptoBulkAll {H : Type} : List (DataW H) → Nat
  | [] => 0
  | d :: r => uptoBulk d + uptoBulkAll r
def uptoBulkEntries {H : Type} : List (Lit × DataW H) → Nat
  | [] => 0
  | x :: r => uptoBulkEntry x + uptoBulkEntries r
def uptoBulkEntry {H : Type} : Lit × DataW H → Nat
  | (.string bytes, d) => bytes.length + uptoBulk d + 1
  | (_, d) => uptoBulk d + 1
 end
def uptoSmall : (H : Type) → List (DataW H) → Bool := fun _ ds => decide (uptoBulkAll ds ≤ 1048576)
def OpenSpec.upto (s : _root_.Go.ChangeSpec) : _root_.Go.OpenSpec := { _root_.Go.OpenSpec.ofChange s with cond := some uptoSmall }

/-- 'laws.FnExactPlanScaled', WHERE WHAT IT READS IS OF BULK AT MOST 1048576: true; the input reads as it did. -/
def fnExactPlanScaledUptoRow : OpenClaim := { program := "ytjmokahibcbjlaa", sum := "3f03845b0dd173aaa888a2166f0d9c0fa38eca8794f79fd63ca4919e5775d38d", func := "loop.example/g00489/laws.FnExactPlanScaled", spec := "fnExactPlanScaled", apart := false, narrowed := true }
def FnExactPlanScaledUptoSaid : Prop := fnExactPlanScaledUptoRow.holds Try.pinned (OpenSpec.upto fnExactPlanScaledSpec)

/-- 'laws.FnExactTogether', WHERE WHAT IT READS IS OF BULK AT MOST 1048576: true; the input reads as it did. -/
def fnExactTogetherUptoRow : OpenClaim := { program := "ytjmokahibcbjlaa", sum := "3f03845b0dd173aaa888a2166f0d9c0fa38eca8794f79fd63ca4919e5775d38d", func := "loop.example/g00489/laws.FnExactTogether", spec := "fnExactTogether", unfollowed := true, recurses := true, apart := false, narrowed := true }
def FnExactTogetherUptoSaid : Prop := fnExactTogetherUptoRow.holds Try.pinned (OpenSpec.upto fnExactTogetherSpec)

/-- 'laws.FnExactMoved', WHERE WHAT IT READS IS OF BULK AT MOST 1048576: true; the input reads as it did. -/
def fnExactMovedUptoRow : OpenClaim := { program := "ytjmokahibcbjlaa", sum := "3f03845b0dd173aaa888a2166f0d9c0fa38eca8794f79fd63ca4919e5775d38d", func := "loop.example/g00489/laws.FnExactMoved", spec := "fnExactMoved", unfollowed := true, recurses := true, apart := false, narrowed := true }
def FnExactMovedUptoSaid : Prop := fnExactMovedUptoRow.holds Try.pinned (OpenSpec.upto fnExactMovedSpec)

end Rows
end Go.Proofs.Ytjmokahibcbjlaa
