/-
  No cell of these rows narrows 'for every input' (looked for: loops, veiled, ifaces, maps, wideKeys, modest, calm, conditions, laid).
  DERIVED. THE GIVEN ROWS OF THIS SEAT. 4 by the template 'for every input the law returns true; each argument reads behind the call as it read before'; 0 by the template 'total and deterministic' (their statements: YteamlfcfillbjaaGreatTotals.lean).
  GIVEN WITH THE SEED: the statements are not yours to turn. If you find one false, say at which input.
  Laid BY PROGRAM, IN A SANDBOX (cutbox-rows.mjs): the forced cells as the released guide's own fill.sh prints them over the translation 595a9ea5b1d42751… (all of the seat's roots in one cut). By AI agents, Wed Nov 11 2026. No macro, syntax, notation, axiom, sorry.
-/
import Derived.Test.YteamlfcfillbjaaGreatChecked
import GoSem.Claim
import GoSem.ClaimJoined
import GoSem.ClaimMapViews
import Derived.JoinedTies
import Derived.KernelRfl
namespace Go.Proofs.YteamlfcfillbjaaGreat
/- THE CELL 'sum', in the pinned program and in every row, IS THE sha256 OF THE DUMP (.gsa) THAT YteamlfcfillbjaaGreatProg.lean LOADS. Nothing in Lean hashes anything: it is a label: what it is worth is what the hold of that sum in a sandbox is worth. -/
noncomputable def Tryz.pinned : Pinned := { name := "yteamlfcfillbjaagreat", sum := "595a9ea5b1d42751d7f05722f03d3be6d19fc8f2a5bb67a4c594b1dfd00433e6", checked := Tryz.checked }
namespace Rows
def none {H : Type} : Left H := { results := [], args := [] }

/-- 'laws.FnExactWithItem': WHATEVER THE INPUT: true; the input reads as it did. -/
def fnExactWithItemSpec : ChangeSpec := { name := "fnExactWithItem", fn := fun _ => fun
  | [d1, d2] => { results := [.lit (.bool true)], args := [d1, d2] }
  | _ => none }
def fnExactWithItemRow : OpenClaim := { program := "yteamlfcfillbjaagreat", sum := "595a9ea5b1d42751d7f05722f03d3be6d19fc8f2a5bb67a4c594b1dfd00433e6", func := "loop.example/g00489/laws.FnExactWithItem", spec := "fnExactWithItem", unfollowed := true, recurses := true, apart := false }
def FnExactWithItemSaid : Prop := fnExactWithItemRow.holds Tryz.pinned (OpenSpec.ofChange fnExactWithItemSpec)

/-- ITS FALSE NEIGHBOUR: 'it returns false'. Refute it at one input. -/
def fnExactWithItemWrong : ChangeSpec := { name := "fnExactWithItem", fn := fun _ => fun
  | [d1, d2] => { results := [.lit (.bool false)], args := [d1, d2] }
  | _ => none }
def FnExactWithItemWrongFalsely : Prop := fnExactWithItemRow.holds Tryz.pinned (OpenSpec.ofChange fnExactWithItemWrong)

/-- 'laws.FnExactWithoutItem': WHATEVER THE INPUT: true; the input reads as it did. -/
def fnExactWithoutItemSpec : ChangeSpec := { name := "fnExactWithoutItem", fn := fun _ => fun
  | [d1, d2] => { results := [.lit (.bool true)], args := [d1, d2] }
  | _ => none }
def fnExactWithoutItemRow : OpenClaim := { program := "yteamlfcfillbjaagreat", sum := "595a9ea5b1d42751d7f05722f03d3be6d19fc8f2a5bb67a4c594b1dfd00433e6", func := "loop.example/g00489/laws.FnExactWithoutItem", spec := "fnExactWithoutItem", unfollowed := true, recurses := true, apart := false }
def FnExactWithoutItemSaid : Prop := fnExactWithoutItemRow.holds Tryz.pinned (OpenSpec.ofChange fnExactWithoutItemSpec)

/-- ITS FALSE NEIGHBOUR: 'it returns false'. Refute it at one input. -/
def fnExactWithoutItemWrong : ChangeSpec := { name := "fnExactWithoutItem", fn := fun _ => fun
  | [d1, d2] => { results := [.lit (.bool false)], args := [d1, d2] }
  | _ => none }
def FnExactWithoutItemWrongFalsely : Prop := fnExactWithoutItemRow.holds Tryz.pinned (OpenSpec.ofChange fnExactWithoutItemWrong)

/-- 'laws.FnExactHeavier': WHATEVER THE INPUT: true; the input reads as it did. -/
def fnExactHeavierSpec : ChangeSpec := { name := "fnExactHeavier", fn := fun _ => fun
  | [d1, d2] => { results := [.lit (.bool true)], args := [d1, d2] }
  | _ => none }
def fnExactHeavierRow : OpenClaim := { program := "yteamlfcfillbjaagreat", sum := "595a9ea5b1d42751d7f05722f03d3be6d19fc8f2a5bb67a4c594b1dfd00433e6", func := "loop.example/g00489/laws.FnExactHeavier", spec := "fnExactHeavier", unfollowed := true, recurses := true, apart := false }
def FnExactHeavierSaid : Prop := fnExactHeavierRow.holds Tryz.pinned (OpenSpec.ofChange fnExactHeavierSpec)

/-- ITS FALSE NEIGHBOUR: 'it returns false'. Refute it at one input. -/
def fnExactHeavierWrong : ChangeSpec := { name := "fnExactHeavier", fn := fun _ => fun
  | [d1, d2] => { results := [.lit (.bool false)], args := [d1, d2] }
  | _ => none }
def FnExactHeavierWrongFalsely : Prop := fnExactHeavierRow.holds Tryz.pinned (OpenSpec.ofChange fnExactHeavierWrong)

/-- 'laws.FnExactScaled': WHATEVER THE INPUT: true; the input reads as it did. -/
def fnExactScaledSpec : ChangeSpec := { name := "fnExactScaled", fn := fun _ => fun
  | [d1, d2] => { results := [.lit (.bool true)], args := [d1, d2] }
  | _ => none }
def fnExactScaledRow : OpenClaim := { program := "yteamlfcfillbjaagreat", sum := "595a9ea5b1d42751d7f05722f03d3be6d19fc8f2a5bb67a4c594b1dfd00433e6", func := "loop.example/g00489/laws.FnExactScaled", spec := "fnExactScaled", unfollowed := true, recurses := true, apart := false }
def FnExactScaledSaid : Prop := fnExactScaledRow.holds Tryz.pinned (OpenSpec.ofChange fnExactScaledSpec)

/-- ITS FALSE NEIGHBOUR: 'it returns false'. Refute it at one input. -/
def fnExactScaledWrong : ChangeSpec := { name := "fnExactScaled", fn := fun _ => fun
  | [d1, d2] => { results := [.lit (.bool false)], args := [d1, d2] }
  | _ => none }
def FnExactScaledWrongFalsely : Prop := fnExactScaledRow.holds Tryz.pinned (OpenSpec.ofChange fnExactScaledWrong)

/- THE SECOND FORM. 'bulk': how many values and letters a reading holds, each counted each time it is reached (what is shared counts as often as it is met; a slice's spare places count too). A statement '..UptoSaid' is the law's where the arguments, and the package variables that the reading takes, are together of bulk at most 1048576: NARROWER than '..Said'. Prove '..Said' where nothing that the law and all that it calls make is longer than what came in: it says more and counts as full. Else prove '..UptoSaid'. A law counts once. -/
mutual
def uptoBulk {H : Type} : DataW H → Nat
  | .lit (.string bytes) => bytes.length + 1
  | .lit _ => 1
  | .nil => 1
  | .ptr d => uptoBulk d + 1
  | .slice elems spare => uptoBulkAll elems + uptoBulkAll spare + 1
  | .agg parts => uptoBulkAll parts + 1
  | .iface _ d => uptoBulk d + 1
  | .map entries => uptoBulkEntries entries + 1
  | .held _ => 1
def uptoBulkAll {H : Type} : List (DataW H) → Nat
  | [] => 0
  | d :: r => uptoBulk d + uptoBulkAll r
def uptoBulkEntries {H : Type} : List (Lit × DataW H) → Nat
  | [] => 0
  | x :: r => uptoBulkEntry x + uptoBulkEntries r
def uptoBulkEntry {H : Type} : Lit × DataW H → Nat
  | (.string bytes, d) => bytes.length + uptoBulk d + 1
  | (_, d) => uptoBulk d + 1
 end
def uptoSmall : (H : Type) → List (DataW H) → Bool := fun _ ds => decide (uptoBulkAll ds ≤ 1048576)
def OpenSpec.upto (s : _root_.Go.ChangeSpec) : _root_.Go.OpenSpec := { _root_.Go.OpenSpec.ofChange s with cond := some uptoSmall }

/-- 'laws.FnExactWithItem', WHERE WHAT IT READS IS OF BULK AT MOST 1048576: true; the input reads as it did. -/
def fnExactWithItemUptoRow : OpenClaim := { program := "yteamlfcfillbjaagreat", sum := "595a9ea5b1d42751d7f05722f03d3be6d19fc8f2a5bb67a4c594b1dfd00433e6", func := "loop.example/g00489/laws.FnExactWithItem", spec := "fnExactWithItem", unfollowed := true, recurses := true, apart := false, narrowed := true }
def FnExactWithItemUptoSaid : Prop := fnExactWithItemUptoRow.holds Tryz.pinned (OpenSpec.upto fnExactWithItemSpec)

/-- 'laws.FnExactWithoutItem', WHERE WHAT IT READS IS OF BULK AT MOST 1048576: true; the input reads as it did. -/
def fnExactWithoutItemUptoRow : OpenClaim := { program := "yteamlfcfillbjaagreat", sum := "595a9ea5b1d42751d7f05722f03d3be6d19fc8f2a5bb67a4c594b1dfd00433e6", func := "loop.example/g00489/laws.FnExactWithoutItem", spec := "fnExactWithoutItem", unfollowed := true, recurses := true, apart := false, narrowed := true }
def FnExactWithoutItemUptoSaid : Prop := fnExactWithoutItemUptoRow.holds Tryz.pinned (OpenSpec.upto fnExactWithoutItemSpec)

/-- 'laws.FnExactHeavier', WHERE WHAT IT READS IS OF BULK AT MOST 1048576: true; the input reads as it did. -/
def fnExactHeavierUptoRow : OpenClaim := { program := "yteamlfcfillbjaagreat", sum := "595a9ea5b1d42751d7f05722f03d3be6d19fc8f2a5bb67a4c594b1dfd00433e6", func := "loop.example/g00489/laws.FnExactHeavier", spec := "fnExactHeavier", unfollowed := true, recurses := true, apart := false, narrowed := true }
def FnExactHeavierUptoSaid : Prop := fnExactHeavierUptoRow.holds Tryz.pinned (OpenSpec.upto fnExactHeavierSpec)

/-- 'laws.FnExactScaled', WHERE WHAT IT READS IS OF BULK AT MOST 1048576: true; the input reads as it did. -/
def fnExactScaledUptoRow : OpenClaim := { program := "yteamlfcfillbjaagreat", sum := "595a9ea5b1d42751d7f05722f03d3be6d19fc8f2a5bb67a4c594b1dfd00433e6", func := "loop.example/g00489/laws.FnExactScaled", spec := "fnExactScaled", unfollowed := true, recurses := true, apart := false, narrowed := true }
def FnExactScaledUptoSaid : Prop := fnExactScaledUptoRow.holds Tryz.pinned (OpenSpec.upto fnExactScaledSpec)

end Rows
end Go.Proofs.YteamlfcfillbjaaGreat
