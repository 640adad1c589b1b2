/-
  No cell of these rows narrows 'for every input' (looked for: loops, veiled, ifaces, maps, wideKeys, modest, calm, conditions, laid).
  DERIVED. THE GIVEN ROWS OF THIS SEAT. 6 by the template 'for every input the law returns true; each argument reads behind the call as it read before'; 0 by the template 'total and deterministic' (their statements: YtgljohibcglnbaaTotals.lean).
  GIVEN WITH THE SEED: the statements are not yours to turn. If you find one false, say at which input.
  Laid BY PROGRAM, IN A SANDBOX (cutbox-rows.mjs): the forced cells as the released guide's own fill.sh prints them over the translation e5efab1a41d94719… (all of the seat's roots in one cut). By AI agents, Wed Nov 11 2026. No macro, syntax, notation, axiom, sorry.
-/
import Derived.Test.YtgljohibcglnbaaChecked
import GoSem.Claim
import GoSem.ClaimJoined
import GoSem.ClaimMapViews
import Derived.JoinedTies
import Derived.KernelRfl
namespace Go.Proofs.Ytgljohibcglnbaa
/- THE CELL 'sum', in the pinned program and in every row, IS THE sha256 OF THE DUMP (.gsa) THAT YtgljohibcglnbaaProg.lean LOADS. Nothing in Lean hashes anything: it is a label: what it is worth is what the hold of that sum in a sandbox is worth. -/
noncomputable def Try.pinned : Pinned := { name := "ytgljohibcglnbaa", sum := "e5efab1a41d94719f36aca6654f9f6000edc2caedfffcd0195e52b1aaa504dc2", checked := Try.checked }
namespace Rows
def none {H : Type} : Left H := { results := [], args := [] }

/-- 'laws.FnExactLabelOk': WHATEVER THE INPUT: true; the input reads as it did. -/
def fnExactLabelOkSpec : ChangeSpec := { name := "fnExactLabelOk", fn := fun _ => fun
  | [d] => { results := [.lit (.bool true)], args := [d] }
  | _ => none }
def fnExactLabelOkRow : OpenClaim := { program := "ytgljohibcglnbaa", sum := "e5efab1a41d94719f36aca6654f9f6000edc2caedfffcd0195e52b1aaa504dc2", func := "loop.example/g00489/laws.FnExactLabelOk", spec := "fnExactLabelOk", apart := false }
def FnExactLabelOkSaid : Prop := fnExactLabelOkRow.holds Try.pinned (OpenSpec.ofChange fnExactLabelOkSpec)

/-- ITS FALSE NEIGHBOUR: 'it returns false'. Refute it at one input. -/
def fnExactLabelOkWrong : ChangeSpec := { name := "fnExactLabelOk", fn := fun _ => fun
  | [d] => { results := [.lit (.bool false)], args := [d] }
  | _ => none }
def FnExactLabelOkWrongFalsely : Prop := fnExactLabelOkRow.holds Try.pinned (OpenSpec.ofChange fnExactLabelOkWrong)

/-- 'laws.FnExactLabelRead': WHATEVER THE INPUT: true; the input reads as it did. -/
def fnExactLabelReadSpec : ChangeSpec := { name := "fnExactLabelRead", fn := fun _ => fun
  | [d] => { results := [.lit (.bool true)], args := [d] }
  | _ => none }
def fnExactLabelReadRow : OpenClaim := { program := "ytgljohibcglnbaa", sum := "e5efab1a41d94719f36aca6654f9f6000edc2caedfffcd0195e52b1aaa504dc2", func := "loop.example/g00489/laws.FnExactLabelRead", spec := "fnExactLabelRead", apart := false }
def FnExactLabelReadSaid : Prop := fnExactLabelReadRow.holds Try.pinned (OpenSpec.ofChange fnExactLabelReadSpec)

/-- ITS FALSE NEIGHBOUR: 'it returns false'. Refute it at one input. -/
def fnExactLabelReadWrong : ChangeSpec := { name := "fnExactLabelRead", fn := fun _ => fun
  | [d] => { results := [.lit (.bool false)], args := [d] }
  | _ => none }
def FnExactLabelReadWrongFalsely : Prop := fnExactLabelReadRow.holds Try.pinned (OpenSpec.ofChange fnExactLabelReadWrong)

/-- 'laws.FnExactCount': WHATEVER THE INPUT: true; the input reads as it did. -/
def fnExactCountSpec : ChangeSpec := { name := "fnExactCount", fn := fun _ => fun
  | [d1, d2] => { results := [.lit (.bool true)], args := [d1, d2] }
  | _ => none }
def fnExactCountRow : OpenClaim := { program := "ytgljohibcglnbaa", sum := "e5efab1a41d94719f36aca6654f9f6000edc2caedfffcd0195e52b1aaa504dc2", func := "loop.example/g00489/laws.FnExactCount", spec := "fnExactCount", apart := false }
def FnExactCountSaid : Prop := fnExactCountRow.holds Try.pinned (OpenSpec.ofChange fnExactCountSpec)

/-- ITS FALSE NEIGHBOUR: 'it returns false'. Refute it at one input. -/
def fnExactCountWrong : ChangeSpec := { name := "fnExactCount", fn := fun _ => fun
  | [d1, d2] => { results := [.lit (.bool false)], args := [d1, d2] }
  | _ => none }
def FnExactCountWrongFalsely : Prop := fnExactCountRow.holds Try.pinned (OpenSpec.ofChange fnExactCountWrong)

/-- 'laws.FnExactDearest': WHATEVER THE INPUT: true; the input reads as it did. -/
def fnExactDearestSpec : ChangeSpec := { name := "fnExactDearest", fn := fun _ => fun
  | [d] => { results := [.lit (.bool true)], args := [d] }
  | _ => none }
def fnExactDearestRow : OpenClaim := { program := "ytgljohibcglnbaa", sum := "e5efab1a41d94719f36aca6654f9f6000edc2caedfffcd0195e52b1aaa504dc2", func := "loop.example/g00489/laws.FnExactDearest", spec := "fnExactDearest", apart := false }
def FnExactDearestSaid : Prop := fnExactDearestRow.holds Try.pinned (OpenSpec.ofChange fnExactDearestSpec)

/-- ITS FALSE NEIGHBOUR: 'it returns false'. Refute it at one input. -/
def fnExactDearestWrong : ChangeSpec := { name := "fnExactDearest", fn := fun _ => fun
  | [d] => { results := [.lit (.bool false)], args := [d] }
  | _ => none }
def FnExactDearestWrongFalsely : Prop := fnExactDearestRow.holds Try.pinned (OpenSpec.ofChange fnExactDearestWrong)

/-- 'laws.FnExactTotal': WHATEVER THE INPUT: true; the input reads as it did. -/
def fnExactTotalSpec : ChangeSpec := { name := "fnExactTotal", fn := fun _ => fun
  | [d] => { results := [.lit (.bool true)], args := [d] }
  | _ => none }
def fnExactTotalRow : OpenClaim := { program := "ytgljohibcglnbaa", sum := "e5efab1a41d94719f36aca6654f9f6000edc2caedfffcd0195e52b1aaa504dc2", func := "loop.example/g00489/laws.FnExactTotal", spec := "fnExactTotal", apart := false }
def FnExactTotalSaid : Prop := fnExactTotalRow.holds Try.pinned (OpenSpec.ofChange fnExactTotalSpec)

/-- ITS FALSE NEIGHBOUR: 'it returns false'. Refute it at one input. -/
def fnExactTotalWrong : ChangeSpec := { name := "fnExactTotal", fn := fun _ => fun
  | [d] => { results := [.lit (.bool false)], args := [d] }
  | _ => none }
def FnExactTotalWrongFalsely : Prop := fnExactTotalRow.holds Try.pinned (OpenSpec.ofChange fnExactTotalWrong)

/-- 'laws.FnExactCartonWith': WHATEVER THE INPUT: true; the input reads as it did. -/
def fnExactCartonWithSpec : ChangeSpec := { name := "fnExactCartonWith", fn := fun _ => fun
  | [d1, d2] => { results := [.lit (.bool true)], args := [d1, d2] }
  | _ => none }
def fnExactCartonWithRow : OpenClaim := { program := "ytgljohibcglnbaa", sum := "e5efab1a41d94719f36aca6654f9f6000edc2caedfffcd0195e52b1aaa504dc2", func := "loop.example/g00489/laws.FnExactCartonWith", spec := "fnExactCartonWith", unfollowed := true, recurses := true, apart := false }
def FnExactCartonWithSaid : Prop := fnExactCartonWithRow.holds Try.pinned (OpenSpec.ofChange fnExactCartonWithSpec)

/-- ITS FALSE NEIGHBOUR: 'it returns false'. Refute it at one input. -/
def fnExactCartonWithWrong : ChangeSpec := { name := "fnExactCartonWith", fn := fun _ => fun
  | [d1, d2] => { results := [.lit (.bool false)], args := [d1, d2] }
  | _ => none }
def FnExactCartonWithWrongFalsely : Prop := fnExactCartonWithRow.holds Try.pinned (OpenSpec.ofChange fnExactCartonWithWrong)

/- THE SECOND FORM. 'bulk': how many values and letters a reading holds, each counted each time it is reached (what is shared counts as often as it is met; a slice's spare places count too). A statement '..UptoSaid' is the law's where the arguments, and the package variables that the reading takes, are together of bulk at most 1048576: NARROWER than '..Said'. Prove '..Said' where nothing that the law and all that it calls make is longer than what came in: it says more and counts as full. Else prove '..UptoSaid'. A law counts once. -/
mutual
def uptoBulk {H : Type} : DataW H → Nat
  | .lit (.string bytes) => bytes.length + 1
  | .lit _ => 1
  | .nil => 1
  | .ptr d => uptoBulk d + 1
  | .slice elems spare => uptoBulkAll elems + uptoBulkAll spare + 1
  | .agg parts => uptoBulkAll parts + 1
  | .iface _ d => uptoBulk d + 1
  | .map entries => uptoBulkEntries entries + 1
  | .held _ => 1
def uptoBulkAll {H : Type} : List (DataW H) → Nat
  | [] => 0
  | d :: r => uptoBulk d + uptoBulkAll r
def uptoBulkEntries {H : Type} : List (Lit × DataW H) → Nat
  | [] => 0
  | x :: r => uptoBulkEntry x + uptoBulkEntries r
def uptoBulkEntry {H : Type} : Lit × DataW H → Nat
  | (.string bytes, d) => bytes.length + uptoBulk d + 1
  | (_, d) => uptoBulk d + 1
 end
def uptoSmall : (H : Type) → List (DataW H) → Bool := fun _ ds => decide (uptoBulkAll ds ≤ 1048576)
def OpenSpec.upto (s : _root_.Go.ChangeSpec) : _root_.Go.OpenSpec := { _root_.Go.OpenSpec.ofChange s with cond := some uptoSmall }

/-- 'laws.FnExactLabelOk', WHERE WHAT IT READS IS OF BULK AT MOST 1048576: true; the input reads as it did. -/
def fnExactLabelOkUptoRow : OpenClaim := { program := "ytgljohibcglnbaa", sum := "e5efab1a41d94719f36aca6654f9f6000edc2caedfffcd0195e52b1aaa504dc2", func := "loop.example/g00489/laws.FnExactLabelOk", spec := "fnExactLabelOk", apart := false, narrowed := true }
def FnExactLabelOkUptoSaid : Prop := fnExactLabelOkUptoRow.holds Try.pinned (OpenSpec.upto fnExactLabelOkSpec)

/-- 'laws.FnExactLabelRead', WHERE WHAT IT READS IS OF BULK AT MOST 1048576: true; the input reads as it did. -/
def fnExactLabelReadUptoRow : OpenClaim := { program := "ytgljohibcglnbaa", sum := "e5efab1a41d94719f36aca6654f9f6000edc2caedfffcd0195e52b1aaa504dc2", func := "loop.example/g00489/laws.FnExactLabelRead", spec := "fnExactLabelRead", apart := false, narrowed := true }
def FnExactLabelReadUptoSaid : Prop := fnExactLabelReadUptoRow.holds Try.pinned (OpenSpec.upto fnExactLabelReadSpec)

/-- 'laws.FnExactCount', WHERE WHAT IT READS IS OF BULK AT MOST 1048576: true; the input reads as it did. -/
def fnExactCountUptoRow : OpenClaim := { program := "ytgljohibcglnbaa", sum := "e5efab1a41d94719f36aca6654f9f6000edc2caedfffcd0195e52b1aaa504dc2", func := "loop.example/g00489/laws.FnExactCount", spec := "fnExactCount", apart := false, narrowed := true }
def FnExactCountUptoSaid : Prop := fnExactCountUptoRow.holds Try.pinned (OpenSpec.upto fnExactCountSpec)

/-- 'laws.FnExactDearest', WHERE WHAT IT READS IS OF BULK AT MOST 1048576: true; the input reads as it did. -/
def fnExactDearestUptoRow : OpenClaim := { program := "ytgljohibcglnbaa", sum := "e5efab1a41d94719f36aca6654f9f6000edc2caedfffcd0195e52b1aaa504dc2", func := "loop.example/g00489/laws.FnExactDearest", spec := "fnExactDearest", apart := false, narrowed := true }
def FnExactDearestUptoSaid : Prop := fnExactDearestUptoRow.holds Try.pinned (OpenSpec.upto fnExactDearestSpec)

/-- 'laws.FnExactTotal', WHERE WHAT IT READS IS OF BULK AT MOST 1048576: true; the input reads as it did. -/
def fnExactTotalUptoRow : OpenClaim := { program := "ytgljohibcglnbaa", sum := "e5efab1a41d94719f36aca6654f9f6000edc2caedfffcd0195e52b1aaa504dc2", func := "loop.example/g00489/laws.FnExactTotal", spec := "fnExactTotal", apart := false, narrowed := true }
def FnExactTotalUptoSaid : Prop := fnExactTotalUptoRow.holds Try.pinned (OpenSpec.upto fnExactTotalSpec)

/-- 'laws.FnExactCartonWith', WHERE WHAT IT READS IS OF BULK AT MOST 1048576: true; the input reads as it did. -/
def fnExactCartonWithUptoRow : OpenClaim := { program := "ytgljohibcglnbaa", sum := "e5efab1a41d94719f36aca6654f9f6000edc2caedfffcd0195e52b1aaa504dc2", func := "loop.example/g00489/laws.FnExactCartonWith", spec := "fnExactCartonWith", unfollowed := true, recurses := true, apart := false, narrowed := true }
def FnExactCartonWithUptoSaid : Prop := fnExactCartonWithUptoRow.holds Try.pinned (OpenSpec.upto fnExactCartonWithSpec)

end Rows
end Go.Proofs.Ytgljohibcglnbaa
