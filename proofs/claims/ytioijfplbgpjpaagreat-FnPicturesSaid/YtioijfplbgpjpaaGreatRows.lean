/-
  No cell of these rows narrows 'for every input' (looked for: loops, veiled, ifaces, maps, wideKeys, modest, calm, conditions, laid).
  DERIVED. THE GIVEN ROWS OF THIS SEAT. 16 by the template 'for every input the law returns true; each argument reads behind the call as it read before'; 0 by the template 'total and deterministic' (their statements: YtioijfplbgpjpaaGreatTotals.lean).
  GIVEN WITH THE SEED: the statements are not yours to turn. If you find one false, say at which input.
  Laid BY PROGRAM, IN A SANDBOX (cutbox-rows.mjs): the forced cells as the released guide's own fill.sh prints them over the translation 6fefa7a3dacdca28… (all of the seat's roots in one cut). By AI agents, Wed Nov 11 2026. No macro, syntax, notation, axiom, sorry.
-/
import Derived.Test.YtioijfplbgpjpaaGreatChecked
import GoSem.Claim
import GoSem.ClaimJoined
import GoSem.ClaimMapViews
import Derived.JoinedTies
import Derived.KernelRfl
namespace Go.Proofs.YtioijfplbgpjpaaGreat
/- THE CELL 'sum', in the pinned program and in every row, IS THE sha256 OF THE DUMP (.gsa) THAT YtioijfplbgpjpaaGreatProg.lean LOADS. Nothing in Lean hashes anything: it is a label: what it is worth is what the hold of that sum in a sandbox is worth. -/
noncomputable def Tryz.pinned : Pinned := { name := "ytioijfplbgpjpaagreat", sum := "6fefa7a3dacdca28876dbb1ea477712e250f71cb54b201b17f2aac3e4543d25e", checked := Tryz.checked }
namespace Rows
def none {H : Type} : Left H := { results := [], args := [] }

/-- 'laws.FnExactTop': WHATEVER THE INPUT: true; the input reads as it did. -/
def fnExactTopSpec : ChangeSpec := { name := "fnExactTop", fn := fun _ => fun
  | [d1, d2, d3] => { results := [.lit (.bool true)], args := [d1, d2, d3] }
  | _ => none }
def fnExactTopRow : OpenClaim := { program := "ytioijfplbgpjpaagreat", sum := "6fefa7a3dacdca28876dbb1ea477712e250f71cb54b201b17f2aac3e4543d25e", func := "loop.example/g00489/laws.FnExactTop", spec := "fnExactTop", unfollowed := true, recurses := true, apart := false }
def FnExactTopSaid : Prop := fnExactTopRow.holds Tryz.pinned (OpenSpec.ofChange fnExactTopSpec)

/-- ITS FALSE NEIGHBOUR: 'it returns false'. Refute it at one input. -/
def fnExactTopWrong : ChangeSpec := { name := "fnExactTop", fn := fun _ => fun
  | [d1, d2, d3] => { results := [.lit (.bool false)], args := [d1, d2, d3] }
  | _ => none }
def FnExactTopWrongFalsely : Prop := fnExactTopRow.holds Tryz.pinned (OpenSpec.ofChange fnExactTopWrong)

/-- 'laws.FnExactCovered': WHATEVER THE INPUT: true; the input reads as it did. -/
def fnExactCoveredSpec : ChangeSpec := { name := "fnExactCovered", fn := fun _ => fun
  | [d1, d2, d3, d4] => { results := [.lit (.bool true)], args := [d1, d2, d3, d4] }
  | _ => none }
def fnExactCoveredRow : OpenClaim := { program := "ytioijfplbgpjpaagreat", sum := "6fefa7a3dacdca28876dbb1ea477712e250f71cb54b201b17f2aac3e4543d25e", func := "loop.example/g00489/laws.FnExactCovered", spec := "fnExactCovered", unfollowed := true, recurses := true, apart := false }
def FnExactCoveredSaid : Prop := fnExactCoveredRow.holds Tryz.pinned (OpenSpec.ofChange fnExactCoveredSpec)

/-- ITS FALSE NEIGHBOUR: 'it returns false'. Refute it at one input. -/
def fnExactCoveredWrong : ChangeSpec := { name := "fnExactCovered", fn := fun _ => fun
  | [d1, d2, d3, d4] => { results := [.lit (.bool false)], args := [d1, d2, d3, d4] }
  | _ => none }
def FnExactCoveredWrongFalsely : Prop := fnExactCoveredRow.holds Tryz.pinned (OpenSpec.ofChange fnExactCoveredWrong)

/-- 'laws.FnExactHeights': WHATEVER THE INPUT: true; the input reads as it did. -/
def fnExactHeightsSpec : ChangeSpec := { name := "fnExactHeights", fn := fun _ => fun
  | [d1, d2, d3] => { results := [.lit (.bool true)], args := [d1, d2, d3] }
  | _ => none }
def fnExactHeightsRow : OpenClaim := { program := "ytioijfplbgpjpaagreat", sum := "6fefa7a3dacdca28876dbb1ea477712e250f71cb54b201b17f2aac3e4543d25e", func := "loop.example/g00489/laws.FnExactHeights", spec := "fnExactHeights", unfollowed := true, recurses := true, apart := false }
def FnExactHeightsSaid : Prop := fnExactHeightsRow.holds Tryz.pinned (OpenSpec.ofChange fnExactHeightsSpec)

/-- ITS FALSE NEIGHBOUR: 'it returns false'. Refute it at one input. -/
def fnExactHeightsWrong : ChangeSpec := { name := "fnExactHeights", fn := fun _ => fun
  | [d1, d2, d3] => { results := [.lit (.bool false)], args := [d1, d2, d3] }
  | _ => none }
def FnExactHeightsWrongFalsely : Prop := fnExactHeightsRow.holds Tryz.pinned (OpenSpec.ofChange fnExactHeightsWrong)

/-- 'laws.FnExactBeneath': WHATEVER THE INPUT: true; the input reads as it did. -/
def fnExactBeneathSpec : ChangeSpec := { name := "fnExactBeneath", fn := fun _ => fun
  | [d1, d2, d3] => { results := [.lit (.bool true)], args := [d1, d2, d3] }
  | _ => none }
def fnExactBeneathRow : OpenClaim := { program := "ytioijfplbgpjpaagreat", sum := "6fefa7a3dacdca28876dbb1ea477712e250f71cb54b201b17f2aac3e4543d25e", func := "loop.example/g00489/laws.FnExactBeneath", spec := "fnExactBeneath", unfollowed := true, recurses := true, apart := false }
def FnExactBeneathSaid : Prop := fnExactBeneathRow.holds Tryz.pinned (OpenSpec.ofChange fnExactBeneathSpec)

/-- ITS FALSE NEIGHBOUR: 'it returns false'. Refute it at one input. -/
def fnExactBeneathWrong : ChangeSpec := { name := "fnExactBeneath", fn := fun _ => fun
  | [d1, d2, d3] => { results := [.lit (.bool false)], args := [d1, d2, d3] }
  | _ => none }
def FnExactBeneathWrongFalsely : Prop := fnExactBeneathRow.holds Tryz.pinned (OpenSpec.ofChange fnExactBeneathWrong)

/-- 'laws.FnExactPicture': WHATEVER THE INPUT: true; the input reads as it did. -/
def fnExactPictureSpec : ChangeSpec := { name := "fnExactPicture", fn := fun _ => fun
  | [d1, d2, d3, d4] => { results := [.lit (.bool true)], args := [d1, d2, d3, d4] }
  | _ => none }
def fnExactPictureRow : OpenClaim := { program := "ytioijfplbgpjpaagreat", sum := "6fefa7a3dacdca28876dbb1ea477712e250f71cb54b201b17f2aac3e4543d25e", func := "loop.example/g00489/laws.FnExactPicture", spec := "fnExactPicture", unfollowed := true, recurses := true, apart := false }
def FnExactPictureSaid : Prop := fnExactPictureRow.holds Tryz.pinned (OpenSpec.ofChange fnExactPictureSpec)

/-- ITS FALSE NEIGHBOUR: 'it returns false'. Refute it at one input. -/
def fnExactPictureWrong : ChangeSpec := { name := "fnExactPicture", fn := fun _ => fun
  | [d1, d2, d3, d4] => { results := [.lit (.bool false)], args := [d1, d2, d3, d4] }
  | _ => none }
def FnExactPictureWrongFalsely : Prop := fnExactPictureRow.holds Tryz.pinned (OpenSpec.ofChange fnExactPictureWrong)

/-- 'laws.FnMoved': WHATEVER THE INPUT: true; the input reads as it did. -/
def fnMovedSpec : ChangeSpec := { name := "fnMoved", fn := fun _ => fun
  | [d] => { results := [.lit (.bool true)], args := [d] }
  | _ => none }
def fnMovedRow : OpenClaim := { program := "ytioijfplbgpjpaagreat", sum := "6fefa7a3dacdca28876dbb1ea477712e250f71cb54b201b17f2aac3e4543d25e", func := "loop.example/g00489/laws.FnMoved", spec := "fnMoved", unfollowed := true, recurses := true, apart := false }
def FnMovedSaid : Prop := fnMovedRow.holds Tryz.pinned (OpenSpec.ofChange fnMovedSpec)

/-- ITS FALSE NEIGHBOUR: 'it returns false'. Refute it at one input. -/
def fnMovedWrong : ChangeSpec := { name := "fnMoved", fn := fun _ => fun
  | [d] => { results := [.lit (.bool false)], args := [d] }
  | _ => none }
def FnMovedWrongFalsely : Prop := fnMovedRow.holds Tryz.pinned (OpenSpec.ofChange fnMovedWrong)

/-- 'laws.FnBeneath': WHATEVER THE INPUT: true; the input reads as it did. -/
def fnBeneathSpec : ChangeSpec := { name := "fnBeneath", fn := fun _ => fun
  | [d] => { results := [.lit (.bool true)], args := [d] }
  | _ => none }
def fnBeneathRow : OpenClaim := { program := "ytioijfplbgpjpaagreat", sum := "6fefa7a3dacdca28876dbb1ea477712e250f71cb54b201b17f2aac3e4543d25e", func := "loop.example/g00489/laws.FnBeneath", spec := "fnBeneath", unfollowed := true, recurses := true, apart := false }
def FnBeneathSaid : Prop := fnBeneathRow.holds Tryz.pinned (OpenSpec.ofChange fnBeneathSpec)

/-- ITS FALSE NEIGHBOUR: 'it returns false'. Refute it at one input. -/
def fnBeneathWrong : ChangeSpec := { name := "fnBeneath", fn := fun _ => fun
  | [d] => { results := [.lit (.bool false)], args := [d] }
  | _ => none }
def FnBeneathWrongFalsely : Prop := fnBeneathRow.holds Tryz.pinned (OpenSpec.ofChange fnBeneathWrong)

/-- 'laws.FnPictures': WHATEVER THE INPUT: true; the input reads as it did. -/
def fnPicturesSpec : ChangeSpec := { name := "fnPictures", fn := fun _ => fun
  | [d] => { results := [.lit (.bool true)], args := [d] }
  | _ => none }
def fnPicturesRow : OpenClaim := { program := "ytioijfplbgpjpaagreat", sum := "6fefa7a3dacdca28876dbb1ea477712e250f71cb54b201b17f2aac3e4543d25e", func := "loop.example/g00489/laws.FnPictures", spec := "fnPictures", unfollowed := true, recurses := true, apart := false }
def FnPicturesSaid : Prop := fnPicturesRow.holds Tryz.pinned (OpenSpec.ofChange fnPicturesSpec)

/-- ITS FALSE NEIGHBOUR: 'it returns false'. Refute it at one input. -/
def fnPicturesWrong : ChangeSpec := { name := "fnPictures", fn := fun _ => fun
  | [d] => { results := [.lit (.bool false)], args := [d] }
  | _ => none }
def FnPicturesWrongFalsely : Prop := fnPicturesRow.holds Tryz.pinned (OpenSpec.ofChange fnPicturesWrong)

/-- 'laws.FnMirrorPictures': WHATEVER THE INPUT: true; the input reads as it did. -/
def fnMirrorPicturesSpec : ChangeSpec := { name := "fnMirrorPictures", fn := fun _ => fun
  | [d] => { results := [.lit (.bool true)], args := [d] }
  | _ => none }
def fnMirrorPicturesRow : OpenClaim := { program := "ytioijfplbgpjpaagreat", sum := "6fefa7a3dacdca28876dbb1ea477712e250f71cb54b201b17f2aac3e4543d25e", func := "loop.example/g00489/laws.FnMirrorPictures", spec := "fnMirrorPictures", unfollowed := true, recurses := true, apart := false }
def FnMirrorPicturesSaid : Prop := fnMirrorPicturesRow.holds Tryz.pinned (OpenSpec.ofChange fnMirrorPicturesSpec)

/-- ITS FALSE NEIGHBOUR: 'it returns false'. Refute it at one input. -/
def fnMirrorPicturesWrong : ChangeSpec := { name := "fnMirrorPictures", fn := fun _ => fun
  | [d] => { results := [.lit (.bool false)], args := [d] }
  | _ => none }
def FnMirrorPicturesWrongFalsely : Prop := fnMirrorPicturesRow.holds Tryz.pinned (OpenSpec.ofChange fnMirrorPicturesWrong)

/-- 'laws.FnLostFound': WHATEVER THE INPUT: true; the input reads as it did. -/
def fnLostFoundSpec : ChangeSpec := { name := "fnLostFound", fn := fun _ => fun
  | [d] => { results := [.lit (.bool true)], args := [d] }
  | _ => none }
def fnLostFoundRow : OpenClaim := { program := "ytioijfplbgpjpaagreat", sum := "6fefa7a3dacdca28876dbb1ea477712e250f71cb54b201b17f2aac3e4543d25e", func := "loop.example/g00489/laws.FnLostFound", spec := "fnLostFound", unfollowed := true, recurses := true, apart := false }
def FnLostFoundSaid : Prop := fnLostFoundRow.holds Tryz.pinned (OpenSpec.ofChange fnLostFoundSpec)

/-- ITS FALSE NEIGHBOUR: 'it returns false'. Refute it at one input. -/
def fnLostFoundWrong : ChangeSpec := { name := "fnLostFound", fn := fun _ => fun
  | [d] => { results := [.lit (.bool false)], args := [d] }
  | _ => none }
def FnLostFoundWrongFalsely : Prop := fnLostFoundRow.holds Tryz.pinned (OpenSpec.ofChange fnLostFoundWrong)

/-- 'laws.FnTops': WHATEVER THE INPUT: true; the input reads as it did. -/
def fnTopsSpec : ChangeSpec := { name := "fnTops", fn := fun _ => fun
  | [d] => { results := [.lit (.bool true)], args := [d] }
  | _ => none }
def fnTopsRow : OpenClaim := { program := "ytioijfplbgpjpaagreat", sum := "6fefa7a3dacdca28876dbb1ea477712e250f71cb54b201b17f2aac3e4543d25e", func := "loop.example/g00489/laws.FnTops", spec := "fnTops", unfollowed := true, recurses := true, apart := false }
def FnTopsSaid : Prop := fnTopsRow.holds Tryz.pinned (OpenSpec.ofChange fnTopsSpec)

/-- ITS FALSE NEIGHBOUR: 'it returns false'. Refute it at one input. -/
def fnTopsWrong : ChangeSpec := { name := "fnTops", fn := fun _ => fun
  | [d] => { results := [.lit (.bool false)], args := [d] }
  | _ => none }
def FnTopsWrongFalsely : Prop := fnTopsRow.holds Tryz.pinned (OpenSpec.ofChange fnTopsWrong)

/-- 'laws.FnFound': WHATEVER THE INPUT: true; the input reads as it did. -/
def fnFoundSpec : ChangeSpec := { name := "fnFound", fn := fun _ => fun
  | [d] => { results := [.lit (.bool true)], args := [d] }
  | _ => none }
def fnFoundRow : OpenClaim := { program := "ytioijfplbgpjpaagreat", sum := "6fefa7a3dacdca28876dbb1ea477712e250f71cb54b201b17f2aac3e4543d25e", func := "loop.example/g00489/laws.FnFound", spec := "fnFound", unfollowed := true, recurses := true, apart := false }
def FnFoundSaid : Prop := fnFoundRow.holds Tryz.pinned (OpenSpec.ofChange fnFoundSpec)

/-- ITS FALSE NEIGHBOUR: 'it returns false'. Refute it at one input. -/
def fnFoundWrong : ChangeSpec := { name := "fnFound", fn := fun _ => fun
  | [d] => { results := [.lit (.bool false)], args := [d] }
  | _ => none }
def FnFoundWrongFalsely : Prop := fnFoundRow.holds Tryz.pinned (OpenSpec.ofChange fnFoundWrong)

/-- 'laws.FnHeights': WHATEVER THE INPUT: true; the input reads as it did. -/
def fnHeightsSpec : ChangeSpec := { name := "fnHeights", fn := fun _ => fun
  | [d] => { results := [.lit (.bool true)], args := [d] }
  | _ => none }
def fnHeightsRow : OpenClaim := { program := "ytioijfplbgpjpaagreat", sum := "6fefa7a3dacdca28876dbb1ea477712e250f71cb54b201b17f2aac3e4543d25e", func := "loop.example/g00489/laws.FnHeights", spec := "fnHeights", unfollowed := true, recurses := true, apart := false }
def FnHeightsSaid : Prop := fnHeightsRow.holds Tryz.pinned (OpenSpec.ofChange fnHeightsSpec)

/-- ITS FALSE NEIGHBOUR: 'it returns false'. Refute it at one input. -/
def fnHeightsWrong : ChangeSpec := { name := "fnHeights", fn := fun _ => fun
  | [d] => { results := [.lit (.bool false)], args := [d] }
  | _ => none }
def FnHeightsWrongFalsely : Prop := fnHeightsRow.holds Tryz.pinned (OpenSpec.ofChange fnHeightsWrong)

/-- 'laws.FnCoveredAll': WHATEVER THE INPUT: true; the input reads as it did. -/
def fnCoveredAllSpec : ChangeSpec := { name := "fnCoveredAll", fn := fun _ => fun
  | [d] => { results := [.lit (.bool true)], args := [d] }
  | _ => none }
def fnCoveredAllRow : OpenClaim := { program := "ytioijfplbgpjpaagreat", sum := "6fefa7a3dacdca28876dbb1ea477712e250f71cb54b201b17f2aac3e4543d25e", func := "loop.example/g00489/laws.FnCoveredAll", spec := "fnCoveredAll", unfollowed := true, recurses := true, apart := false }
def FnCoveredAllSaid : Prop := fnCoveredAllRow.holds Tryz.pinned (OpenSpec.ofChange fnCoveredAllSpec)

/-- ITS FALSE NEIGHBOUR: 'it returns false'. Refute it at one input. -/
def fnCoveredAllWrong : ChangeSpec := { name := "fnCoveredAll", fn := fun _ => fun
  | [d] => { results := [.lit (.bool false)], args := [d] }
  | _ => none }
def FnCoveredAllWrongFalsely : Prop := fnCoveredAllRow.holds Tryz.pinned (OpenSpec.ofChange fnCoveredAllWrong)

/-- 'laws.FnSwapped': WHATEVER THE INPUT: true; the input reads as it did. -/
def fnSwappedSpec : ChangeSpec := { name := "fnSwapped", fn := fun _ => fun
  | [d] => { results := [.lit (.bool true)], args := [d] }
  | _ => none }
def fnSwappedRow : OpenClaim := { program := "ytioijfplbgpjpaagreat", sum := "6fefa7a3dacdca28876dbb1ea477712e250f71cb54b201b17f2aac3e4543d25e", func := "loop.example/g00489/laws.FnSwapped", spec := "fnSwapped", unfollowed := true, recurses := true, apart := false }
def FnSwappedSaid : Prop := fnSwappedRow.holds Tryz.pinned (OpenSpec.ofChange fnSwappedSpec)

/-- ITS FALSE NEIGHBOUR: 'it returns false'. Refute it at one input. -/
def fnSwappedWrong : ChangeSpec := { name := "fnSwapped", fn := fun _ => fun
  | [d] => { results := [.lit (.bool false)], args := [d] }
  | _ => none }
def FnSwappedWrongFalsely : Prop := fnSwappedRow.holds Tryz.pinned (OpenSpec.ofChange fnSwappedWrong)

/-- 'laws.FnTopPallets': WHATEVER THE INPUT: true; the input reads as it did. -/
def fnTopPalletsSpec : ChangeSpec := { name := "fnTopPallets", fn := fun _ => fun
  | [d] => { results := [.lit (.bool true)], args := [d] }
  | _ => none }
def fnTopPalletsRow : OpenClaim := { program := "ytioijfplbgpjpaagreat", sum := "6fefa7a3dacdca28876dbb1ea477712e250f71cb54b201b17f2aac3e4543d25e", func := "loop.example/g00489/laws.FnTopPallets", spec := "fnTopPallets", unfollowed := true, recurses := true, apart := false }
def FnTopPalletsSaid : Prop := fnTopPalletsRow.holds Tryz.pinned (OpenSpec.ofChange fnTopPalletsSpec)

/-- ITS FALSE NEIGHBOUR: 'it returns false'. Refute it at one input. -/
def fnTopPalletsWrong : ChangeSpec := { name := "fnTopPallets", fn := fun _ => fun
  | [d] => { results := [.lit (.bool false)], args := [d] }
  | _ => none }
def FnTopPalletsWrongFalsely : Prop := fnTopPalletsRow.holds Tryz.pinned (OpenSpec.ofChange fnTopPalletsWrong)

/- THE SECOND FORM. 'bulk': how many values and letters a reading holds, each counted each time it is reached (what is shared counts as often as it is met; a slice's spare places count too). A statement '..UptoSaid' is the law's where the arguments, and the package variables that the reading takes, are together of bulk at most 1048576: NARROWER than '..Said'. Prove '..Said' where nothing that the law and all that it calls make is longer than what came in: it says more and counts as full. Else prove '..UptoSaid'. A law counts once. -/
mutual
def uptoBulk {H : Type} : DataW H → Nat
  | .lit (.string bytes) => bytes.length + 1
  | .lit _ => 1
  | .nil => 1
  | .ptr d => uptoBulk d + 1
  | .slice elems spare => uptoBulkAll elems + uptoBulkAll spare + 1
  | .agg parts => uptoBulkAll parts + 1
  | .iface _ d => uptoBulk d + 1
  | .map entries => uptoBulkEntries entries + 1
  | .held _ => 1
def uptoBulkAll {H : Type} : List (DataW H) → Nat
  | [] => 0
  | d :: r => uptoBulk d + uptoBulkAll r
def uptoBulkEntries {H : Type} : List (Lit × DataW H) → Nat
  | [] => 0
  | x :: r => uptoBulkEntry x + uptoBulkEntries r
def uptoBulkEntry {H : Type} : Lit × DataW H → Nat
  | (.string bytes, d) => bytes.length + uptoBulk d + 1
  | (_, d) => uptoBulk d + 1
 end
def uptoSmall : (H : Type) → List (DataW H) → Bool := fun _ ds => decide (uptoBulkAll ds ≤ 1048576)
def OpenSpec.upto (s : _root_.Go.ChangeSpec) : _root_.Go.OpenSpec := { _root_.Go.OpenSpec.ofChange s with cond := some uptoSmall }

/-- 'laws.FnExactTop', WHERE WHAT IT READS IS OF BULK AT MOST 1048576: true; the input reads as it did. -/
def fnExactTopUptoRow : OpenClaim := { program := "ytioijfplbgpjpaagreat", sum := "6fefa7a3dacdca28876dbb1ea477712e250f71cb54b201b17f2aac3e4543d25e", func := "loop.example/g00489/laws.FnExactTop", spec := "fnExactTop", unfollowed := true, recurses := true, apart := false, narrowed := true }
def FnExactTopUptoSaid : Prop := fnExactTopUptoRow.holds Tryz.pinned (OpenSpec.upto fnExactTopSpec)

/-- 'laws.FnExactCovered', WHERE WHAT IT READS IS OF BULK AT MOST 1048576: true; the input reads as it did. -/
def fnExactCoveredUptoRow : OpenClaim := { program := "ytioijfplbgpjpaagreat", sum := "6fefa7a3dacdca28876dbb1ea477712e250f71cb54b201b17f2aac3e4543d25e", func := "loop.example/g00489/laws.FnExactCovered", spec := "fnExactCovered", unfollowed := true, recurses := true, apart := false, narrowed := true }
def FnExactCoveredUptoSaid : Prop := fnExactCoveredUptoRow.holds Tryz.pinned (OpenSpec.upto fnExactCoveredSpec)

/-- 'laws.FnExactHeights', WHERE WHAT IT READS IS OF BULK AT MOST 1048576: true; the input reads as it did. -/
def fnExactHeightsUptoRow : OpenClaim := { program := "ytioijfplbgpjpaagreat", sum := "6fefa7a3dacdca28876dbb1ea477712e250f71cb54b201b17f2aac3e4543d25e", func := "loop.example/g00489/laws.FnExactHeights", spec := "fnExactHeights", unfollowed := true, recurses := true, apart := false, narrowed := true }
def FnExactHeightsUptoSaid : Prop := fnExactHeightsUptoRow.holds Tryz.pinned (OpenSpec.upto fnExactHeightsSpec)

/-- 'laws.FnExactBeneath', WHERE WHAT IT READS IS OF BULK AT MOST 1048576: true; the input reads as it did. -/
def fnExactBeneathUptoRow : OpenClaim := { program := "ytioijfplbgpjpaagreat", sum := "6fefa7a3dacdca28876dbb1ea477712e250f71cb54b201b17f2aac3e4543d25e", func := "loop.example/g00489/laws.FnExactBeneath", spec := "fnExactBeneath", unfollowed := true, recurses := true, apart := false, narrowed := true }
def FnExactBeneathUptoSaid : Prop := fnExactBeneathUptoRow.holds Tryz.pinned (OpenSpec.upto fnExactBeneathSpec)

/-- 'laws.FnExactPicture', WHERE WHAT IT READS IS OF BULK AT MOST 1048576: true; the input reads as it did. -/
def fnExactPictureUptoRow : OpenClaim := { program := "ytioijfplbgpjpaagreat", sum := "6fefa7a3dacdca28876dbb1ea477712e250f71cb54b201b17f2aac3e4543d25e", func := "loop.example/g00489/laws.FnExactPicture", spec := "fnExactPicture", unfollowed := true, recurses := true, apart := false, narrowed := true }
def FnExactPictureUptoSaid : Prop := fnExactPictureUptoRow.holds Tryz.pinned (OpenSpec.upto fnExactPictureSpec)

/-- 'laws.FnMoved', WHERE WHAT IT READS IS OF BULK AT MOST 1048576: true; the input reads as it did. -/
def fnMovedUptoRow : OpenClaim := { program := "ytioijfplbgpjpaagreat", sum := "6fefa7a3dacdca28876dbb1ea477712e250f71cb54b201b17f2aac3e4543d25e", func := "loop.example/g00489/laws.FnMoved", spec := "fnMoved", unfollowed := true, recurses := true, apart := false, narrowed := true }
def FnMovedUptoSaid : Prop := fnMovedUptoRow.holds Tryz.pinned (OpenSpec.upto fnMovedSpec)

/-- 'laws.FnBeneath', WHERE WHAT IT READS IS OF BULK AT MOST 1048576: true; the input reads as it did. -/
def fnBeneathUptoRow : OpenClaim := { program := "ytioijfplbgpjpaagreat", sum := "6fefa7a3dacdca28876dbb1ea477712e250f71cb54b201b17f2aac3e4543d25e", func := "loop.example/g00489/laws.FnBeneath", spec := "fnBeneath", unfollowed := true, recurses := true, apart := false, narrowed := true }
def FnBeneathUptoSaid : Prop := fnBeneathUptoRow.holds Tryz.pinned (OpenSpec.upto fnBeneathSpec)

/-- 'laws.FnPictures', WHERE WHAT IT READS IS OF BULK AT MOST 1048576: true; the input reads as it did. -/
def fnPicturesUptoRow : OpenClaim := { program := "ytioijfplbgpjpaagreat", sum := "6fefa7a3dacdca28876dbb1ea477712e250f71cb54b201b17f2aac3e4543d25e", func := "loop.example/g00489/laws.FnPictures", spec := "fnPictures", unfollowed := true, recurses := true, apart := false, narrowed := true }
def FnPicturesUptoSaid : Prop := fnPicturesUptoRow.holds Tryz.pinned (OpenSpec.upto fnPicturesSpec)

/-- 'laws.FnMirrorPictures', WHERE WHAT IT READS IS OF BULK AT MOST 1048576: true; the input reads as it did. -/
def fnMirrorPicturesUptoRow : OpenClaim := { program := "ytioijfplbgpjpaagreat", sum := "6fefa7a3dacdca28876dbb1ea477712e250f71cb54b201b17f2aac3e4543d25e", func := "loop.example/g00489/laws.FnMirrorPictures", spec := "fnMirrorPictures", unfollowed := true, recurses := true, apart := false, narrowed := true }
def FnMirrorPicturesUptoSaid : Prop := fnMirrorPicturesUptoRow.holds Tryz.pinned (OpenSpec.upto fnMirrorPicturesSpec)

/-- 'laws.FnLostFound', WHERE WHAT IT READS IS OF BULK AT MOST 1048576: true; the input reads as it did. -/
def fnLostFoundUptoRow : OpenClaim := { program := "ytioijfplbgpjpaagreat", sum := "6fefa7a3dacdca28876dbb1ea477712e250f71cb54b201b17f2aac3e4543d25e", func := "loop.example/g00489/laws.FnLostFound", spec := "fnLostFound", unfollowed := true, recurses := true, apart := false, narrowed := true }
def FnLostFoundUptoSaid : Prop := fnLostFoundUptoRow.holds Tryz.pinned (OpenSpec.upto fnLostFoundSpec)

/-- 'laws.FnTops', WHERE WHAT IT READS IS OF BULK AT MOST 1048576: true; the input reads as it did. -/
def fnTopsUptoRow : OpenClaim := { program := "ytioijfplbgpjpaagreat", sum := "6fefa7a3dacdca28876dbb1ea477712e250f71cb54b201b17f2aac3e4543d25e", func := "loop.example/g00489/laws.FnTops", spec := "fnTops", unfollowed := true, recurses := true, apart := false, narrowed := true }
def FnTopsUptoSaid : Prop := fnTopsUptoRow.holds Tryz.pinned (OpenSpec.upto fnTopsSpec)

/-- 'laws.FnFound', WHERE WHAT IT READS IS OF BULK AT MOST 1048576: true; the input reads as it did. -/
def fnFoundUptoRow : OpenClaim := { program := "ytioijfplbgpjpaagreat", sum := "6fefa7a3dacdca28876dbb1ea477712e250f71cb54b201b17f2aac3e4543d25e", func := "loop.example/g00489/laws.FnFound", spec := "fnFound", unfollowed := true, recurses := true, apart := false, narrowed := true }
def FnFoundUptoSaid : Prop := fnFoundUptoRow.holds Tryz.pinned (OpenSpec.upto fnFoundSpec)

/-- 'laws.FnHeights', WHERE WHAT IT READS IS OF BULK AT MOST 1048576: true; the input reads as it did. -/
def fnHeightsUptoRow : OpenClaim := { program := "ytioijfplbgpjpaagreat", sum := "6fefa7a3dacdca28876dbb1ea477712e250f71cb54b201b17f2aac3e4543d25e", func := "loop.example/g00489/laws.FnHeights", spec := "fnHeights", unfollowed := true, recurses := true, apart := false, narrowed := true }
def FnHeightsUptoSaid : Prop := fnHeightsUptoRow.holds Tryz.pinned (OpenSpec.upto fnHeightsSpec)

/-- 'laws.FnCoveredAll', WHERE WHAT IT READS IS OF BULK AT MOST 1048576: true; the input reads as it did. -/
def fnCoveredAllUptoRow : OpenClaim := { program := "ytioijfplbgpjpaagreat", sum := "6fefa7a3dacdca28876dbb1ea477712e250f71cb54b201b17f2aac3e4543d25e", func := "loop.example/g00489/laws.FnCoveredAll", spec := "fnCoveredAll", unfollowed := true, recurses := true, apart := false, narrowed := true }
def FnCoveredAllUptoSaid : Prop := fnCoveredAllUptoRow.holds Tryz.pinned (OpenSpec.upto fnCoveredAllSpec)

/-- 'laws.FnSwapped', WHERE WHAT IT READS IS OF BULK AT MOST 1048576: true; the input reads as it did. -/
def fnSwappedUptoRow : OpenClaim := { program := "ytioijfplbgpjpaagreat", sum := "6fefa7a3dacdca28876dbb1ea477712e250f71cb54b201b17f2aac3e4543d25e", func := "loop.example/g00489/laws.FnSwapped", spec := "fnSwapped", unfollowed := true, recurses := true, apart := false, narrowed := true }
def FnSwappedUptoSaid : Prop := fnSwappedUptoRow.holds Tryz.pinned (OpenSpec.upto fnSwappedSpec)

/-- 'laws.FnTopPallets', WHERE WHAT IT READS IS OF BULK AT MOST 1048576: true; the input reads as it did. -/
def fnTopPalletsUptoRow : OpenClaim := { program := "ytioijfplbgpjpaagreat", sum := "6fefa7a3dacdca28876dbb1ea477712e250f71cb54b201b17f2aac3e4543d25e", func := "loop.example/g00489/laws.FnTopPallets", spec := "fnTopPallets", unfollowed := true, recurses := true, apart := false, narrowed := true }
def FnTopPalletsUptoSaid : Prop := fnTopPalletsUptoRow.holds Tryz.pinned (OpenSpec.upto fnTopPalletsSpec)

end Rows
end Go.Proofs.YtioijfplbgpjpaaGreat
