/-
  DERIVED. GIVEN WITH THE SEED: THE CARDS: each row of YtjmokahibcbjlaaDoorRows.lean that lists a variable, with what it lists TIED to the program's text (the seventh form; the later family's looks); each row that meets fmt, with fmt's text TOLD by the authors' own Lean function (tested against real Go, not proved from fmt's source: count such statements apart). THE CARD IS WHAT COUNTS. Prove the row's statement (the work); the ties are given (YtjmokahibcbjlaaDoorTie.lean); close each card by the builder's one call (the guide's Derived/Test/ToyasCard.lean, 'card_holds'). Laid BY PROGRAM, IN A SANDBOX (cutbox-door.mjs). By AI agents, Wed Nov 11 2026. No macro, syntax, notation, axiom, sorry.
-/
import Derived.Test.YtjmokahibcbjlaaDoorRows
import GoSem.ClaimSeven
namespace Go.Proofs.YtjmokahibcbjlaaDoor
namespace Rows

/-- THE TIED CARD OF 'laws.FnExactBillText'. -/
def fnExactBillTextCard : Claim7 := { stood := { row := fnExactBillTextRow, standIns := [], harness := (true, "099bc7dec6e23a133dc867879e8037314282f0610f147501b3b822e614543ef9"), looks := false }, kinds := [], alts := [], laidByText := true, laidKinds := [.data, .data, .data], laidTests := true, laidLooks := .later }
def FnExactBillTextCardSaid : Prop := Claim7.holds Tryd.pinned (.plain (OpenSpec.ofChange fnExactBillTextSpec)) fnExactBillTextCard

/-- THE TIED CARD OF 'laws.FnExactLabelOf'. -/
def fnExactLabelOfCard : Claim7 := { stood := { row := fnExactLabelOfRow, standIns := [], harness := (true, "099bc7dec6e23a133dc867879e8037314282f0610f147501b3b822e614543ef9"), looks := false }, kinds := [], alts := [], laidByText := true, laidKinds := [.data, .data, .data], laidTests := true, laidLooks := .later }
def FnExactLabelOfCardSaid : Prop := Claim7.holds Tryd.pinned (.plain (OpenSpec.ofChange fnExactLabelOfSpec)) fnExactLabelOfCard

/-- THE SECOND FORM's CARD OF 'laws.FnExactBillText'. -/
def fnExactBillTextUptoCard : Claim7 := { stood := { row := fnExactBillTextUptoRow, standIns := [], harness := (true, "099bc7dec6e23a133dc867879e8037314282f0610f147501b3b822e614543ef9"), looks := false }, kinds := [], alts := [], laidByText := true, laidKinds := [.data, .data, .data], laidTests := true, laidLooks := .later }
def FnExactBillTextUptoCardSaid : Prop := Claim7.holds Tryd.pinned (.plain (OpenSpec.upto fnExactBillTextSpec)) fnExactBillTextUptoCard

/-- THE SECOND FORM's CARD OF 'laws.FnExactLabelOf'. -/
def fnExactLabelOfUptoCard : Claim7 := { stood := { row := fnExactLabelOfUptoRow, standIns := [], harness := (true, "099bc7dec6e23a133dc867879e8037314282f0610f147501b3b822e614543ef9"), looks := false }, kinds := [], alts := [], laidByText := true, laidKinds := [.data, .data, .data], laidTests := true, laidLooks := .later }
def FnExactLabelOfUptoCardSaid : Prop := Claim7.holds Tryd.pinned (.plain (OpenSpec.upto fnExactLabelOfSpec)) fnExactLabelOfUptoCard
end Rows
end Go.Proofs.YtjmokahibcbjlaaDoor
