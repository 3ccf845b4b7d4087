/-
  DERIVED. GIVEN WITH THE SEED: THE CARDS: each row of YtfkbehoelbhdoaaDoorRows.lean that lists a variable, with what it lists TIED to the program's text (the seventh form; the later family's looks); each row that meets fmt, with fmt's text TOLD by the authors' own Lean function (tested against real Go, not proved from fmt's source: count such statements apart). THE CARD IS WHAT COUNTS. Prove the row's statement (the work); the ties are given (YtfkbehoelbhdoaaDoorTie.lean); close each card by the builder's one call (the guide's Derived/Test/ToyasCard.lean, 'card_holds'). Laid BY PROGRAM, IN A SANDBOX (cutbox-door.mjs). By AI agents, Wed Nov 11 2026. No macro, syntax, notation, axiom, sorry.
-/
import Derived.Test.YtfkbehoelbhdoaaDoorRows
import GoSem.ClaimSeven
namespace Go.Proofs.YtfkbehoelbhdoaaDoor
namespace Rows

/-- THE TIED CARD OF 'laws.FnExactIsScript'. -/
def fnExactIsScriptCard : Claim7 := { stood := { row := fnExactIsScriptRow, standIns := [], harness := (true, "c52078fd10a3efe492465174bb63ef865915d4a6f960f43f7fa802d80d030b5a"), looks := true }, kinds := [], alts := [], laidByText := true, laidKinds := [.data, .pinned], laidTests := true, laidLooks := .later }
def FnExactIsScriptCardSaid : Prop := Claim7.holds Tryd.pinned (.plain (OpenSpec.ofChange fnExactIsScriptSpec)) fnExactIsScriptCard

/-- THE TIED CARD OF 'laws.FnExactFirstDifference'. -/
def fnExactFirstDifferenceCard : Claim7 := { stood := { row := fnExactFirstDifferenceRow, standIns := [], harness := (true, "c52078fd10a3efe492465174bb63ef865915d4a6f960f43f7fa802d80d030b5a"), looks := true }, kinds := [], alts := [], laidByText := true, laidKinds := [.data, .pinned], laidTests := true, laidLooks := .later }
def FnExactFirstDifferenceCardSaid : Prop := Claim7.holds Tryd.pinned (.plain (OpenSpec.ofChange fnExactFirstDifferenceSpec)) fnExactFirstDifferenceCard

/-- THE TIED CARD OF 'laws.FnExactCountSteps'. -/
def fnExactCountStepsCard : Claim7 := { stood := { row := fnExactCountStepsRow, standIns := [], harness := (true, "c52078fd10a3efe492465174bb63ef865915d4a6f960f43f7fa802d80d030b5a"), looks := true }, kinds := [], alts := [], laidByText := true, laidKinds := [.data, .pinned], laidTests := true, laidLooks := .later }
def FnExactCountStepsCardSaid : Prop := Claim7.holds Tryd.pinned (.plain (OpenSpec.ofChange fnExactCountStepsSpec)) fnExactCountStepsCard

/-- THE TIED CARD OF 'laws.FnExactSentItems'. -/
def fnExactSentItemsCard : Claim7 := { stood := { row := fnExactSentItemsRow, standIns := [], harness := (true, "c52078fd10a3efe492465174bb63ef865915d4a6f960f43f7fa802d80d030b5a"), looks := true }, kinds := [], alts := [], laidByText := true, laidKinds := [.data, .pinned], laidTests := true, laidLooks := .later }
def FnExactSentItemsCardSaid : Prop := Claim7.holds Tryd.pinned (.plain (OpenSpec.ofChange fnExactSentItemsSpec)) fnExactSentItemsCard

/-- THE TIED CARD OF 'laws.FnExactCalmScript'. -/
def fnExactCalmScriptCard : Claim7 := { stood := { row := fnExactCalmScriptRow, standIns := [], harness := (true, "c52078fd10a3efe492465174bb63ef865915d4a6f960f43f7fa802d80d030b5a"), looks := true }, kinds := [], alts := [], laidByText := true, laidKinds := [.data, .pinned], laidTests := true, laidLooks := .later }
def FnExactCalmScriptCardSaid : Prop := Claim7.holds Tryd.pinned (.plain (OpenSpec.ofChange fnExactCalmScriptSpec)) fnExactCalmScriptCard

/-- THE TIED CARD OF 'laws.FnExactRepeatScript'. -/
def fnExactRepeatScriptCard : Claim7 := { stood := { row := fnExactRepeatScriptRow, standIns := [], harness := (true, "c52078fd10a3efe492465174bb63ef865915d4a6f960f43f7fa802d80d030b5a"), looks := true }, kinds := [], alts := [], laidByText := true, laidKinds := [.data, .pinned], laidTests := true, laidLooks := .later }
def FnExactRepeatScriptCardSaid : Prop := Claim7.holds Tryd.pinned (.plain (OpenSpec.ofChange fnExactRepeatScriptSpec)) fnExactRepeatScriptCard

/-- THE TIED CARD OF 'laws.FnExactStepText'. -/
def fnExactStepTextCard : Claim7 := { stood := { row := fnExactStepTextRow, standIns := [], harness := (true, "c52078fd10a3efe492465174bb63ef865915d4a6f960f43f7fa802d80d030b5a"), looks := true }, kinds := [], alts := [], laidByText := true, laidKinds := [.data, .data, .data, .data, .data, .pinned], laidTests := true, laidLooks := .later }
def FnExactStepTextCardSaid : Prop := Claim7.holds Tryd.pinned (.plain (OpenSpec.ofChange fnExactStepTextSpec)) fnExactStepTextCard

/-- THE TIED CARD OF 'laws.FnScriptParts'. -/
def fnScriptPartsCard : Claim7 := { stood := { row := fnScriptPartsRow, standIns := [], harness := (true, "c52078fd10a3efe492465174bb63ef865915d4a6f960f43f7fa802d80d030b5a"), looks := true }, kinds := [], alts := [], laidByText := true, laidKinds := [.data, .pinned], laidTests := true, laidLooks := .later }
def FnScriptPartsCardSaid : Prop := Claim7.holds Tryd.pinned (.plain (OpenSpec.ofChange fnScriptPartsSpec)) fnScriptPartsCard

/-- THE TIED CARD OF 'laws.FnExactScriptText'. -/
def fnExactScriptTextCard : Claim7 := { stood := { row := fnExactScriptTextRow, standIns := [], harness := (true, "c52078fd10a3efe492465174bb63ef865915d4a6f960f43f7fa802d80d030b5a"), looks := true }, kinds := [], alts := [], laidByText := true, laidKinds := [.data, .data, .data, .data, .data, .pinned], laidTests := true, laidLooks := .later }
def FnExactScriptTextCardSaid : Prop := Claim7.holds Tryd.pinned (.plain (OpenSpec.ofChange fnExactScriptTextSpec)) fnExactScriptTextCard

/-- THE TIED CARD OF 'laws.FnExactParseStep'. -/
def fnExactParseStepCard : Claim7 := { stood := { row := fnExactParseStepRow, standIns := [], harness := (true, "c52078fd10a3efe492465174bb63ef865915d4a6f960f43f7fa802d80d030b5a"), looks := true }, kinds := [], alts := [], laidByText := true, laidKinds := [.data, .data, .data, .data, .sentinel, .sentinel, .data, .pinned], laidTests := true, laidLooks := .later }
def FnExactParseStepCardSaid : Prop := Claim7.holds Tryd.pinned (.plain (OpenSpec.ofChange fnExactParseStepSpec)) fnExactParseStepCard

/-- THE TIED CARD OF 'laws.FnExactParseScript'. -/
def fnExactParseScriptCard : Claim7 := { stood := { row := fnExactParseScriptRow, standIns := [], harness := (true, "c52078fd10a3efe492465174bb63ef865915d4a6f960f43f7fa802d80d030b5a"), looks := true }, kinds := [], alts := [], laidByText := true, laidKinds := [.data, .data, .data, .data, .sentinel, .sentinel, .data, .pinned], laidTests := true, laidLooks := .later }
def FnExactParseScriptCardSaid : Prop := Claim7.holds Tryd.pinned (.plain (OpenSpec.ofChange fnExactParseScriptSpec)) fnExactParseScriptCard

/-- THE SECOND FORM's CARD OF 'laws.FnExactIsScript'. -/
def fnExactIsScriptUptoCard : Claim7 := { stood := { row := fnExactIsScriptUptoRow, standIns := [], harness := (true, "c52078fd10a3efe492465174bb63ef865915d4a6f960f43f7fa802d80d030b5a"), looks := true }, kinds := [], alts := [], laidByText := true, laidKinds := [.data, .pinned], laidTests := true, laidLooks := .later }
def FnExactIsScriptUptoCardSaid : Prop := Claim7.holds Tryd.pinned (.plain (OpenSpec.upto fnExactIsScriptSpec)) fnExactIsScriptUptoCard

/-- THE SECOND FORM's CARD OF 'laws.FnExactFirstDifference'. -/
def fnExactFirstDifferenceUptoCard : Claim7 := { stood := { row := fnExactFirstDifferenceUptoRow, standIns := [], harness := (true, "c52078fd10a3efe492465174bb63ef865915d4a6f960f43f7fa802d80d030b5a"), looks := true }, kinds := [], alts := [], laidByText := true, laidKinds := [.data, .pinned], laidTests := true, laidLooks := .later }
def FnExactFirstDifferenceUptoCardSaid : Prop := Claim7.holds Tryd.pinned (.plain (OpenSpec.upto fnExactFirstDifferenceSpec)) fnExactFirstDifferenceUptoCard

/-- THE SECOND FORM's CARD OF 'laws.FnExactCountSteps'. -/
def fnExactCountStepsUptoCard : Claim7 := { stood := { row := fnExactCountStepsUptoRow, standIns := [], harness := (true, "c52078fd10a3efe492465174bb63ef865915d4a6f960f43f7fa802d80d030b5a"), looks := true }, kinds := [], alts := [], laidByText := true, laidKinds := [.data, .pinned], laidTests := true, laidLooks := .later }
def FnExactCountStepsUptoCardSaid : Prop := Claim7.holds Tryd.pinned (.plain (OpenSpec.upto fnExactCountStepsSpec)) fnExactCountStepsUptoCard

/-- THE SECOND FORM's CARD OF 'laws.FnExactSentItems'. -/
def fnExactSentItemsUptoCard : Claim7 := { stood := { row := fnExactSentItemsUptoRow, standIns := [], harness := (true, "c52078fd10a3efe492465174bb63ef865915d4a6f960f43f7fa802d80d030b5a"), looks := true }, kinds := [], alts := [], laidByText := true, laidKinds := [.data, .pinned], laidTests := true, laidLooks := .later }
def FnExactSentItemsUptoCardSaid : Prop := Claim7.holds Tryd.pinned (.plain (OpenSpec.upto fnExactSentItemsSpec)) fnExactSentItemsUptoCard

/-- THE SECOND FORM's CARD OF 'laws.FnExactCalmScript'. -/
def fnExactCalmScriptUptoCard : Claim7 := { stood := { row := fnExactCalmScriptUptoRow, standIns := [], harness := (true, "c52078fd10a3efe492465174bb63ef865915d4a6f960f43f7fa802d80d030b5a"), looks := true }, kinds := [], alts := [], laidByText := true, laidKinds := [.data, .pinned], laidTests := true, laidLooks := .later }
def FnExactCalmScriptUptoCardSaid : Prop := Claim7.holds Tryd.pinned (.plain (OpenSpec.upto fnExactCalmScriptSpec)) fnExactCalmScriptUptoCard

/-- THE SECOND FORM's CARD OF 'laws.FnExactRepeatScript'. -/
def fnExactRepeatScriptUptoCard : Claim7 := { stood := { row := fnExactRepeatScriptUptoRow, standIns := [], harness := (true, "c52078fd10a3efe492465174bb63ef865915d4a6f960f43f7fa802d80d030b5a"), looks := true }, kinds := [], alts := [], laidByText := true, laidKinds := [.data, .pinned], laidTests := true, laidLooks := .later }
def FnExactRepeatScriptUptoCardSaid : Prop := Claim7.holds Tryd.pinned (.plain (OpenSpec.upto fnExactRepeatScriptSpec)) fnExactRepeatScriptUptoCard

/-- THE SECOND FORM's CARD OF 'laws.FnExactStepText'. -/
def fnExactStepTextUptoCard : Claim7 := { stood := { row := fnExactStepTextUptoRow, standIns := [], harness := (true, "c52078fd10a3efe492465174bb63ef865915d4a6f960f43f7fa802d80d030b5a"), looks := true }, kinds := [], alts := [], laidByText := true, laidKinds := [.data, .data, .data, .data, .data, .pinned], laidTests := true, laidLooks := .later }
def FnExactStepTextUptoCardSaid : Prop := Claim7.holds Tryd.pinned (.plain (OpenSpec.upto fnExactStepTextSpec)) fnExactStepTextUptoCard

/-- THE SECOND FORM's CARD OF 'laws.FnScriptParts'. -/
def fnScriptPartsUptoCard : Claim7 := { stood := { row := fnScriptPartsUptoRow, standIns := [], harness := (true, "c52078fd10a3efe492465174bb63ef865915d4a6f960f43f7fa802d80d030b5a"), looks := true }, kinds := [], alts := [], laidByText := true, laidKinds := [.data, .pinned], laidTests := true, laidLooks := .later }
def FnScriptPartsUptoCardSaid : Prop := Claim7.holds Tryd.pinned (.plain (OpenSpec.upto fnScriptPartsSpec)) fnScriptPartsUptoCard

/-- THE SECOND FORM's CARD OF 'laws.FnExactScriptText'. -/
def fnExactScriptTextUptoCard : Claim7 := { stood := { row := fnExactScriptTextUptoRow, standIns := [], harness := (true, "c52078fd10a3efe492465174bb63ef865915d4a6f960f43f7fa802d80d030b5a"), looks := true }, kinds := [], alts := [], laidByText := true, laidKinds := [.data, .data, .data, .data, .data, .pinned], laidTests := true, laidLooks := .later }
def FnExactScriptTextUptoCardSaid : Prop := Claim7.holds Tryd.pinned (.plain (OpenSpec.upto fnExactScriptTextSpec)) fnExactScriptTextUptoCard

/-- THE SECOND FORM's CARD OF 'laws.FnExactParseStep'. -/
def fnExactParseStepUptoCard : Claim7 := { stood := { row := fnExactParseStepUptoRow, standIns := [], harness := (true, "c52078fd10a3efe492465174bb63ef865915d4a6f960f43f7fa802d80d030b5a"), looks := true }, kinds := [], alts := [], laidByText := true, laidKinds := [.data, .data, .data, .data, .sentinel, .sentinel, .data, .pinned], laidTests := true, laidLooks := .later }
def FnExactParseStepUptoCardSaid : Prop := Claim7.holds Tryd.pinned (.plain (OpenSpec.upto fnExactParseStepSpec)) fnExactParseStepUptoCard

/-- THE SECOND FORM's CARD OF 'laws.FnExactParseScript'. -/
def fnExactParseScriptUptoCard : Claim7 := { stood := { row := fnExactParseScriptUptoRow, standIns := [], harness := (true, "c52078fd10a3efe492465174bb63ef865915d4a6f960f43f7fa802d80d030b5a"), looks := true }, kinds := [], alts := [], laidByText := true, laidKinds := [.data, .data, .data, .data, .sentinel, .sentinel, .data, .pinned], laidTests := true, laidLooks := .later }
def FnExactParseScriptUptoCardSaid : Prop := Claim7.holds Tryd.pinned (.plain (OpenSpec.upto fnExactParseScriptSpec)) fnExactParseScriptUptoCard
end Rows
end Go.Proofs.YtfkbehoelbhdoaaDoor
