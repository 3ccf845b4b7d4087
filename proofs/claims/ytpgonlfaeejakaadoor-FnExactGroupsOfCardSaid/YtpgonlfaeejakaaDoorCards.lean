/-
  DERIVED. GIVEN WITH THE SEED: THE CARDS: each row of YtpgonlfaeejakaaDoorRows.lean that lists a variable, with what it lists TIED to the program's text (the seventh form; the later family's looks); each row that meets fmt, with fmt's text TOLD by the authors' own Lean function (tested against real Go, not proved from fmt's source: count such statements apart). THE CARD IS WHAT COUNTS. Prove the row's statement (the work); the ties are given (YtpgonlfaeejakaaDoorTie.lean); close each card by the builder's one call (the guide's Derived/Test/ToyasCard.lean, 'card_holds'). Laid BY PROGRAM, IN A SANDBOX (cutbox-door.mjs). By AI agents, Wed Nov 11 2026. No macro, syntax, notation, axiom, sorry.
-/
import Derived.Test.YtpgonlfaeejakaaDoorRows
import GoSem.ClaimSeven
namespace Go.Proofs.YtpgonlfaeejakaaDoor
namespace Rows

/-- THE TIED CARD OF 'laws.FnExactIsGroupList'. -/
def fnExactIsGroupListCard : Claim7 := { stood := { row := fnExactIsGroupListRow, standIns := [], harness := (true, "b2e278ea30f74ce604f22276bfbd046353fa084e12326d4878d4f3e9c6e9a6a2"), looks := false }, kinds := [], alts := [], laidByText := true, laidKinds := [.data, .pinned], laidTests := true, laidLooks := .later }
def FnExactIsGroupListCardSaid : Prop := Claim7.holds Tryd.pinned (.plain (OpenSpec.ofChange fnExactIsGroupListSpec)) fnExactIsGroupListCard

/-- THE TIED CARD OF 'laws.FnExactGroupsOf'. -/
def fnExactGroupsOfCard : Claim7 := { stood := { row := fnExactGroupsOfRow, standIns := [], harness := (true, "b2e278ea30f74ce604f22276bfbd046353fa084e12326d4878d4f3e9c6e9a6a2"), looks := false }, kinds := [], alts := [], laidByText := true, laidKinds := [.data, .pinned], laidTests := true, laidLooks := .later }
def FnExactGroupsOfCardSaid : Prop := Claim7.holds Tryd.pinned (.plain (OpenSpec.ofChange fnExactGroupsOfSpec)) fnExactGroupsOfCard

/-- THE SECOND FORM's CARD OF 'laws.FnExactIsGroupList'. -/
def fnExactIsGroupListUptoCard : Claim7 := { stood := { row := fnExactIsGroupListUptoRow, standIns := [], harness := (true, "b2e278ea30f74ce604f22276bfbd046353fa084e12326d4878d4f3e9c6e9a6a2"), looks := false }, kinds := [], alts := [], laidByText := true, laidKinds := [.data, .pinned], laidTests := true, laidLooks := .later }
def FnExactIsGroupListUptoCardSaid : Prop := Claim7.holds Tryd.pinned (.plain (OpenSpec.upto fnExactIsGroupListSpec)) fnExactIsGroupListUptoCard

/-- THE SECOND FORM's CARD OF 'laws.FnExactGroupsOf'. -/
def fnExactGroupsOfUptoCard : Claim7 := { stood := { row := fnExactGroupsOfUptoRow, standIns := [], harness := (true, "b2e278ea30f74ce604f22276bfbd046353fa084e12326d4878d4f3e9c6e9a6a2"), looks := false }, kinds := [], alts := [], laidByText := true, laidKinds := [.data, .pinned], laidTests := true, laidLooks := .later }
def FnExactGroupsOfUptoCardSaid : Prop := Claim7.holds Tryd.pinned (.plain (OpenSpec.upto fnExactGroupsOfSpec)) fnExactGroupsOfUptoCard
end Rows
end Go.Proofs.YtpgonlfaeejakaaDoor
