/-
  DERIVED. GIVEN WITH THE SEED: THE CARDS: each row of YtgmccafmopgjaaaDoorRows.lean that lists a variable, with what it lists TIED to the program's text (the seventh form; the later family's looks); each row that meets fmt, with fmt's text TOLD by the authors' own Lean function (tested against real Go, not proved from fmt's source: count such statements apart). THE CARD IS WHAT COUNTS. Prove the row's statement (the work); the ties are given (YtgmccafmopgjaaaDoorTie.lean); close each card by the builder's one call (the guide's Derived/Test/ToyasCard.lean, 'card_holds'). Laid BY PROGRAM, IN A SANDBOX (cutbox-door.mjs). By AI agents, Wed Nov 11 2026. No macro, syntax, notation, axiom, sorry.
-/
import Derived.Test.YtgmccafmopgjaaaDoorRows
import GoSem.ClaimSeven
namespace Go.Proofs.YtgmccafmopgjaaaDoor
namespace Rows

/-- THE TIED CARD OF 'laws.FnExactParseEvent'. -/
def fnExactParseEventCard : Claim7 := { stood := { row := fnExactParseEventRow, standIns := [], harness := (true, "87a154386769f934143c53cf9509b511810da2dd5da0a6020c0f00a2ea4048b6"), looks := true }, kinds := [], alts := [], laidByText := true, laidKinds := [.data, .data, .data, .data, .sentinel, .sentinel, .widerDeep, .pinned], laidTests := true, laidLooks := .later }
def FnExactParseEventCardSaid : Prop := Claim7.holds Tryd.pinned (.plain (OpenSpec.ofChange fnExactParseEventSpec)) fnExactParseEventCard

/-- THE TIED CARD OF 'laws.FnExactParseScript'. -/
def fnExactParseScriptCard : Claim7 := { stood := { row := fnExactParseScriptRow, standIns := [], harness := (true, "87a154386769f934143c53cf9509b511810da2dd5da0a6020c0f00a2ea4048b6"), looks := true }, kinds := [], alts := [], laidByText := true, laidKinds := [.data, .data, .data, .data, .sentinel, .sentinel, .data, .pinned], laidTests := true, laidLooks := .later }
def FnExactParseScriptCardSaid : Prop := Claim7.holds Tryd.pinned (.plain (OpenSpec.ofChange fnExactParseScriptSpec)) fnExactParseScriptCard

/-- THE SECOND FORM's CARD OF 'laws.FnExactParseEvent'. -/
def fnExactParseEventUptoCard : Claim7 := { stood := { row := fnExactParseEventUptoRow, standIns := [], harness := (true, "87a154386769f934143c53cf9509b511810da2dd5da0a6020c0f00a2ea4048b6"), looks := true }, kinds := [], alts := [], laidByText := true, laidKinds := [.data, .data, .data, .data, .sentinel, .sentinel, .widerDeep, .pinned], laidTests := true, laidLooks := .later }
def FnExactParseEventUptoCardSaid : Prop := Claim7.holds Tryd.pinned (.plain (OpenSpec.upto fnExactParseEventSpec)) fnExactParseEventUptoCard

/-- THE SECOND FORM's CARD OF 'laws.FnExactParseScript'. -/
def fnExactParseScriptUptoCard : Claim7 := { stood := { row := fnExactParseScriptUptoRow, standIns := [], harness := (true, "87a154386769f934143c53cf9509b511810da2dd5da0a6020c0f00a2ea4048b6"), looks := true }, kinds := [], alts := [], laidByText := true, laidKinds := [.data, .data, .data, .data, .sentinel, .sentinel, .data, .pinned], laidTests := true, laidLooks := .later }
def FnExactParseScriptUptoCardSaid : Prop := Claim7.holds Tryd.pinned (.plain (OpenSpec.upto fnExactParseScriptSpec)) fnExactParseScriptUptoCard
end Rows
end Go.Proofs.YtgmccafmopgjaaaDoor
