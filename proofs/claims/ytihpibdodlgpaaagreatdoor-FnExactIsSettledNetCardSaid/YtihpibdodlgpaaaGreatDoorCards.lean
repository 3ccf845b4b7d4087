/-
  DERIVED. GIVEN WITH THE SEED: THE CARDS: each row of YtihpibdodlgpaaaGreatDoorRows.lean that lists a variable, with what it lists TIED to the program's text (the seventh form; the later family's looks); each row that meets fmt, with fmt's text TOLD by the authors' own Lean function (tested against real Go, not proved from fmt's source: count such statements apart). THE CARD IS WHAT COUNTS. Prove the row's statement (the work); the ties are given (YtihpibdodlgpaaaGreatDoorTie.lean); close each card by the builder's one call (the guide's Derived/Test/ToyasCard.lean, 'card_holds'). Laid BY PROGRAM, IN A SANDBOX (cutbox-door.mjs). By AI agents, Wed Nov 11 2026. No macro, syntax, notation, axiom, sorry.
-/
import Derived.Test.YtihpibdodlgpaaaGreatDoorRows
import GoSem.ClaimSeven
namespace Go.Proofs.YtihpibdodlgpaaaGreatDoor
namespace Rows

/-- THE TIED CARD OF 'laws.FnExactQueuedPackets'. -/
def fnExactQueuedPacketsCard : Claim7 := { stood := { row := fnExactQueuedPacketsRow, standIns := [], harness := (true, "21801cc5bfe0fae01931cd36ba142a7e9a66c077fb9abf33348430f646f336d0"), looks := false }, kinds := [], alts := [], laidByText := true, laidKinds := [.data, .pinned], laidTests := true, laidLooks := .later }
def FnExactQueuedPacketsCardSaid : Prop := Claim7.holds Tryz.pinned (.plain (OpenSpec.ofChange fnExactQueuedPacketsSpec)) fnExactQueuedPacketsCard

/-- THE TIED CARD OF 'laws.FnExactIsSettledNet'. -/
def fnExactIsSettledNetCard : Claim7 := { stood := { row := fnExactIsSettledNetRow, standIns := [], harness := (true, "21801cc5bfe0fae01931cd36ba142a7e9a66c077fb9abf33348430f646f336d0"), looks := false }, kinds := [], alts := [], laidByText := true, laidKinds := [.data, .pinned], laidTests := true, laidLooks := .later }
def FnExactIsSettledNetCardSaid : Prop := Claim7.holds Tryz.pinned (.plain (OpenSpec.ofChange fnExactIsSettledNetSpec)) fnExactIsSettledNetCard

/-- THE SECOND FORM's CARD OF 'laws.FnExactQueuedPackets'. -/
def fnExactQueuedPacketsUptoCard : Claim7 := { stood := { row := fnExactQueuedPacketsUptoRow, standIns := [], harness := (true, "21801cc5bfe0fae01931cd36ba142a7e9a66c077fb9abf33348430f646f336d0"), looks := false }, kinds := [], alts := [], laidByText := true, laidKinds := [.data, .pinned], laidTests := true, laidLooks := .later }
def FnExactQueuedPacketsUptoCardSaid : Prop := Claim7.holds Tryz.pinned (.plain (OpenSpec.upto fnExactQueuedPacketsSpec)) fnExactQueuedPacketsUptoCard

/-- THE SECOND FORM's CARD OF 'laws.FnExactIsSettledNet'. -/
def fnExactIsSettledNetUptoCard : Claim7 := { stood := { row := fnExactIsSettledNetUptoRow, standIns := [], harness := (true, "21801cc5bfe0fae01931cd36ba142a7e9a66c077fb9abf33348430f646f336d0"), looks := false }, kinds := [], alts := [], laidByText := true, laidKinds := [.data, .pinned], laidTests := true, laidLooks := .later }
def FnExactIsSettledNetUptoCardSaid : Prop := Claim7.holds Tryz.pinned (.plain (OpenSpec.upto fnExactIsSettledNetSpec)) fnExactIsSettledNetUptoCard
end Rows
end Go.Proofs.YtihpibdodlgpaaaGreatDoor
