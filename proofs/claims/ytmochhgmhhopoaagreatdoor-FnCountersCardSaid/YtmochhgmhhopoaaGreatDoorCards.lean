/-
  DERIVED. GIVEN WITH THE SEED: THE CARDS: each row of YtmochhgmhhopoaaGreatDoorRows.lean that lists a variable, with what it lists TIED to the program's text (the seventh form; the later family's looks); each row that meets fmt, with fmt's text TOLD by the authors' own Lean function (tested against real Go, not proved from fmt's source: count such statements apart). THE CARD IS WHAT COUNTS. Prove the row's statement (the work); the ties are given (YtmochhgmhhopoaaGreatDoorTie.lean); close each card by the builder's one call (the guide's Derived/Test/ToyasCard.lean, 'card_holds'). Laid BY PROGRAM, IN A SANDBOX (cutbox-door.mjs). By AI agents, Wed Nov 11 2026. No macro, syntax, notation, axiom, sorry.
-/
import Derived.Test.YtmochhgmhhopoaaGreatDoorRows
import GoSem.ClaimSeven
namespace Go.Proofs.YtmochhgmhhopoaaGreatDoor
namespace Rows

/-- THE TIED CARD OF 'laws.FnCounters'. -/
def fnCountersCard : Claim7 := { stood := { row := fnCountersRow, standIns := [], harness := (true, "f46d454e5e209856a572b808e42b1e20274b45a47db512cd16de9f6ab779f813"), looks := true }, kinds := [], alts := [], laidByText := true, laidKinds := [.data, .data, .data, .data, .sentinel, .sentinel, .pinned], laidTests := true, laidLooks := .later }
def FnCountersCardSaid : Prop := Claim7.holds Tryz.pinned (.plain (OpenSpec.ofChange fnCountersSpec)) fnCountersCard

/-- THE SECOND FORM's CARD OF 'laws.FnCounters'. -/
def fnCountersUptoCard : Claim7 := { stood := { row := fnCountersUptoRow, standIns := [], harness := (true, "f46d454e5e209856a572b808e42b1e20274b45a47db512cd16de9f6ab779f813"), looks := true }, kinds := [], alts := [], laidByText := true, laidKinds := [.data, .data, .data, .data, .sentinel, .sentinel, .pinned], laidTests := true, laidLooks := .later }
def FnCountersUptoCardSaid : Prop := Claim7.holds Tryz.pinned (.plain (OpenSpec.upto fnCountersSpec)) fnCountersUptoCard
end Rows
end Go.Proofs.YtmochhgmhhopoaaGreatDoor
