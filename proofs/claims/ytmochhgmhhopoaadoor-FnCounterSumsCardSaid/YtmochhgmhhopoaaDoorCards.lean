/-
  DERIVED. GIVEN WITH THE SEED: THE CARDS: each row of YtmochhgmhhopoaaDoorRows.lean that lists a variable, with what it lists TIED to the program's text (the seventh form; the later family's looks); each row that meets fmt, with fmt's text TOLD by the authors' own Lean function (tested against real Go, not proved from fmt's source: count such statements apart). THE CARD IS WHAT COUNTS. Prove the row's statement (the work); the ties are given (YtmochhgmhhopoaaDoorTie.lean); close each card by the builder's one call (the guide's Derived/Test/ToyasCard.lean, 'card_holds'). Laid BY PROGRAM, IN A SANDBOX (cutbox-door.mjs). By AI agents, Wed Nov 11 2026. No macro, syntax, notation, axiom, sorry.
-/
import Derived.Test.YtmochhgmhhopoaaDoorRows
import GoSem.ClaimSeven
namespace Go.Proofs.YtmochhgmhhopoaaDoor
namespace Rows

/-- THE TIED CARD OF 'laws.FnExactIsCounterList'. -/
def fnExactIsCounterListCard : Claim7 := { stood := { row := fnExactIsCounterListRow, standIns := [], harness := (true, "ca4dcec4baead5c8d52aca805bf5c1b69473118e7bc7fb787bf66938e9406061"), looks := true }, kinds := [], alts := [], laidByText := true, laidKinds := [.data, .pinned], laidTests := true, laidLooks := .later }
def FnExactIsCounterListCardSaid : Prop := Claim7.holds Tryd.pinned (.plain (OpenSpec.ofChange fnExactIsCounterListSpec)) fnExactIsCounterListCard

/-- THE TIED CARD OF 'laws.FnExactTotalBelow'. -/
def fnExactTotalBelowCard : Claim7 := { stood := { row := fnExactTotalBelowRow, standIns := [], harness := (true, "ca4dcec4baead5c8d52aca805bf5c1b69473118e7bc7fb787bf66938e9406061"), looks := true }, kinds := [], alts := [], laidByText := true, laidKinds := [.data, .pinned], laidTests := true, laidLooks := .later }
def FnExactTotalBelowCardSaid : Prop := Claim7.holds Tryd.pinned (.plain (OpenSpec.ofChange fnExactTotalBelowSpec)) fnExactTotalBelowCard

/-- THE TIED CARD OF 'laws.FnExactCounterOf'. -/
def fnExactCounterOfCard : Claim7 := { stood := { row := fnExactCounterOfRow, standIns := [], harness := (true, "ca4dcec4baead5c8d52aca805bf5c1b69473118e7bc7fb787bf66938e9406061"), looks := true }, kinds := [], alts := [], laidByText := true, laidKinds := [.data, .pinned], laidTests := true, laidLooks := .later }
def FnExactCounterOfCardSaid : Prop := Claim7.holds Tryd.pinned (.plain (OpenSpec.ofChange fnExactCounterOfSpec)) fnExactCounterOfCard

/-- THE TIED CARD OF 'laws.FnExactDropBelow'. -/
def fnExactDropBelowCard : Claim7 := { stood := { row := fnExactDropBelowRow, standIns := [], harness := (true, "ca4dcec4baead5c8d52aca805bf5c1b69473118e7bc7fb787bf66938e9406061"), looks := true }, kinds := [], alts := [], laidByText := true, laidKinds := [.data, .pinned], laidTests := true, laidLooks := .later }
def FnExactDropBelowCardSaid : Prop := Claim7.holds Tryd.pinned (.plain (OpenSpec.ofChange fnExactDropBelowSpec)) fnExactDropBelowCard

/-- THE TIED CARD OF 'laws.FnExactCounterChanges'. -/
def fnExactCounterChangesCard : Claim7 := { stood := { row := fnExactCounterChangesRow, standIns := [], harness := (true, "ca4dcec4baead5c8d52aca805bf5c1b69473118e7bc7fb787bf66938e9406061"), looks := true }, kinds := [], alts := [], laidByText := true, laidKinds := [.data, .pinned], laidTests := true, laidLooks := .later }
def FnExactCounterChangesCardSaid : Prop := Claim7.holds Tryd.pinned (.plain (OpenSpec.ofChange fnExactCounterChangesSpec)) fnExactCounterChangesCard

/-- THE TIED CARD OF 'laws.FnExactBumpCounter'. -/
def fnExactBumpCounterCard : Claim7 := { stood := { row := fnExactBumpCounterRow, standIns := [], harness := (true, "ca4dcec4baead5c8d52aca805bf5c1b69473118e7bc7fb787bf66938e9406061"), looks := true }, kinds := [], alts := [], laidByText := true, laidKinds := [.data, .pinned], laidTests := true, laidLooks := .later }
def FnExactBumpCounterCardSaid : Prop := Claim7.holds Tryd.pinned (.plain (OpenSpec.ofChange fnExactBumpCounterSpec)) fnExactBumpCounterCard

/-- THE TIED CARD OF 'laws.FnExactAddCounters'. -/
def fnExactAddCountersCard : Claim7 := { stood := { row := fnExactAddCountersRow, standIns := [], harness := (true, "ca4dcec4baead5c8d52aca805bf5c1b69473118e7bc7fb787bf66938e9406061"), looks := true }, kinds := [], alts := [], laidByText := true, laidKinds := [.data, .pinned], laidTests := true, laidLooks := .later }
def FnExactAddCountersCardSaid : Prop := Claim7.holds Tryd.pinned (.plain (OpenSpec.ofChange fnExactAddCountersSpec)) fnExactAddCountersCard

/-- THE TIED CARD OF 'laws.FnExactTopCounters'. -/
def fnExactTopCountersCard : Claim7 := { stood := { row := fnExactTopCountersRow, standIns := [], harness := (true, "ca4dcec4baead5c8d52aca805bf5c1b69473118e7bc7fb787bf66938e9406061"), looks := true }, kinds := [], alts := [], laidByText := true, laidKinds := [.data, .pinned], laidTests := true, laidLooks := .later }
def FnExactTopCountersCardSaid : Prop := Claim7.holds Tryd.pinned (.plain (OpenSpec.ofChange fnExactTopCountersSpec)) fnExactTopCountersCard

/-- THE TIED CARD OF 'laws.FnExactCounterText'. -/
def fnExactCounterTextCard : Claim7 := { stood := { row := fnExactCounterTextRow, standIns := [], harness := (true, "ca4dcec4baead5c8d52aca805bf5c1b69473118e7bc7fb787bf66938e9406061"), looks := true }, kinds := [], alts := [], laidByText := true, laidKinds := [.data, .data, .data, .data, .pinned], laidTests := true, laidLooks := .later }
def FnExactCounterTextCardSaid : Prop := Claim7.holds Tryd.pinned (.plain (OpenSpec.ofChange fnExactCounterTextSpec)) fnExactCounterTextCard

/-- THE TIED CARD OF 'laws.FnExactParseCounters'. -/
def fnExactParseCountersCard : Claim7 := { stood := { row := fnExactParseCountersRow, standIns := [], harness := (true, "ca4dcec4baead5c8d52aca805bf5c1b69473118e7bc7fb787bf66938e9406061"), looks := true }, kinds := [], alts := [], laidByText := true, laidKinds := [.data, .data, .data, .data, .sentinel, .sentinel, .pinned], laidTests := true, laidLooks := .later }
def FnExactParseCountersCardSaid : Prop := Claim7.holds Tryd.pinned (.plain (OpenSpec.ofChange fnExactParseCountersSpec)) fnExactParseCountersCard

/-- THE TIED CARD OF 'laws.FnCounterSums'. -/
def fnCounterSumsCard : Claim7 := { stood := { row := fnCounterSumsRow, standIns := [], harness := (true, "ca4dcec4baead5c8d52aca805bf5c1b69473118e7bc7fb787bf66938e9406061"), looks := true }, kinds := [], alts := [], laidByText := true, laidKinds := [.data, .pinned], laidTests := true, laidLooks := .later }
def FnCounterSumsCardSaid : Prop := Claim7.holds Tryd.pinned (.plain (OpenSpec.ofChange fnCounterSumsSpec)) fnCounterSumsCard

/-- THE SECOND FORM's CARD OF 'laws.FnExactIsCounterList'. -/
def fnExactIsCounterListUptoCard : Claim7 := { stood := { row := fnExactIsCounterListUptoRow, standIns := [], harness := (true, "ca4dcec4baead5c8d52aca805bf5c1b69473118e7bc7fb787bf66938e9406061"), looks := true }, kinds := [], alts := [], laidByText := true, laidKinds := [.data, .pinned], laidTests := true, laidLooks := .later }
def FnExactIsCounterListUptoCardSaid : Prop := Claim7.holds Tryd.pinned (.plain (OpenSpec.upto fnExactIsCounterListSpec)) fnExactIsCounterListUptoCard

/-- THE SECOND FORM's CARD OF 'laws.FnExactTotalBelow'. -/
def fnExactTotalBelowUptoCard : Claim7 := { stood := { row := fnExactTotalBelowUptoRow, standIns := [], harness := (true, "ca4dcec4baead5c8d52aca805bf5c1b69473118e7bc7fb787bf66938e9406061"), looks := true }, kinds := [], alts := [], laidByText := true, laidKinds := [.data, .pinned], laidTests := true, laidLooks := .later }
def FnExactTotalBelowUptoCardSaid : Prop := Claim7.holds Tryd.pinned (.plain (OpenSpec.upto fnExactTotalBelowSpec)) fnExactTotalBelowUptoCard

/-- THE SECOND FORM's CARD OF 'laws.FnExactCounterOf'. -/
def fnExactCounterOfUptoCard : Claim7 := { stood := { row := fnExactCounterOfUptoRow, standIns := [], harness := (true, "ca4dcec4baead5c8d52aca805bf5c1b69473118e7bc7fb787bf66938e9406061"), looks := true }, kinds := [], alts := [], laidByText := true, laidKinds := [.data, .pinned], laidTests := true, laidLooks := .later }
def FnExactCounterOfUptoCardSaid : Prop := Claim7.holds Tryd.pinned (.plain (OpenSpec.upto fnExactCounterOfSpec)) fnExactCounterOfUptoCard

/-- THE SECOND FORM's CARD OF 'laws.FnExactDropBelow'. -/
def fnExactDropBelowUptoCard : Claim7 := { stood := { row := fnExactDropBelowUptoRow, standIns := [], harness := (true, "ca4dcec4baead5c8d52aca805bf5c1b69473118e7bc7fb787bf66938e9406061"), looks := true }, kinds := [], alts := [], laidByText := true, laidKinds := [.data, .pinned], laidTests := true, laidLooks := .later }
def FnExactDropBelowUptoCardSaid : Prop := Claim7.holds Tryd.pinned (.plain (OpenSpec.upto fnExactDropBelowSpec)) fnExactDropBelowUptoCard

/-- THE SECOND FORM's CARD OF 'laws.FnExactCounterChanges'. -/
def fnExactCounterChangesUptoCard : Claim7 := { stood := { row := fnExactCounterChangesUptoRow, standIns := [], harness := (true, "ca4dcec4baead5c8d52aca805bf5c1b69473118e7bc7fb787bf66938e9406061"), looks := true }, kinds := [], alts := [], laidByText := true, laidKinds := [.data, .pinned], laidTests := true, laidLooks := .later }
def FnExactCounterChangesUptoCardSaid : Prop := Claim7.holds Tryd.pinned (.plain (OpenSpec.upto fnExactCounterChangesSpec)) fnExactCounterChangesUptoCard

/-- THE SECOND FORM's CARD OF 'laws.FnExactBumpCounter'. -/
def fnExactBumpCounterUptoCard : Claim7 := { stood := { row := fnExactBumpCounterUptoRow, standIns := [], harness := (true, "ca4dcec4baead5c8d52aca805bf5c1b69473118e7bc7fb787bf66938e9406061"), looks := true }, kinds := [], alts := [], laidByText := true, laidKinds := [.data, .pinned], laidTests := true, laidLooks := .later }
def FnExactBumpCounterUptoCardSaid : Prop := Claim7.holds Tryd.pinned (.plain (OpenSpec.upto fnExactBumpCounterSpec)) fnExactBumpCounterUptoCard

/-- THE SECOND FORM's CARD OF 'laws.FnExactAddCounters'. -/
def fnExactAddCountersUptoCard : Claim7 := { stood := { row := fnExactAddCountersUptoRow, standIns := [], harness := (true, "ca4dcec4baead5c8d52aca805bf5c1b69473118e7bc7fb787bf66938e9406061"), looks := true }, kinds := [], alts := [], laidByText := true, laidKinds := [.data, .pinned], laidTests := true, laidLooks := .later }
def FnExactAddCountersUptoCardSaid : Prop := Claim7.holds Tryd.pinned (.plain (OpenSpec.upto fnExactAddCountersSpec)) fnExactAddCountersUptoCard

/-- THE SECOND FORM's CARD OF 'laws.FnExactTopCounters'. -/
def fnExactTopCountersUptoCard : Claim7 := { stood := { row := fnExactTopCountersUptoRow, standIns := [], harness := (true, "ca4dcec4baead5c8d52aca805bf5c1b69473118e7bc7fb787bf66938e9406061"), looks := true }, kinds := [], alts := [], laidByText := true, laidKinds := [.data, .pinned], laidTests := true, laidLooks := .later }
def FnExactTopCountersUptoCardSaid : Prop := Claim7.holds Tryd.pinned (.plain (OpenSpec.upto fnExactTopCountersSpec)) fnExactTopCountersUptoCard

/-- THE SECOND FORM's CARD OF 'laws.FnExactCounterText'. -/
def fnExactCounterTextUptoCard : Claim7 := { stood := { row := fnExactCounterTextUptoRow, standIns := [], harness := (true, "ca4dcec4baead5c8d52aca805bf5c1b69473118e7bc7fb787bf66938e9406061"), looks := true }, kinds := [], alts := [], laidByText := true, laidKinds := [.data, .data, .data, .data, .pinned], laidTests := true, laidLooks := .later }
def FnExactCounterTextUptoCardSaid : Prop := Claim7.holds Tryd.pinned (.plain (OpenSpec.upto fnExactCounterTextSpec)) fnExactCounterTextUptoCard

/-- THE SECOND FORM's CARD OF 'laws.FnExactParseCounters'. -/
def fnExactParseCountersUptoCard : Claim7 := { stood := { row := fnExactParseCountersUptoRow, standIns := [], harness := (true, "ca4dcec4baead5c8d52aca805bf5c1b69473118e7bc7fb787bf66938e9406061"), looks := true }, kinds := [], alts := [], laidByText := true, laidKinds := [.data, .data, .data, .data, .sentinel, .sentinel, .pinned], laidTests := true, laidLooks := .later }
def FnExactParseCountersUptoCardSaid : Prop := Claim7.holds Tryd.pinned (.plain (OpenSpec.upto fnExactParseCountersSpec)) fnExactParseCountersUptoCard

/-- THE SECOND FORM's CARD OF 'laws.FnCounterSums'. -/
def fnCounterSumsUptoCard : Claim7 := { stood := { row := fnCounterSumsUptoRow, standIns := [], harness := (true, "ca4dcec4baead5c8d52aca805bf5c1b69473118e7bc7fb787bf66938e9406061"), looks := true }, kinds := [], alts := [], laidByText := true, laidKinds := [.data, .pinned], laidTests := true, laidLooks := .later }
def FnCounterSumsUptoCardSaid : Prop := Claim7.holds Tryd.pinned (.plain (OpenSpec.upto fnCounterSumsSpec)) fnCounterSumsUptoCard
end Rows
end Go.Proofs.YtmochhgmhhopoaaDoor
