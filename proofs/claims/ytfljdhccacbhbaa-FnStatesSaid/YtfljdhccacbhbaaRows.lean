/-
  No cell of these rows narrows 'for every input' (looked for: loops, veiled, ifaces, maps, wideKeys, modest, calm, conditions, laid).
  DERIVED. THE GIVEN ROWS OF THIS SEAT. 11 by the template 'for every input the law returns true; each argument reads behind the call as it read before'; 0 by the template 'total and deterministic' (their statements: YtfljdhccacbhbaaTotals.lean).
  GIVEN WITH THE SEED: the statements are not yours to turn. If you find one false, say at which input.
  Laid BY PROGRAM, IN A SANDBOX (cutbox-rows.mjs): the forced cells as the released guide's own fill.sh prints them over the translation a1d4081542283149… (all of the seat's roots in one cut). By AI agents, Wed Nov 11 2026. No macro, syntax, notation, axiom, sorry.
-/
import Derived.Test.YtfljdhccacbhbaaChecked
import GoSem.Claim
import GoSem.ClaimJoined
import GoSem.ClaimMapViews
import Derived.JoinedTies
import Derived.KernelRfl
namespace Go.Proofs.Ytfljdhccacbhbaa
/- THE CELL 'sum', in the pinned program and in every row, IS THE sha256 OF THE DUMP (.gsa) THAT YtfljdhccacbhbaaProg.lean LOADS. Nothing in Lean hashes anything: it is a label: what it is worth is what the hold of that sum in a sandbox is worth. -/
noncomputable def Try.pinned : Pinned := { name := "ytfljdhccacbhbaa", sum := "a1d4081542283149c37cafc571c4233146ef8179e6c030734a6b739edba767d9", checked := Try.checked }
namespace Rows
def none {H : Type} : Left H := { results := [], args := [] }

/-- 'laws.FnExactNextState': WHATEVER THE INPUT: true; the input reads as it did. -/
def fnExactNextStateSpec : ChangeSpec := { name := "fnExactNextState", fn := fun _ => fun
  | [d] => { results := [.lit (.bool true)], args := [d] }
  | _ => none }
def fnExactNextStateRow : OpenClaim := { program := "ytfljdhccacbhbaa", sum := "a1d4081542283149c37cafc571c4233146ef8179e6c030734a6b739edba767d9", func := "loop.example/g00840/laws.FnExactNextState", spec := "fnExactNextState", apart := false }
def FnExactNextStateSaid : Prop := fnExactNextStateRow.holds Try.pinned (OpenSpec.ofChange fnExactNextStateSpec)

/-- ITS FALSE NEIGHBOUR: 'it returns false'. Refute it at one input. -/
def fnExactNextStateWrong : ChangeSpec := { name := "fnExactNextState", fn := fun _ => fun
  | [d] => { results := [.lit (.bool false)], args := [d] }
  | _ => none }
def FnExactNextStateWrongFalsely : Prop := fnExactNextStateRow.holds Try.pinned (OpenSpec.ofChange fnExactNextStateWrong)

/-- 'laws.FnExactRollBelow': WHATEVER THE INPUT: true; the input reads as it did. -/
def fnExactRollBelowSpec : ChangeSpec := { name := "fnExactRollBelow", fn := fun _ => fun
  | [d1, d2] => { results := [.lit (.bool true)], args := [d1, d2] }
  | _ => none }
def fnExactRollBelowRow : OpenClaim := { program := "ytfljdhccacbhbaa", sum := "a1d4081542283149c37cafc571c4233146ef8179e6c030734a6b739edba767d9", func := "loop.example/g00840/laws.FnExactRollBelow", spec := "fnExactRollBelow", apart := false }
def FnExactRollBelowSaid : Prop := fnExactRollBelowRow.holds Try.pinned (OpenSpec.ofChange fnExactRollBelowSpec)

/-- ITS FALSE NEIGHBOUR: 'it returns false'. Refute it at one input. -/
def fnExactRollBelowWrong : ChangeSpec := { name := "fnExactRollBelow", fn := fun _ => fun
  | [d1, d2] => { results := [.lit (.bool false)], args := [d1, d2] }
  | _ => none }
def FnExactRollBelowWrongFalsely : Prop := fnExactRollBelowRow.holds Try.pinned (OpenSpec.ofChange fnExactRollBelowWrong)

/-- 'laws.FnExactSkipStates': WHATEVER THE INPUT: true; the input reads as it did. -/
def fnExactSkipStatesSpec : ChangeSpec := { name := "fnExactSkipStates", fn := fun _ => fun
  | [d1, d2] => { results := [.lit (.bool true)], args := [d1, d2] }
  | _ => none }
def fnExactSkipStatesRow : OpenClaim := { program := "ytfljdhccacbhbaa", sum := "a1d4081542283149c37cafc571c4233146ef8179e6c030734a6b739edba767d9", func := "loop.example/g00840/laws.FnExactSkipStates", spec := "fnExactSkipStates", apart := false }
def FnExactSkipStatesSaid : Prop := fnExactSkipStatesRow.holds Try.pinned (OpenSpec.ofChange fnExactSkipStatesSpec)

/-- ITS FALSE NEIGHBOUR: 'it returns false'. Refute it at one input. -/
def fnExactSkipStatesWrong : ChangeSpec := { name := "fnExactSkipStates", fn := fun _ => fun
  | [d1, d2] => { results := [.lit (.bool false)], args := [d1, d2] }
  | _ => none }
def FnExactSkipStatesWrongFalsely : Prop := fnExactSkipStatesRow.holds Try.pinned (OpenSpec.ofChange fnExactSkipStatesWrong)

/-- 'laws.FnExactLastState': WHATEVER THE INPUT: true; the input reads as it did. -/
def fnExactLastStateSpec : ChangeSpec := { name := "fnExactLastState", fn := fun _ => fun
  | [d] => { results := [.lit (.bool true)], args := [d] }
  | _ => none }
def fnExactLastStateRow : OpenClaim := { program := "ytfljdhccacbhbaa", sum := "a1d4081542283149c37cafc571c4233146ef8179e6c030734a6b739edba767d9", func := "loop.example/g00840/laws.FnExactLastState", spec := "fnExactLastState", apart := false }
def FnExactLastStateSaid : Prop := fnExactLastStateRow.holds Try.pinned (OpenSpec.ofChange fnExactLastStateSpec)

/-- ITS FALSE NEIGHBOUR: 'it returns false'. Refute it at one input. -/
def fnExactLastStateWrong : ChangeSpec := { name := "fnExactLastState", fn := fun _ => fun
  | [d] => { results := [.lit (.bool false)], args := [d] }
  | _ => none }
def FnExactLastStateWrongFalsely : Prop := fnExactLastStateRow.holds Try.pinned (OpenSpec.ofChange fnExactLastStateWrong)

/-- 'laws.FnExactRollFates': WHATEVER THE INPUT: true; the input reads as it did. -/
def fnExactRollFatesSpec : ChangeSpec := { name := "fnExactRollFates", fn := fun _ => fun
  | [d1, d2, d3] => { results := [.lit (.bool true)], args := [d1, d2, d3] }
  | _ => none }
def fnExactRollFatesRow : OpenClaim := { program := "ytfljdhccacbhbaa", sum := "a1d4081542283149c37cafc571c4233146ef8179e6c030734a6b739edba767d9", func := "loop.example/g00840/laws.FnExactRollFates", spec := "fnExactRollFates", apart := false }
def FnExactRollFatesSaid : Prop := fnExactRollFatesRow.holds Try.pinned (OpenSpec.ofChange fnExactRollFatesSpec)

/-- ITS FALSE NEIGHBOUR: 'it returns false'. Refute it at one input. -/
def fnExactRollFatesWrong : ChangeSpec := { name := "fnExactRollFates", fn := fun _ => fun
  | [d1, d2, d3] => { results := [.lit (.bool false)], args := [d1, d2, d3] }
  | _ => none }
def FnExactRollFatesWrongFalsely : Prop := fnExactRollFatesRow.holds Try.pinned (OpenSpec.ofChange fnExactRollFatesWrong)

/-- 'laws.FnExactRollsBelow': WHATEVER THE INPUT: true; the input reads as it did. -/
def fnExactRollsBelowSpec : ChangeSpec := { name := "fnExactRollsBelow", fn := fun _ => fun
  | [d1, d2, d3] => { results := [.lit (.bool true)], args := [d1, d2, d3] }
  | _ => none }
def fnExactRollsBelowRow : OpenClaim := { program := "ytfljdhccacbhbaa", sum := "a1d4081542283149c37cafc571c4233146ef8179e6c030734a6b739edba767d9", func := "loop.example/g00840/laws.FnExactRollsBelow", spec := "fnExactRollsBelow", apart := false }
def FnExactRollsBelowSaid : Prop := fnExactRollsBelowRow.holds Try.pinned (OpenSpec.ofChange fnExactRollsBelowSpec)

/-- ITS FALSE NEIGHBOUR: 'it returns false'. Refute it at one input. -/
def fnExactRollsBelowWrong : ChangeSpec := { name := "fnExactRollsBelow", fn := fun _ => fun
  | [d1, d2, d3] => { results := [.lit (.bool false)], args := [d1, d2, d3] }
  | _ => none }
def FnExactRollsBelowWrongFalsely : Prop := fnExactRollsBelowRow.holds Try.pinned (OpenSpec.ofChange fnExactRollsBelowWrong)

/-- 'laws.FnExactPickWeighted': WHATEVER THE INPUT: true; the input reads as it did. -/
def fnExactPickWeightedSpec : ChangeSpec := { name := "fnExactPickWeighted", fn := fun _ => fun
  | [d1, d2] => { results := [.lit (.bool true)], args := [d1, d2] }
  | _ => none }
def fnExactPickWeightedRow : OpenClaim := { program := "ytfljdhccacbhbaa", sum := "a1d4081542283149c37cafc571c4233146ef8179e6c030734a6b739edba767d9", func := "loop.example/g00840/laws.FnExactPickWeighted", spec := "fnExactPickWeighted", apart := false }
def FnExactPickWeightedSaid : Prop := fnExactPickWeightedRow.holds Try.pinned (OpenSpec.ofChange fnExactPickWeightedSpec)

/-- ITS FALSE NEIGHBOUR: 'it returns false'. Refute it at one input. -/
def fnExactPickWeightedWrong : ChangeSpec := { name := "fnExactPickWeighted", fn := fun _ => fun
  | [d1, d2] => { results := [.lit (.bool false)], args := [d1, d2] }
  | _ => none }
def FnExactPickWeightedWrongFalsely : Prop := fnExactPickWeightedRow.holds Try.pinned (OpenSpec.ofChange fnExactPickWeightedWrong)

/-- 'laws.FnExactShuffleList': WHATEVER THE INPUT: true; the input reads as it did. -/
def fnExactShuffleListSpec : ChangeSpec := { name := "fnExactShuffleList", fn := fun _ => fun
  | [d1, d2] => { results := [.lit (.bool true)], args := [d1, d2] }
  | _ => none }
def fnExactShuffleListRow : OpenClaim := { program := "ytfljdhccacbhbaa", sum := "a1d4081542283149c37cafc571c4233146ef8179e6c030734a6b739edba767d9", func := "loop.example/g00840/laws.FnExactShuffleList", spec := "fnExactShuffleList", apart := false }
def FnExactShuffleListSaid : Prop := fnExactShuffleListRow.holds Try.pinned (OpenSpec.ofChange fnExactShuffleListSpec)

/-- ITS FALSE NEIGHBOUR: 'it returns false'. Refute it at one input. -/
def fnExactShuffleListWrong : ChangeSpec := { name := "fnExactShuffleList", fn := fun _ => fun
  | [d1, d2] => { results := [.lit (.bool false)], args := [d1, d2] }
  | _ => none }
def FnExactShuffleListWrongFalsely : Prop := fnExactShuffleListRow.holds Try.pinned (OpenSpec.ofChange fnExactShuffleListWrong)

/-- 'laws.FnStates': WHATEVER THE INPUT: true; the input reads as it did. -/
def fnStatesSpec : ChangeSpec := { name := "fnStates", fn := fun _ => fun
  | [d] => { results := [.lit (.bool true)], args := [d] }
  | _ => none }
def fnStatesRow : OpenClaim := { program := "ytfljdhccacbhbaa", sum := "a1d4081542283149c37cafc571c4233146ef8179e6c030734a6b739edba767d9", func := "loop.example/g00840/laws.FnStates", spec := "fnStates", apart := false }
def FnStatesSaid : Prop := fnStatesRow.holds Try.pinned (OpenSpec.ofChange fnStatesSpec)

/-- ITS FALSE NEIGHBOUR: 'it returns false'. Refute it at one input. -/
def fnStatesWrong : ChangeSpec := { name := "fnStates", fn := fun _ => fun
  | [d] => { results := [.lit (.bool false)], args := [d] }
  | _ => none }
def FnStatesWrongFalsely : Prop := fnStatesRow.holds Try.pinned (OpenSpec.ofChange fnStatesWrong)

/-- 'laws.FnExactSpreadTicks': WHATEVER THE INPUT: true; the input reads as it did. -/
def fnExactSpreadTicksSpec : ChangeSpec := { name := "fnExactSpreadTicks", fn := fun _ => fun
  | [d1, d2, d3, d4] => { results := [.lit (.bool true)], args := [d1, d2, d3, d4] }
  | _ => none }
def fnExactSpreadTicksRow : OpenClaim := { program := "ytfljdhccacbhbaa", sum := "a1d4081542283149c37cafc571c4233146ef8179e6c030734a6b739edba767d9", func := "loop.example/g00840/laws.FnExactSpreadTicks", spec := "fnExactSpreadTicks", recurses := true, apart := false }
def FnExactSpreadTicksSaid : Prop := fnExactSpreadTicksRow.holds Try.pinned (OpenSpec.ofChange fnExactSpreadTicksSpec)

/-- ITS FALSE NEIGHBOUR: 'it returns false'. Refute it at one input. -/
def fnExactSpreadTicksWrong : ChangeSpec := { name := "fnExactSpreadTicks", fn := fun _ => fun
  | [d1, d2, d3, d4] => { results := [.lit (.bool false)], args := [d1, d2, d3, d4] }
  | _ => none }
def FnExactSpreadTicksWrongFalsely : Prop := fnExactSpreadTicksRow.holds Try.pinned (OpenSpec.ofChange fnExactSpreadTicksWrong)

/-- 'laws.FnRandomLists': WHATEVER THE INPUT: true; the input reads as it did. -/
def fnRandomListsSpec : ChangeSpec := { name := "fnRandomLists", fn := fun _ => fun
  | [d] => { results := [.lit (.bool true)], args := [d] }
  | _ => none }
def fnRandomListsRow : OpenClaim := { program := "ytfljdhccacbhbaa", sum := "a1d4081542283149c37cafc571c4233146ef8179e6c030734a6b739edba767d9", func := "loop.example/g00840/laws.FnRandomLists", spec := "fnRandomLists", recurses := true, apart := false }
def FnRandomListsSaid : Prop := fnRandomListsRow.holds Try.pinned (OpenSpec.ofChange fnRandomListsSpec)

/-- ITS FALSE NEIGHBOUR: 'it returns false'. Refute it at one input. -/
def fnRandomListsWrong : ChangeSpec := { name := "fnRandomLists", fn := fun _ => fun
  | [d] => { results := [.lit (.bool false)], args := [d] }
  | _ => none }
def FnRandomListsWrongFalsely : Prop := fnRandomListsRow.holds Try.pinned (OpenSpec.ofChange fnRandomListsWrong)

/- THE SECOND FORM. 'bulk': how many values and letters a reading holds, each counted each time it is reached (what is shared counts as often as it is met; a slice's spare places count too). A statement '..UptoSaid' is the law's where the arguments, and the package variables that the reading takes, are together of bulk at most 1048576: NARROWER than '..Said'. Prove '..Said' where nothing that the law and all that it calls make is longer than what came in: it says more and counts as full. Else prove '..UptoSaid'. A law counts once. -/
mutual
def uptoBulk {H : Type} : DataW H → Nat
  | .lit (.string bytes) => bytes.length + 1
  | .lit _ => 1
  | .nil => 1
  | .ptr d => uptoBulk d + 1
  | .slice elems spare => uptoBulkAll elems + uptoBulkAll spare + 1
  | .agg parts => uptoBulkAll parts + 1
  | .iface _ d => uptoBulk d + 1
  | .map entries => uptoBulkEntries entries + 1
  | .held _ => 1
def uptoBulkAll {H : Type} : List (DataW H) → Nat
  | [] => 0
  | d :: r => uptoBulk d + uptoBulkAll r
def uptoBulkEntries {H : Type} : List (Lit × DataW H) → Nat
  | [] => 0
  | x :: r => uptoBulkEntry x + uptoBulkEntries r
def uptoBulkEntry {H : Type} : Lit × DataW H → Nat
  | (.string bytes, d) => bytes.length + uptoBulk d + 1
  | (_, d) => uptoBulk d + 1
 end
def uptoSmall : (H : Type) → List (DataW H) → Bool := fun _ ds => decide (uptoBulkAll ds ≤ 1048576)
def OpenSpec.upto (s : _root_.Go.ChangeSpec) : _root_.Go.OpenSpec := { _root_.Go.OpenSpec.ofChange s with cond := some uptoSmall }

/-- 'laws.FnExactNextState', WHERE WHAT IT READS IS OF BULK AT MOST 1048576: true; the input reads as it did. -/
def fnExactNextStateUptoRow : OpenClaim := { program := "ytfljdhccacbhbaa", sum := "a1d4081542283149c37cafc571c4233146ef8179e6c030734a6b739edba767d9", func := "loop.example/g00840/laws.FnExactNextState", spec := "fnExactNextState", apart := false, narrowed := true }
def FnExactNextStateUptoSaid : Prop := fnExactNextStateUptoRow.holds Try.pinned (OpenSpec.upto fnExactNextStateSpec)

/-- 'laws.FnExactRollBelow', WHERE WHAT IT READS IS OF BULK AT MOST 1048576: true; the input reads as it did. -/
def fnExactRollBelowUptoRow : OpenClaim := { program := "ytfljdhccacbhbaa", sum := "a1d4081542283149c37cafc571c4233146ef8179e6c030734a6b739edba767d9", func := "loop.example/g00840/laws.FnExactRollBelow", spec := "fnExactRollBelow", apart := false, narrowed := true }
def FnExactRollBelowUptoSaid : Prop := fnExactRollBelowUptoRow.holds Try.pinned (OpenSpec.upto fnExactRollBelowSpec)

/-- 'laws.FnExactSkipStates', WHERE WHAT IT READS IS OF BULK AT MOST 1048576: true; the input reads as it did. -/
def fnExactSkipStatesUptoRow : OpenClaim := { program := "ytfljdhccacbhbaa", sum := "a1d4081542283149c37cafc571c4233146ef8179e6c030734a6b739edba767d9", func := "loop.example/g00840/laws.FnExactSkipStates", spec := "fnExactSkipStates", apart := false, narrowed := true }
def FnExactSkipStatesUptoSaid : Prop := fnExactSkipStatesUptoRow.holds Try.pinned (OpenSpec.upto fnExactSkipStatesSpec)

/-- 'laws.FnExactLastState', WHERE WHAT IT READS IS OF BULK AT MOST 1048576: true; the input reads as it did. -/
def fnExactLastStateUptoRow : OpenClaim := { program := "ytfljdhccacbhbaa", sum := "a1d4081542283149c37cafc571c4233146ef8179e6c030734a6b739edba767d9", func := "loop.example/g00840/laws.FnExactLastState", spec := "fnExactLastState", apart := false, narrowed := true }
def FnExactLastStateUptoSaid : Prop := fnExactLastStateUptoRow.holds Try.pinned (OpenSpec.upto fnExactLastStateSpec)

/-- 'laws.FnExactRollFates', WHERE WHAT IT READS IS OF BULK AT MOST 1048576: true; the input reads as it did. -/
def fnExactRollFatesUptoRow : OpenClaim := { program := "ytfljdhccacbhbaa", sum := "a1d4081542283149c37cafc571c4233146ef8179e6c030734a6b739edba767d9", func := "loop.example/g00840/laws.FnExactRollFates", spec := "fnExactRollFates", apart := false, narrowed := true }
def FnExactRollFatesUptoSaid : Prop := fnExactRollFatesUptoRow.holds Try.pinned (OpenSpec.upto fnExactRollFatesSpec)

/-- 'laws.FnExactRollsBelow', WHERE WHAT IT READS IS OF BULK AT MOST 1048576: true; the input reads as it did. -/
def fnExactRollsBelowUptoRow : OpenClaim := { program := "ytfljdhccacbhbaa", sum := "a1d4081542283149c37cafc571c4233146ef8179e6c030734a6b739edba767d9", func := "loop.example/g00840/laws.FnExactRollsBelow", spec := "fnExactRollsBelow", apart := false, narrowed := true }
def FnExactRollsBelowUptoSaid : Prop := fnExactRollsBelowUptoRow.holds Try.pinned (OpenSpec.upto fnExactRollsBelowSpec)

/-- 'laws.FnExactPickWeighted', WHERE WHAT IT READS IS OF BULK AT MOST 1048576: true; the input reads as it did. -/
def fnExactPickWeightedUptoRow : OpenClaim := { program := "ytfljdhccacbhbaa", sum := "a1d4081542283149c37cafc571c4233146ef8179e6c030734a6b739edba767d9", func := "loop.example/g00840/laws.FnExactPickWeighted", spec := "fnExactPickWeighted", apart := false, narrowed := true }
def FnExactPickWeightedUptoSaid : Prop := fnExactPickWeightedUptoRow.holds Try.pinned (OpenSpec.upto fnExactPickWeightedSpec)

/-- 'laws.FnExactShuffleList', WHERE WHAT IT READS IS OF BULK AT MOST 1048576: true; the input reads as it did. -/
def fnExactShuffleListUptoRow : OpenClaim := { program := "ytfljdhccacbhbaa", sum := "a1d4081542283149c37cafc571c4233146ef8179e6c030734a6b739edba767d9", func := "loop.example/g00840/laws.FnExactShuffleList", spec := "fnExactShuffleList", apart := false, narrowed := true }
def FnExactShuffleListUptoSaid : Prop := fnExactShuffleListUptoRow.holds Try.pinned (OpenSpec.upto fnExactShuffleListSpec)

/-- 'laws.FnStates', WHERE WHAT IT READS IS OF BULK AT MOST 1048576: true; the input reads as it did. -/
def fnStatesUptoRow : OpenClaim := { program := "ytfljdhccacbhbaa", sum := "a1d4081542283149c37cafc571c4233146ef8179e6c030734a6b739edba767d9", func := "loop.example/g00840/laws.FnStates", spec := "fnStates", apart := false, narrowed := true }
def FnStatesUptoSaid : Prop := fnStatesUptoRow.holds Try.pinned (OpenSpec.upto fnStatesSpec)

/-- 'laws.FnExactSpreadTicks', WHERE WHAT IT READS IS OF BULK AT MOST 1048576: true; the input reads as it did. -/
def fnExactSpreadTicksUptoRow : OpenClaim := { program := "ytfljdhccacbhbaa", sum := "a1d4081542283149c37cafc571c4233146ef8179e6c030734a6b739edba767d9", func := "loop.example/g00840/laws.FnExactSpreadTicks", spec := "fnExactSpreadTicks", recurses := true, apart := false, narrowed := true }
def FnExactSpreadTicksUptoSaid : Prop := fnExactSpreadTicksUptoRow.holds Try.pinned (OpenSpec.upto fnExactSpreadTicksSpec)

/-- 'laws.FnRandomLists', WHERE WHAT IT READS IS OF BULK AT MOST 1048576: true; the input reads as it did. -/
def fnRandomListsUptoRow : OpenClaim := { program := "ytfljdhccacbhbaa", sum := "a1d4081542283149c37cafc571c4233146ef8179e6c030734a6b739edba767d9", func := "loop.example/g00840/laws.FnRandomLists", spec := "fnRandomLists", recurses := true, apart := false, narrowed := true }
def FnRandomListsUptoSaid : Prop := fnRandomListsUptoRow.holds Try.pinned (OpenSpec.upto fnRandomListsSpec)

end Rows
end Go.Proofs.Ytfljdhccacbhbaa
