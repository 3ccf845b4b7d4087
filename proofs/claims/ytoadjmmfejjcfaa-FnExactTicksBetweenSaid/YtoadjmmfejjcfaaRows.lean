/-
  No cell of these rows narrows 'for every input' (looked for: loops, veiled, ifaces, maps, wideKeys, modest, calm, conditions, laid).
  DERIVED. THE GIVEN ROWS OF THIS SEAT. 9 by the template 'for every input the law returns true; each argument reads behind the call as it read before'; 0 by the template 'total and deterministic' (their statements: YtoadjmmfejjcfaaTotals.lean).
  GIVEN WITH THE SEED: the statements are not yours to turn. If you find one false, say at which input.
  Laid BY PROGRAM, IN A SANDBOX (cutbox-rows.mjs): the forced cells as the released guide's own fill.sh prints them over the translation 41dbfc42ac2d81d2… (all of the seat's roots in one cut). By AI agents, Wed Nov 11 2026. No macro, syntax, notation, axiom, sorry.
-/
import Derived.Test.YtoadjmmfejjcfaaChecked
import GoSem.Claim
import GoSem.ClaimJoined
import GoSem.ClaimMapViews
import Derived.JoinedTies
import Derived.KernelRfl
namespace Go.Proofs.Ytoadjmmfejjcfaa
/- THE CELL 'sum', in the pinned program and in every row, IS THE sha256 OF THE DUMP (.gsa) THAT YtoadjmmfejjcfaaProg.lean LOADS. Nothing in Lean hashes anything: it is a label: what it is worth is what the hold of that sum in a sandbox is worth. -/
noncomputable def Try.pinned : Pinned := { name := "ytoadjmmfejjcfaa", sum := "41dbfc42ac2d81d2fe4e8643a852a998f510304c214d0285d42f625e2b5cf716", checked := Try.checked }
namespace Rows
def none {H : Type} : Left H := { results := [], args := [] }

/-- 'laws.FnExactIsTrace': WHATEVER THE INPUT: true; the input reads as it did. -/
def fnExactIsTraceSpec : ChangeSpec := { name := "fnExactIsTrace", fn := fun _ => fun
  | [d] => { results := [.lit (.bool true)], args := [d] }
  | _ => none }
def fnExactIsTraceRow : OpenClaim := { program := "ytoadjmmfejjcfaa", sum := "41dbfc42ac2d81d2fe4e8643a852a998f510304c214d0285d42f625e2b5cf716", func := "loop.example/g00840/laws.FnExactIsTrace", spec := "fnExactIsTrace", unfollowed := true, recurses := true, apart := false }
def FnExactIsTraceSaid : Prop := fnExactIsTraceRow.holds Try.pinned (OpenSpec.ofChange fnExactIsTraceSpec)

/-- ITS FALSE NEIGHBOUR: 'it returns false'. Refute it at one input. -/
def fnExactIsTraceWrong : ChangeSpec := { name := "fnExactIsTrace", fn := fun _ => fun
  | [d] => { results := [.lit (.bool false)], args := [d] }
  | _ => none }
def FnExactIsTraceWrongFalsely : Prop := fnExactIsTraceRow.holds Try.pinned (OpenSpec.ofChange fnExactIsTraceWrong)

/-- 'laws.FnExactTicksBetween': WHATEVER THE INPUT: true; the input reads as it did. -/
def fnExactTicksBetweenSpec : ChangeSpec := { name := "fnExactTicksBetween", fn := fun _ => fun
  | [d1, d2, d3, d4] => { results := [.lit (.bool true)], args := [d1, d2, d3, d4] }
  | _ => none }
def fnExactTicksBetweenRow : OpenClaim := { program := "ytoadjmmfejjcfaa", sum := "41dbfc42ac2d81d2fe4e8643a852a998f510304c214d0285d42f625e2b5cf716", func := "loop.example/g00840/laws.FnExactTicksBetween", spec := "fnExactTicksBetween", unfollowed := true, recurses := true, apart := false }
def FnExactTicksBetweenSaid : Prop := fnExactTicksBetweenRow.holds Try.pinned (OpenSpec.ofChange fnExactTicksBetweenSpec)

/-- ITS FALSE NEIGHBOUR: 'it returns false'. Refute it at one input. -/
def fnExactTicksBetweenWrong : ChangeSpec := { name := "fnExactTicksBetween", fn := fun _ => fun
  | [d1, d2, d3, d4] => { results := [.lit (.bool false)], args := [d1, d2, d3, d4] }
  | _ => none }
def FnExactTicksBetweenWrongFalsely : Prop := fnExactTicksBetweenRow.holds Try.pinned (OpenSpec.ofChange fnExactTicksBetweenWrong)

/-- 'laws.FnExactAreInOrder': WHATEVER THE INPUT: true; the input reads as it did. -/
def fnExactAreInOrderSpec : ChangeSpec := { name := "fnExactAreInOrder", fn := fun _ => fun
  | [d1, d2] => { results := [.lit (.bool true)], args := [d1, d2] }
  | _ => none }
def fnExactAreInOrderRow : OpenClaim := { program := "ytoadjmmfejjcfaa", sum := "41dbfc42ac2d81d2fe4e8643a852a998f510304c214d0285d42f625e2b5cf716", func := "loop.example/g00840/laws.FnExactAreInOrder", spec := "fnExactAreInOrder", unfollowed := true, recurses := true, apart := false }
def FnExactAreInOrderSaid : Prop := fnExactAreInOrderRow.holds Try.pinned (OpenSpec.ofChange fnExactAreInOrderSpec)

/-- ITS FALSE NEIGHBOUR: 'it returns false'. Refute it at one input. -/
def fnExactAreInOrderWrong : ChangeSpec := { name := "fnExactAreInOrder", fn := fun _ => fun
  | [d1, d2] => { results := [.lit (.bool false)], args := [d1, d2] }
  | _ => none }
def FnExactAreInOrderWrongFalsely : Prop := fnExactAreInOrderRow.holds Try.pinned (OpenSpec.ofChange fnExactAreInOrderWrong)

/-- 'laws.FnExactEventsAt': WHATEVER THE INPUT: true; the input reads as it did. -/
def fnExactEventsAtSpec : ChangeSpec := { name := "fnExactEventsAt", fn := fun _ => fun
  | [d1, d2] => { results := [.lit (.bool true)], args := [d1, d2] }
  | _ => none }
def fnExactEventsAtRow : OpenClaim := { program := "ytoadjmmfejjcfaa", sum := "41dbfc42ac2d81d2fe4e8643a852a998f510304c214d0285d42f625e2b5cf716", func := "loop.example/g00840/laws.FnExactEventsAt", spec := "fnExactEventsAt", unfollowed := true, recurses := true, apart := false }
def FnExactEventsAtSaid : Prop := fnExactEventsAtRow.holds Try.pinned (OpenSpec.ofChange fnExactEventsAtSpec)

/-- ITS FALSE NEIGHBOUR: 'it returns false'. Refute it at one input. -/
def fnExactEventsAtWrong : ChangeSpec := { name := "fnExactEventsAt", fn := fun _ => fun
  | [d1, d2] => { results := [.lit (.bool false)], args := [d1, d2] }
  | _ => none }
def FnExactEventsAtWrongFalsely : Prop := fnExactEventsAtRow.holds Try.pinned (OpenSpec.ofChange fnExactEventsAtWrong)

/-- 'laws.FnExactLossCounts': WHATEVER THE INPUT: true; the input reads as it did. -/
def fnExactLossCountsSpec : ChangeSpec := { name := "fnExactLossCounts", fn := fun _ => fun
  | [d] => { results := [.lit (.bool true)], args := [d] }
  | _ => none }
def fnExactLossCountsRow : OpenClaim := { program := "ytoadjmmfejjcfaa", sum := "41dbfc42ac2d81d2fe4e8643a852a998f510304c214d0285d42f625e2b5cf716", func := "loop.example/g00840/laws.FnExactLossCounts", spec := "fnExactLossCounts", unfollowed := true, recurses := true, apart := false }
def FnExactLossCountsSaid : Prop := fnExactLossCountsRow.holds Try.pinned (OpenSpec.ofChange fnExactLossCountsSpec)

/-- ITS FALSE NEIGHBOUR: 'it returns false'. Refute it at one input. -/
def fnExactLossCountsWrong : ChangeSpec := { name := "fnExactLossCounts", fn := fun _ => fun
  | [d] => { results := [.lit (.bool false)], args := [d] }
  | _ => none }
def FnExactLossCountsWrongFalsely : Prop := fnExactLossCountsRow.holds Try.pinned (OpenSpec.ofChange fnExactLossCountsWrong)

/-- 'laws.FnExactReleasedAt': WHATEVER THE INPUT: true; the input reads as it did. -/
def fnExactReleasedAtSpec : ChangeSpec := { name := "fnExactReleasedAt", fn := fun _ => fun
  | [d1, d2] => { results := [.lit (.bool true)], args := [d1, d2] }
  | _ => none }
def fnExactReleasedAtRow : OpenClaim := { program := "ytoadjmmfejjcfaa", sum := "41dbfc42ac2d81d2fe4e8643a852a998f510304c214d0285d42f625e2b5cf716", func := "loop.example/g00840/laws.FnExactReleasedAt", spec := "fnExactReleasedAt", unfollowed := true, recurses := true, apart := false }
def FnExactReleasedAtSaid : Prop := fnExactReleasedAtRow.holds Try.pinned (OpenSpec.ofChange fnExactReleasedAtSpec)

/-- ITS FALSE NEIGHBOUR: 'it returns false'. Refute it at one input. -/
def fnExactReleasedAtWrong : ChangeSpec := { name := "fnExactReleasedAt", fn := fun _ => fun
  | [d1, d2] => { results := [.lit (.bool false)], args := [d1, d2] }
  | _ => none }
def FnExactReleasedAtWrongFalsely : Prop := fnExactReleasedAtRow.holds Try.pinned (OpenSpec.ofChange fnExactReleasedAtWrong)

/-- 'laws.FnReleases': WHATEVER THE INPUT: true; the input reads as it did. -/
def fnReleasesSpec : ChangeSpec := { name := "fnReleases", fn := fun _ => fun
  | [d] => { results := [.lit (.bool true)], args := [d] }
  | _ => none }
def fnReleasesRow : OpenClaim := { program := "ytoadjmmfejjcfaa", sum := "41dbfc42ac2d81d2fe4e8643a852a998f510304c214d0285d42f625e2b5cf716", func := "loop.example/g00840/laws.FnReleases", spec := "fnReleases", unfollowed := true, recurses := true, apart := false }
def FnReleasesSaid : Prop := fnReleasesRow.holds Try.pinned (OpenSpec.ofChange fnReleasesSpec)

/-- ITS FALSE NEIGHBOUR: 'it returns false'. Refute it at one input. -/
def fnReleasesWrong : ChangeSpec := { name := "fnReleases", fn := fun _ => fun
  | [d] => { results := [.lit (.bool false)], args := [d] }
  | _ => none }
def FnReleasesWrongFalsely : Prop := fnReleasesRow.holds Try.pinned (OpenSpec.ofChange fnReleasesWrong)

/-- 'laws.FnExactMergeTraces': WHATEVER THE INPUT: true; the input reads as it did. -/
def fnExactMergeTracesSpec : ChangeSpec := { name := "fnExactMergeTraces", fn := fun _ => fun
  | [d1, d2] => { results := [.lit (.bool true)], args := [d1, d2] }
  | _ => none }
def fnExactMergeTracesRow : OpenClaim := { program := "ytoadjmmfejjcfaa", sum := "41dbfc42ac2d81d2fe4e8643a852a998f510304c214d0285d42f625e2b5cf716", func := "loop.example/g00840/laws.FnExactMergeTraces", spec := "fnExactMergeTraces", unfollowed := true, recurses := true, apart := false }
def FnExactMergeTracesSaid : Prop := fnExactMergeTracesRow.holds Try.pinned (OpenSpec.ofChange fnExactMergeTracesSpec)

/-- ITS FALSE NEIGHBOUR: 'it returns false'. Refute it at one input. -/
def fnExactMergeTracesWrong : ChangeSpec := { name := "fnExactMergeTraces", fn := fun _ => fun
  | [d1, d2] => { results := [.lit (.bool false)], args := [d1, d2] }
  | _ => none }
def FnExactMergeTracesWrongFalsely : Prop := fnExactMergeTracesRow.holds Try.pinned (OpenSpec.ofChange fnExactMergeTracesWrong)

/-- 'laws.FnExactAddEvent': WHATEVER THE INPUT: true; the input reads as it did. -/
def fnExactAddEventSpec : ChangeSpec := { name := "fnExactAddEvent", fn := fun _ => fun
  | [d1, d2] => { results := [.lit (.bool true)], args := [d1, d2] }
  | _ => none }
def fnExactAddEventRow : OpenClaim := { program := "ytoadjmmfejjcfaa", sum := "41dbfc42ac2d81d2fe4e8643a852a998f510304c214d0285d42f625e2b5cf716", func := "loop.example/g00840/laws.FnExactAddEvent", spec := "fnExactAddEvent", unfollowed := true, recurses := true, apart := false }
def FnExactAddEventSaid : Prop := fnExactAddEventRow.holds Try.pinned (OpenSpec.ofChange fnExactAddEventSpec)

/-- ITS FALSE NEIGHBOUR: 'it returns false'. Refute it at one input. -/
def fnExactAddEventWrong : ChangeSpec := { name := "fnExactAddEvent", fn := fun _ => fun
  | [d1, d2] => { results := [.lit (.bool false)], args := [d1, d2] }
  | _ => none }
def FnExactAddEventWrongFalsely : Prop := fnExactAddEventRow.holds Try.pinned (OpenSpec.ofChange fnExactAddEventWrong)

/- THE SECOND FORM. 'bulk': how many values and letters a reading holds, each counted each time it is reached (what is shared counts as often as it is met; a slice's spare places count too). A statement '..UptoSaid' is the law's where the arguments, and the package variables that the reading takes, are together of bulk at most 1048576: NARROWER than '..Said'. Prove '..Said' where nothing that the law and all that it calls make is longer than what came in: it says more and counts as full. Else prove '..UptoSaid'. A law counts once. -/
mutual
def uptoBulk {H : Type} : DataW H → Nat
  | .lit (.string bytes) => bytes.length + 1
  | .lit _ => 1
  | .nil => 1
  | .ptr d => uptoBulk d + 1
  | .slice elems spare => uptoBulkAll elems + uptoBulkAll spare + 1
  | .agg parts => uptoBulkAll parts + 1
  | .iface _ d => uptoBulk d + 1
  | .map entries => uptoBulkEntries entries + 1
  | .held _ => 1
def uptoBulkAll {H : Type} : List (DataW H) → Nat
  | [] => 0
  | d :: r => uptoBulk d + uptoBulkAll r
def uptoBulkEntries {H : Type} : List (Lit × DataW H) → Nat
  | [] => 0
  | x :: r => uptoBulkEntry x + uptoBulkEntries r
def uptoBulkEntry {H : Type} : Lit × DataW H → Nat
  | (.string bytes, d) => bytes.length + uptoBulk d + 1
  | (_, d) => uptoBulk d + 1
 end
def uptoSmall : (H : Type) → List (DataW H) → Bool := fun _ ds => decide (uptoBulkAll ds ≤ 1048576)
def OpenSpec.upto (s : _root_.Go.ChangeSpec) : _root_.Go.OpenSpec := { _root_.Go.OpenSpec.ofChange s with cond := some uptoSmall }

/-- 'laws.FnExactIsTrace', WHERE WHAT IT READS IS OF BULK AT MOST 1048576: true; the input reads as it did. -/
def fnExactIsTraceUptoRow : OpenClaim := { program := "ytoadjmmfejjcfaa", sum := "41dbfc42ac2d81d2fe4e8643a852a998f510304c214d0285d42f625e2b5cf716", func := "loop.example/g00840/laws.FnExactIsTrace", spec := "fnExactIsTrace", unfollowed := true, recurses := true, apart := false, narrowed := true }
def FnExactIsTraceUptoSaid : Prop := fnExactIsTraceUptoRow.holds Try.pinned (OpenSpec.upto fnExactIsTraceSpec)

/-- 'laws.FnExactTicksBetween', WHERE WHAT IT READS IS OF BULK AT MOST 1048576: true; the input reads as it did. -/
def fnExactTicksBetweenUptoRow : OpenClaim := { program := "ytoadjmmfejjcfaa", sum := "41dbfc42ac2d81d2fe4e8643a852a998f510304c214d0285d42f625e2b5cf716", func := "loop.example/g00840/laws.FnExactTicksBetween", spec := "fnExactTicksBetween", unfollowed := true, recurses := true, apart := false, narrowed := true }
def FnExactTicksBetweenUptoSaid : Prop := fnExactTicksBetweenUptoRow.holds Try.pinned (OpenSpec.upto fnExactTicksBetweenSpec)

/-- 'laws.FnExactAreInOrder', WHERE WHAT IT READS IS OF BULK AT MOST 1048576: true; the input reads as it did. -/
def fnExactAreInOrderUptoRow : OpenClaim := { program := "ytoadjmmfejjcfaa", sum := "41dbfc42ac2d81d2fe4e8643a852a998f510304c214d0285d42f625e2b5cf716", func := "loop.example/g00840/laws.FnExactAreInOrder", spec := "fnExactAreInOrder", unfollowed := true, recurses := true, apart := false, narrowed := true }
def FnExactAreInOrderUptoSaid : Prop := fnExactAreInOrderUptoRow.holds Try.pinned (OpenSpec.upto fnExactAreInOrderSpec)

/-- 'laws.FnExactEventsAt', WHERE WHAT IT READS IS OF BULK AT MOST 1048576: true; the input reads as it did. -/
def fnExactEventsAtUptoRow : OpenClaim := { program := "ytoadjmmfejjcfaa", sum := "41dbfc42ac2d81d2fe4e8643a852a998f510304c214d0285d42f625e2b5cf716", func := "loop.example/g00840/laws.FnExactEventsAt", spec := "fnExactEventsAt", unfollowed := true, recurses := true, apart := false, narrowed := true }
def FnExactEventsAtUptoSaid : Prop := fnExactEventsAtUptoRow.holds Try.pinned (OpenSpec.upto fnExactEventsAtSpec)

/-- 'laws.FnExactLossCounts', WHERE WHAT IT READS IS OF BULK AT MOST 1048576: true; the input reads as it did. -/
def fnExactLossCountsUptoRow : OpenClaim := { program := "ytoadjmmfejjcfaa", sum := "41dbfc42ac2d81d2fe4e8643a852a998f510304c214d0285d42f625e2b5cf716", func := "loop.example/g00840/laws.FnExactLossCounts", spec := "fnExactLossCounts", unfollowed := true, recurses := true, apart := false, narrowed := true }
def FnExactLossCountsUptoSaid : Prop := fnExactLossCountsUptoRow.holds Try.pinned (OpenSpec.upto fnExactLossCountsSpec)

/-- 'laws.FnExactReleasedAt', WHERE WHAT IT READS IS OF BULK AT MOST 1048576: true; the input reads as it did. -/
def fnExactReleasedAtUptoRow : OpenClaim := { program := "ytoadjmmfejjcfaa", sum := "41dbfc42ac2d81d2fe4e8643a852a998f510304c214d0285d42f625e2b5cf716", func := "loop.example/g00840/laws.FnExactReleasedAt", spec := "fnExactReleasedAt", unfollowed := true, recurses := true, apart := false, narrowed := true }
def FnExactReleasedAtUptoSaid : Prop := fnExactReleasedAtUptoRow.holds Try.pinned (OpenSpec.upto fnExactReleasedAtSpec)

/-- 'laws.FnReleases', WHERE WHAT IT READS IS OF BULK AT MOST 1048576: true; the input reads as it did. -/
def fnReleasesUptoRow : OpenClaim := { program := "ytoadjmmfejjcfaa", sum := "41dbfc42ac2d81d2fe4e8643a852a998f510304c214d0285d42f625e2b5cf716", func := "loop.example/g00840/laws.FnReleases", spec := "fnReleases", unfollowed := true, recurses := true, apart := false, narrowed := true }
def FnReleasesUptoSaid : Prop := fnReleasesUptoRow.holds Try.pinned (OpenSpec.upto fnReleasesSpec)

/-- 'laws.FnExactMergeTraces', WHERE WHAT IT READS IS OF BULK AT MOST 1048576: true; the input reads as it did. -/
def fnExactMergeTracesUptoRow : OpenClaim := { program := "ytoadjmmfejjcfaa", sum := "41dbfc42ac2d81d2fe4e8643a852a998f510304c214d0285d42f625e2b5cf716", func := "loop.example/g00840/laws.FnExactMergeTraces", spec := "fnExactMergeTraces", unfollowed := true, recurses := true, apart := false, narrowed := true }
def FnExactMergeTracesUptoSaid : Prop := fnExactMergeTracesUptoRow.holds Try.pinned (OpenSpec.upto fnExactMergeTracesSpec)

/-- 'laws.FnExactAddEvent', WHERE WHAT IT READS IS OF BULK AT MOST 1048576: true; the input reads as it did. -/
def fnExactAddEventUptoRow : OpenClaim := { program := "ytoadjmmfejjcfaa", sum := "41dbfc42ac2d81d2fe4e8643a852a998f510304c214d0285d42f625e2b5cf716", func := "loop.example/g00840/laws.FnExactAddEvent", spec := "fnExactAddEvent", unfollowed := true, recurses := true, apart := false, narrowed := true }
def FnExactAddEventUptoSaid : Prop := fnExactAddEventUptoRow.holds Try.pinned (OpenSpec.upto fnExactAddEventSpec)

end Rows
end Go.Proofs.Ytoadjmmfejjcfaa
