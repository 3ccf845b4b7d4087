/-
  No cell of these rows narrows 'for every input' (looked for: loops, veiled, ifaces, maps, wideKeys, modest, calm, conditions, laid).
  DERIVED. THE GIVEN ROWS OF THIS SEAT. 11 by the template 'for every input the law returns true; each argument reads behind the call as it read before'; 0 by the template 'total and deterministic' (their statements: YtgiigcpodinpoaaTotals.lean).
  GIVEN WITH THE SEED: the statements are not yours to turn. If you find one false, say at which input.
  Laid BY PROGRAM, IN A SANDBOX (cutbox-rows.mjs): the forced cells as the released guide's own fill.sh prints them over the translation ce98b90ef4eb77ea… (all of the seat's roots in one cut). By AI agents, Wed Nov 11 2026. No macro, syntax, notation, axiom, sorry.
-/
import Derived.Test.YtgiigcpodinpoaaChecked
import GoSem.Claim
import GoSem.ClaimJoined
import GoSem.ClaimMapViews
import Derived.JoinedTies
import Derived.KernelRfl
namespace Go.Proofs.Ytgiigcpodinpoaa
/- THE CELL 'sum', in the pinned program and in every row, IS THE sha256 OF THE DUMP (.gsa) THAT YtgiigcpodinpoaaProg.lean LOADS. Nothing in Lean hashes anything: it is a label: what it is worth is what the hold of that sum in a sandbox is worth. -/
noncomputable def Try.pinned : Pinned := { name := "ytgiigcpodinpoaa", sum := "ce98b90ef4eb77eaeb186ee1ab3a83e08b9872296d2e46324c5c0fb35dbb63a3", checked := Try.checked }
namespace Rows
def none {H : Type} : Left H := { results := [], args := [] }

/-- 'laws.FnExactIsValidBucket': WHATEVER THE INPUT: true; the input reads as it did. -/
def fnExactIsValidBucketSpec : ChangeSpec := { name := "fnExactIsValidBucket", fn := fun _ => fun
  | [d] => { results := [.lit (.bool true)], args := [d] }
  | _ => none }
def fnExactIsValidBucketRow : OpenClaim := { program := "ytgiigcpodinpoaa", sum := "ce98b90ef4eb77eaeb186ee1ab3a83e08b9872296d2e46324c5c0fb35dbb63a3", func := "loop.example/g00840/laws.FnExactIsValidBucket", spec := "fnExactIsValidBucket", apart := false }
def FnExactIsValidBucketSaid : Prop := fnExactIsValidBucketRow.holds Try.pinned (OpenSpec.ofChange fnExactIsValidBucketSpec)

/-- ITS FALSE NEIGHBOUR: 'it returns false'. Refute it at one input. -/
def fnExactIsValidBucketWrong : ChangeSpec := { name := "fnExactIsValidBucket", fn := fun _ => fun
  | [d] => { results := [.lit (.bool false)], args := [d] }
  | _ => none }
def FnExactIsValidBucketWrongFalsely : Prop := fnExactIsValidBucketRow.holds Try.pinned (OpenSpec.ofChange fnExactIsValidBucketWrong)

/-- 'laws.FnExactFullBucket': WHATEVER THE INPUT: true; the input reads as it did. -/
def fnExactFullBucketSpec : ChangeSpec := { name := "fnExactFullBucket", fn := fun _ => fun
  | [d1, d2, d3] => { results := [.lit (.bool true)], args := [d1, d2, d3] }
  | _ => none }
def fnExactFullBucketRow : OpenClaim := { program := "ytgiigcpodinpoaa", sum := "ce98b90ef4eb77eaeb186ee1ab3a83e08b9872296d2e46324c5c0fb35dbb63a3", func := "loop.example/g00840/laws.FnExactFullBucket", spec := "fnExactFullBucket", apart := false }
def FnExactFullBucketSaid : Prop := fnExactFullBucketRow.holds Try.pinned (OpenSpec.ofChange fnExactFullBucketSpec)

/-- ITS FALSE NEIGHBOUR: 'it returns false'. Refute it at one input. -/
def fnExactFullBucketWrong : ChangeSpec := { name := "fnExactFullBucket", fn := fun _ => fun
  | [d1, d2, d3] => { results := [.lit (.bool false)], args := [d1, d2, d3] }
  | _ => none }
def FnExactFullBucketWrongFalsely : Prop := fnExactFullBucketRow.holds Try.pinned (OpenSpec.ofChange fnExactFullBucketWrong)

/-- 'laws.FnExactFillBucket': WHATEVER THE INPUT: true; the input reads as it did. -/
def fnExactFillBucketSpec : ChangeSpec := { name := "fnExactFillBucket", fn := fun _ => fun
  | [d1, d2] => { results := [.lit (.bool true)], args := [d1, d2] }
  | _ => none }
def fnExactFillBucketRow : OpenClaim := { program := "ytgiigcpodinpoaa", sum := "ce98b90ef4eb77eaeb186ee1ab3a83e08b9872296d2e46324c5c0fb35dbb63a3", func := "loop.example/g00840/laws.FnExactFillBucket", spec := "fnExactFillBucket", apart := false }
def FnExactFillBucketSaid : Prop := fnExactFillBucketRow.holds Try.pinned (OpenSpec.ofChange fnExactFillBucketSpec)

/-- ITS FALSE NEIGHBOUR: 'it returns false'. Refute it at one input. -/
def fnExactFillBucketWrong : ChangeSpec := { name := "fnExactFillBucket", fn := fun _ => fun
  | [d1, d2] => { results := [.lit (.bool false)], args := [d1, d2] }
  | _ => none }
def FnExactFillBucketWrongFalsely : Prop := fnExactFillBucketRow.holds Try.pinned (OpenSpec.ofChange fnExactFillBucketWrong)

/-- 'laws.FnExactTokensAt': WHATEVER THE INPUT: true; the input reads as it did. -/
def fnExactTokensAtSpec : ChangeSpec := { name := "fnExactTokensAt", fn := fun _ => fun
  | [d1, d2] => { results := [.lit (.bool true)], args := [d1, d2] }
  | _ => none }
def fnExactTokensAtRow : OpenClaim := { program := "ytgiigcpodinpoaa", sum := "ce98b90ef4eb77eaeb186ee1ab3a83e08b9872296d2e46324c5c0fb35dbb63a3", func := "loop.example/g00840/laws.FnExactTokensAt", spec := "fnExactTokensAt", apart := false }
def FnExactTokensAtSaid : Prop := fnExactTokensAtRow.holds Try.pinned (OpenSpec.ofChange fnExactTokensAtSpec)

/-- ITS FALSE NEIGHBOUR: 'it returns false'. Refute it at one input. -/
def fnExactTokensAtWrong : ChangeSpec := { name := "fnExactTokensAt", fn := fun _ => fun
  | [d1, d2] => { results := [.lit (.bool false)], args := [d1, d2] }
  | _ => none }
def FnExactTokensAtWrongFalsely : Prop := fnExactTokensAtRow.holds Try.pinned (OpenSpec.ofChange fnExactTokensAtWrong)

/-- 'laws.FnExactTicksToFit': WHATEVER THE INPUT: true; the input reads as it did. -/
def fnExactTicksToFitSpec : ChangeSpec := { name := "fnExactTicksToFit", fn := fun _ => fun
  | [d1, d2] => { results := [.lit (.bool true)], args := [d1, d2] }
  | _ => none }
def fnExactTicksToFitRow : OpenClaim := { program := "ytgiigcpodinpoaa", sum := "ce98b90ef4eb77eaeb186ee1ab3a83e08b9872296d2e46324c5c0fb35dbb63a3", func := "loop.example/g00840/laws.FnExactTicksToFit", spec := "fnExactTicksToFit", apart := false }
def FnExactTicksToFitSaid : Prop := fnExactTicksToFitRow.holds Try.pinned (OpenSpec.ofChange fnExactTicksToFitSpec)

/-- ITS FALSE NEIGHBOUR: 'it returns false'. Refute it at one input. -/
def fnExactTicksToFitWrong : ChangeSpec := { name := "fnExactTicksToFit", fn := fun _ => fun
  | [d1, d2] => { results := [.lit (.bool false)], args := [d1, d2] }
  | _ => none }
def FnExactTicksToFitWrongFalsely : Prop := fnExactTicksToFitRow.holds Try.pinned (OpenSpec.ofChange fnExactTicksToFitWrong)

/-- 'laws.FnExactTakeTokens': WHATEVER THE INPUT: true; the input reads as it did. -/
def fnExactTakeTokensSpec : ChangeSpec := { name := "fnExactTakeTokens", fn := fun _ => fun
  | [d1, d2] => { results := [.lit (.bool true)], args := [d1, d2] }
  | _ => none }
def fnExactTakeTokensRow : OpenClaim := { program := "ytgiigcpodinpoaa", sum := "ce98b90ef4eb77eaeb186ee1ab3a83e08b9872296d2e46324c5c0fb35dbb63a3", func := "loop.example/g00840/laws.FnExactTakeTokens", spec := "fnExactTakeTokens", apart := false }
def FnExactTakeTokensSaid : Prop := fnExactTakeTokensRow.holds Try.pinned (OpenSpec.ofChange fnExactTakeTokensSpec)

/-- ITS FALSE NEIGHBOUR: 'it returns false'. Refute it at one input. -/
def fnExactTakeTokensWrong : ChangeSpec := { name := "fnExactTakeTokens", fn := fun _ => fun
  | [d1, d2] => { results := [.lit (.bool false)], args := [d1, d2] }
  | _ => none }
def FnExactTakeTokensWrongFalsely : Prop := fnExactTakeTokensRow.holds Try.pinned (OpenSpec.ofChange fnExactTakeTokensWrong)

/-- 'laws.FnExactSmallestBurst': WHATEVER THE INPUT: true; the input reads as it did. -/
def fnExactSmallestBurstSpec : ChangeSpec := { name := "fnExactSmallestBurst", fn := fun _ => fun
  | [d1, d2, d3] => { results := [.lit (.bool true)], args := [d1, d2, d3] }
  | _ => none }
def fnExactSmallestBurstRow : OpenClaim := { program := "ytgiigcpodinpoaa", sum := "ce98b90ef4eb77eaeb186ee1ab3a83e08b9872296d2e46324c5c0fb35dbb63a3", func := "loop.example/g00840/laws.FnExactSmallestBurst", spec := "fnExactSmallestBurst", unfollowed := true, recurses := true, apart := false }
def FnExactSmallestBurstSaid : Prop := fnExactSmallestBurstRow.holds Try.pinned (OpenSpec.ofChange fnExactSmallestBurstSpec)

/-- ITS FALSE NEIGHBOUR: 'it returns false'. Refute it at one input. -/
def fnExactSmallestBurstWrong : ChangeSpec := { name := "fnExactSmallestBurst", fn := fun _ => fun
  | [d1, d2, d3] => { results := [.lit (.bool false)], args := [d1, d2, d3] }
  | _ => none }
def FnExactSmallestBurstWrongFalsely : Prop := fnExactSmallestBurstRow.holds Try.pinned (OpenSpec.ofChange fnExactSmallestBurstWrong)

/-- 'laws.FnExactFittingLoads': WHATEVER THE INPUT: true; the input reads as it did. -/
def fnExactFittingLoadsSpec : ChangeSpec := { name := "fnExactFittingLoads", fn := fun _ => fun
  | [d1, d2] => { results := [.lit (.bool true)], args := [d1, d2] }
  | _ => none }
def fnExactFittingLoadsRow : OpenClaim := { program := "ytgiigcpodinpoaa", sum := "ce98b90ef4eb77eaeb186ee1ab3a83e08b9872296d2e46324c5c0fb35dbb63a3", func := "loop.example/g00840/laws.FnExactFittingLoads", spec := "fnExactFittingLoads", unfollowed := true, recurses := true, apart := false }
def FnExactFittingLoadsSaid : Prop := fnExactFittingLoadsRow.holds Try.pinned (OpenSpec.ofChange fnExactFittingLoadsSpec)

/-- ITS FALSE NEIGHBOUR: 'it returns false'. Refute it at one input. -/
def fnExactFittingLoadsWrong : ChangeSpec := { name := "fnExactFittingLoads", fn := fun _ => fun
  | [d1, d2] => { results := [.lit (.bool false)], args := [d1, d2] }
  | _ => none }
def FnExactFittingLoadsWrongFalsely : Prop := fnExactFittingLoadsRow.holds Try.pinned (OpenSpec.ofChange fnExactFittingLoadsWrong)

/-- 'laws.FnBuckets': WHATEVER THE INPUT: true; the input reads as it did. -/
def fnBucketsSpec : ChangeSpec := { name := "fnBuckets", fn := fun _ => fun
  | [d] => { results := [.lit (.bool true)], args := [d] }
  | _ => none }
def fnBucketsRow : OpenClaim := { program := "ytgiigcpodinpoaa", sum := "ce98b90ef4eb77eaeb186ee1ab3a83e08b9872296d2e46324c5c0fb35dbb63a3", func := "loop.example/g00840/laws.FnBuckets", spec := "fnBuckets", apart := false }
def FnBucketsSaid : Prop := fnBucketsRow.holds Try.pinned (OpenSpec.ofChange fnBucketsSpec)

/-- ITS FALSE NEIGHBOUR: 'it returns false'. Refute it at one input. -/
def fnBucketsWrong : ChangeSpec := { name := "fnBuckets", fn := fun _ => fun
  | [d] => { results := [.lit (.bool false)], args := [d] }
  | _ => none }
def FnBucketsWrongFalsely : Prop := fnBucketsRow.holds Try.pinned (OpenSpec.ofChange fnBucketsWrong)

/-- 'laws.FnExactShapeLoads': WHATEVER THE INPUT: true; the input reads as it did. -/
def fnExactShapeLoadsSpec : ChangeSpec := { name := "fnExactShapeLoads", fn := fun _ => fun
  | [d1, d2] => { results := [.lit (.bool true)], args := [d1, d2] }
  | _ => none }
def fnExactShapeLoadsRow : OpenClaim := { program := "ytgiigcpodinpoaa", sum := "ce98b90ef4eb77eaeb186ee1ab3a83e08b9872296d2e46324c5c0fb35dbb63a3", func := "loop.example/g00840/laws.FnExactShapeLoads", spec := "fnExactShapeLoads", unfollowed := true, recurses := true, apart := false }
def FnExactShapeLoadsSaid : Prop := fnExactShapeLoadsRow.holds Try.pinned (OpenSpec.ofChange fnExactShapeLoadsSpec)

/-- ITS FALSE NEIGHBOUR: 'it returns false'. Refute it at one input. -/
def fnExactShapeLoadsWrong : ChangeSpec := { name := "fnExactShapeLoads", fn := fun _ => fun
  | [d1, d2] => { results := [.lit (.bool false)], args := [d1, d2] }
  | _ => none }
def FnExactShapeLoadsWrongFalsely : Prop := fnExactShapeLoadsRow.holds Try.pinned (OpenSpec.ofChange fnExactShapeLoadsWrong)

/-- 'laws.FnLoads': WHATEVER THE INPUT: true; the input reads as it did. -/
def fnLoadsSpec : ChangeSpec := { name := "fnLoads", fn := fun _ => fun
  | [d] => { results := [.lit (.bool true)], args := [d] }
  | _ => none }
def fnLoadsRow : OpenClaim := { program := "ytgiigcpodinpoaa", sum := "ce98b90ef4eb77eaeb186ee1ab3a83e08b9872296d2e46324c5c0fb35dbb63a3", func := "loop.example/g00840/laws.FnLoads", spec := "fnLoads", unfollowed := true, recurses := true, apart := false }
def FnLoadsSaid : Prop := fnLoadsRow.holds Try.pinned (OpenSpec.ofChange fnLoadsSpec)

/-- ITS FALSE NEIGHBOUR: 'it returns false'. Refute it at one input. -/
def fnLoadsWrong : ChangeSpec := { name := "fnLoads", fn := fun _ => fun
  | [d] => { results := [.lit (.bool false)], args := [d] }
  | _ => none }
def FnLoadsWrongFalsely : Prop := fnLoadsRow.holds Try.pinned (OpenSpec.ofChange fnLoadsWrong)

/- THE SECOND FORM. 'bulk': how many values and letters a reading holds, each counted each time it is reached (what is shared counts as often as it is met; a slice's spare places count too). A statement '..UptoSaid' is the law's where the arguments, and the package variables that the reading takes, are together of bulk at most 1048576: NARROWER than '..Said'. Prove '..Said' where nothing that the law and all that it calls make is longer than what came in: it says more and counts as full. Else prove '..UptoSaid'. A law counts once. -/
mutual
def uptoBulk {H : Type} : DataW H → Nat
  | .lit (.string bytes) => bytes.length + 1
  | .lit _ => 1
  | .nil => 1
  | .ptr d => uptoBulk d + 1
  | .slice elems spare => uptoBulkAll elems + uptoBulkAll spare + 1
  | .agg parts => uptoBulkAll parts + 1
  | .iface _ d => uptoBulk d + 1
  | .map entries => uptoBulkEntries entries + 1
  | .held _ => 1
def uptoBulkAll {H : Type} : List (DataW H) → Nat
  | [] => 0
  | d :: r => uptoBulk d + uptoBulkAll r
def uptoBulkEntries {H : Type} : List (Lit × DataW H) → Nat
  | [] => 0
  | x :: r => uptoBulkEntry x + uptoBulkEntries r
def uptoBulkEntry {H : Type} : Lit × DataW H → Nat
  | (.string bytes, d) => bytes.length + uptoBulk d + 1
  | (_, d) => uptoBulk d + 1
 end
def uptoSmall : (H : Type) → List (DataW H) → Bool := fun _ ds => decide (uptoBulkAll ds ≤ 1048576)
def OpenSpec.upto (s : _root_.Go.ChangeSpec) : _root_.Go.OpenSpec := { _root_.Go.OpenSpec.ofChange s with cond := some uptoSmall }

/-- 'laws.FnExactIsValidBucket', WHERE WHAT IT READS IS OF BULK AT MOST 1048576: true; the input reads as it did. -/
def fnExactIsValidBucketUptoRow : OpenClaim := { program := "ytgiigcpodinpoaa", sum := "ce98b90ef4eb77eaeb186ee1ab3a83e08b9872296d2e46324c5c0fb35dbb63a3", func := "loop.example/g00840/laws.FnExactIsValidBucket", spec := "fnExactIsValidBucket", apart := false, narrowed := true }
def FnExactIsValidBucketUptoSaid : Prop := fnExactIsValidBucketUptoRow.holds Try.pinned (OpenSpec.upto fnExactIsValidBucketSpec)

/-- 'laws.FnExactFullBucket', WHERE WHAT IT READS IS OF BULK AT MOST 1048576: true; the input reads as it did. -/
def fnExactFullBucketUptoRow : OpenClaim := { program := "ytgiigcpodinpoaa", sum := "ce98b90ef4eb77eaeb186ee1ab3a83e08b9872296d2e46324c5c0fb35dbb63a3", func := "loop.example/g00840/laws.FnExactFullBucket", spec := "fnExactFullBucket", apart := false, narrowed := true }
def FnExactFullBucketUptoSaid : Prop := fnExactFullBucketUptoRow.holds Try.pinned (OpenSpec.upto fnExactFullBucketSpec)

/-- 'laws.FnExactFillBucket', WHERE WHAT IT READS IS OF BULK AT MOST 1048576: true; the input reads as it did. -/
def fnExactFillBucketUptoRow : OpenClaim := { program := "ytgiigcpodinpoaa", sum := "ce98b90ef4eb77eaeb186ee1ab3a83e08b9872296d2e46324c5c0fb35dbb63a3", func := "loop.example/g00840/laws.FnExactFillBucket", spec := "fnExactFillBucket", apart := false, narrowed := true }
def FnExactFillBucketUptoSaid : Prop := fnExactFillBucketUptoRow.holds Try.pinned (OpenSpec.upto fnExactFillBucketSpec)

/-- 'laws.FnExactTokensAt', WHERE WHAT IT READS IS OF BULK AT MOST 1048576: true; the input reads as it did. -/
def fnExactTokensAtUptoRow : OpenClaim := { program := "ytgiigcpodinpoaa", sum := "ce98b90ef4eb77eaeb186ee1ab3a83e08b9872296d2e46324c5c0fb35dbb63a3", func := "loop.example/g00840/laws.FnExactTokensAt", spec := "fnExactTokensAt", apart := false, narrowed := true }
def FnExactTokensAtUptoSaid : Prop := fnExactTokensAtUptoRow.holds Try.pinned (OpenSpec.upto fnExactTokensAtSpec)

/-- 'laws.FnExactTicksToFit', WHERE WHAT IT READS IS OF BULK AT MOST 1048576: true; the input reads as it did. -/
def fnExactTicksToFitUptoRow : OpenClaim := { program := "ytgiigcpodinpoaa", sum := "ce98b90ef4eb77eaeb186ee1ab3a83e08b9872296d2e46324c5c0fb35dbb63a3", func := "loop.example/g00840/laws.FnExactTicksToFit", spec := "fnExactTicksToFit", apart := false, narrowed := true }
def FnExactTicksToFitUptoSaid : Prop := fnExactTicksToFitUptoRow.holds Try.pinned (OpenSpec.upto fnExactTicksToFitSpec)

/-- 'laws.FnExactTakeTokens', WHERE WHAT IT READS IS OF BULK AT MOST 1048576: true; the input reads as it did. -/
def fnExactTakeTokensUptoRow : OpenClaim := { program := "ytgiigcpodinpoaa", sum := "ce98b90ef4eb77eaeb186ee1ab3a83e08b9872296d2e46324c5c0fb35dbb63a3", func := "loop.example/g00840/laws.FnExactTakeTokens", spec := "fnExactTakeTokens", apart := false, narrowed := true }
def FnExactTakeTokensUptoSaid : Prop := fnExactTakeTokensUptoRow.holds Try.pinned (OpenSpec.upto fnExactTakeTokensSpec)

/-- 'laws.FnExactSmallestBurst', WHERE WHAT IT READS IS OF BULK AT MOST 1048576: true; the input reads as it did. -/
def fnExactSmallestBurstUptoRow : OpenClaim := { program := "ytgiigcpodinpoaa", sum := "ce98b90ef4eb77eaeb186ee1ab3a83e08b9872296d2e46324c5c0fb35dbb63a3", func := "loop.example/g00840/laws.FnExactSmallestBurst", spec := "fnExactSmallestBurst", unfollowed := true, recurses := true, apart := false, narrowed := true }
def FnExactSmallestBurstUptoSaid : Prop := fnExactSmallestBurstUptoRow.holds Try.pinned (OpenSpec.upto fnExactSmallestBurstSpec)

/-- 'laws.FnExactFittingLoads', WHERE WHAT IT READS IS OF BULK AT MOST 1048576: true; the input reads as it did. -/
def fnExactFittingLoadsUptoRow : OpenClaim := { program := "ytgiigcpodinpoaa", sum := "ce98b90ef4eb77eaeb186ee1ab3a83e08b9872296d2e46324c5c0fb35dbb63a3", func := "loop.example/g00840/laws.FnExactFittingLoads", spec := "fnExactFittingLoads", unfollowed := true, recurses := true, apart := false, narrowed := true }
def FnExactFittingLoadsUptoSaid : Prop := fnExactFittingLoadsUptoRow.holds Try.pinned (OpenSpec.upto fnExactFittingLoadsSpec)

/-- 'laws.FnBuckets', WHERE WHAT IT READS IS OF BULK AT MOST 1048576: true; the input reads as it did. -/
def fnBucketsUptoRow : OpenClaim := { program := "ytgiigcpodinpoaa", sum := "ce98b90ef4eb77eaeb186ee1ab3a83e08b9872296d2e46324c5c0fb35dbb63a3", func := "loop.example/g00840/laws.FnBuckets", spec := "fnBuckets", apart := false, narrowed := true }
def FnBucketsUptoSaid : Prop := fnBucketsUptoRow.holds Try.pinned (OpenSpec.upto fnBucketsSpec)

/-- 'laws.FnExactShapeLoads', WHERE WHAT IT READS IS OF BULK AT MOST 1048576: true; the input reads as it did. -/
def fnExactShapeLoadsUptoRow : OpenClaim := { program := "ytgiigcpodinpoaa", sum := "ce98b90ef4eb77eaeb186ee1ab3a83e08b9872296d2e46324c5c0fb35dbb63a3", func := "loop.example/g00840/laws.FnExactShapeLoads", spec := "fnExactShapeLoads", unfollowed := true, recurses := true, apart := false, narrowed := true }
def FnExactShapeLoadsUptoSaid : Prop := fnExactShapeLoadsUptoRow.holds Try.pinned (OpenSpec.upto fnExactShapeLoadsSpec)

/-- 'laws.FnLoads', WHERE WHAT IT READS IS OF BULK AT MOST 1048576: true; the input reads as it did. -/
def fnLoadsUptoRow : OpenClaim := { program := "ytgiigcpodinpoaa", sum := "ce98b90ef4eb77eaeb186ee1ab3a83e08b9872296d2e46324c5c0fb35dbb63a3", func := "loop.example/g00840/laws.FnLoads", spec := "fnLoads", unfollowed := true, recurses := true, apart := false, narrowed := true }
def FnLoadsUptoSaid : Prop := fnLoadsUptoRow.holds Try.pinned (OpenSpec.upto fnLoadsSpec)

end Rows
end Go.Proofs.Ytgiigcpodinpoaa
