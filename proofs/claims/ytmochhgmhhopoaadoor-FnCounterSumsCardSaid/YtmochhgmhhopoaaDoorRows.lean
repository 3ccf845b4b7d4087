/-
  NARROWER THAN 'FOR EVERY INPUT', by the rows' own cells (each row's printed sentence says how): FnExactIsCounterList: laid · FnExactTotalBelow: laid · FnExactCounterOf: laid · FnExactDropBelow: laid · FnExactCounterChanges: laid · FnExactBumpCounter: laid · FnExactAddCounters: laid · FnExactTopCounters: laid · FnExactCounterText: laid · FnExactParseCounters: laid · FnCounterSums: laid.
  DERIVED. THE GIVEN ROWS OF THIS SEAT. 11 by the template 'for every input the law returns true; each argument reads behind the call as it read before'; 0 by the template 'total and deterministic' (their statements: YtmochhgmhhopoaaDoorTotals.lean).
  GIVEN WITH THE SEED: the statements are not yours to turn. If you find one false, say at which input.
  Laid BY PROGRAM, IN A SANDBOX (cutbox-rows.mjs): the forced cells as the released guide's own fill.sh prints them over the translation 57dda00058e4d545… (all of the seat's roots in one cut). By AI agents, Wed Nov 11 2026. No macro, syntax, notation, axiom, sorry.
-/
import Derived.Test.YtmochhgmhhopoaaDoorChecked
import GoSem.PinnedTables
import GoSem.Claim
import GoSem.ClaimJoined
import GoSem.ClaimMapViews
import Derived.JoinedTies
import Derived.KernelRfl
namespace Go.Proofs.YtmochhgmhhopoaaDoor
/- THE CELL 'sum', in the pinned program and in every row, IS THE sha256 OF THE DUMP (.gsa) THAT YtmochhgmhhopoaaDoorProg.lean LOADS. Nothing in Lean hashes anything: it is a label: what it is worth is what the hold of that sum in a sandbox is worth. -/
noncomputable def Tryd.pinned : Pinned := { name := "ytmochhgmhhopoaadoor", sum := "57dda00058e4d545c73247b966f03eadbfa2837762b8659c34a6e2daadd743bf", checked := Tryd.checked }
namespace Rows
def none {H : Type} : Left H := { results := [], args := [] }

/- WHAT THE LISTED PACKAGE-LEVEL VARIABLES READ AS WHEN THE CALL BEGINS. Each datum BY PROGRAM (the guide's laid-datum.mjs) off the statement by which the dump's own 'gosem.cut.vars' lays the variable. In a bare row this is a premise. The card (YtmochhgmhhopoaaDoorCards.lean) ties it to the program's text. -/
def laid_unicode_utf8_acceptRanges {H : Type} : DataW H := .agg [.agg [.lit (.int .u8 128), .lit (.int .u8 191)], .agg [.lit (.int .u8 160), .lit (.int .u8 191)], .agg [.lit (.int .u8 128), .lit (.int .u8 159)], .agg [.lit (.int .u8 144), .lit (.int .u8 191)], .agg [.lit (.int .u8 128), .lit (.int .u8 143)], .agg [.lit (.int .u8 0), .lit (.int .u8 0)], .agg [.lit (.int .u8 0), .lit (.int .u8 0)], .agg [.lit (.int .u8 0), .lit (.int .u8 0)], .agg [.lit (.int .u8 0), .lit (.int .u8 0)], .agg [.lit (.int .u8 0), .lit (.int .u8 0)], .agg [.lit (.int .u8 0), .lit (.int .u8 0)], .agg [.lit (.int .u8 0), .lit (.int .u8 0)], .agg [.lit (.int .u8 0), .lit (.int .u8 0)], .agg [.lit (.int .u8 0), .lit (.int .u8 0)], .agg [.lit (.int .u8 0), .lit (.int .u8 0)], .agg [.lit (.int .u8 0), .lit (.int .u8 0)]]
/-- One of Go's own tables, pinned by name: the form's constant. -/
def laid_unicode_utf8_first : DataW Unit := Go.Pinned.utf8First
def laid_math_bits_deBruijn32tab {H : Type} : DataW H := .agg [.lit (.int .u8 0), .lit (.int .u8 1), .lit (.int .u8 28), .lit (.int .u8 2), .lit (.int .u8 29), .lit (.int .u8 14), .lit (.int .u8 24), .lit (.int .u8 3), .lit (.int .u8 30), .lit (.int .u8 22), .lit (.int .u8 20), .lit (.int .u8 15), .lit (.int .u8 25), .lit (.int .u8 17), .lit (.int .u8 4), .lit (.int .u8 8), .lit (.int .u8 31), .lit (.int .u8 27), .lit (.int .u8 13), .lit (.int .u8 23), .lit (.int .u8 21), .lit (.int .u8 19), .lit (.int .u8 16), .lit (.int .u8 7), .lit (.int .u8 26), .lit (.int .u8 12), .lit (.int .u8 18), .lit (.int .u8 6), .lit (.int .u8 11), .lit (.int .u8 5), .lit (.int .u8 10), .lit (.int .u8 9)]
def laid_math_bits_deBruijn64tab {H : Type} : DataW H := .agg [.lit (.int .u8 0), .lit (.int .u8 1), .lit (.int .u8 56), .lit (.int .u8 2), .lit (.int .u8 57), .lit (.int .u8 49), .lit (.int .u8 28), .lit (.int .u8 3), .lit (.int .u8 61), .lit (.int .u8 58), .lit (.int .u8 42), .lit (.int .u8 50), .lit (.int .u8 38), .lit (.int .u8 29), .lit (.int .u8 17), .lit (.int .u8 4), .lit (.int .u8 62), .lit (.int .u8 47), .lit (.int .u8 59), .lit (.int .u8 36), .lit (.int .u8 45), .lit (.int .u8 43), .lit (.int .u8 51), .lit (.int .u8 22), .lit (.int .u8 53), .lit (.int .u8 39), .lit (.int .u8 33), .lit (.int .u8 30), .lit (.int .u8 24), .lit (.int .u8 18), .lit (.int .u8 12), .lit (.int .u8 5), .lit (.int .u8 63), .lit (.int .u8 55), .lit (.int .u8 48), .lit (.int .u8 27), .lit (.int .u8 60), .lit (.int .u8 41), .lit (.int .u8 37), .lit (.int .u8 16), .lit (.int .u8 46), .lit (.int .u8 35), .lit (.int .u8 44), .lit (.int .u8 21), .lit (.int .u8 52), .lit (.int .u8 32), .lit (.int .u8 23), .lit (.int .u8 11), .lit (.int .u8 54), .lit (.int .u8 26), .lit (.int .u8 40), .lit (.int .u8 15), .lit (.int .u8 34), .lit (.int .u8 20), .lit (.int .u8 31), .lit (.int .u8 10), .lit (.int .u8 25), .lit (.int .u8 14), .lit (.int .u8 19), .lit (.int .u8 9), .lit (.int .u8 13), .lit (.int .u8 8), .lit (.int .u8 7), .lit (.int .u8 6)]
def laid_internal_strconv_uint64pow10 {H : Type} : DataW H := .agg [.lit (.int .u64 1), .lit (.int .u64 10), .lit (.int .u64 100), .lit (.int .u64 1000), .lit (.int .u64 10000), .lit (.int .u64 100000), .lit (.int .u64 1000000), .lit (.int .u64 10000000), .lit (.int .u64 100000000), .lit (.int .u64 1000000000), .lit (.int .u64 10000000000), .lit (.int .u64 100000000000), .lit (.int .u64 1000000000000), .lit (.int .u64 10000000000000), .lit (.int .u64 100000000000000), .lit (.int .u64 1000000000000000), .lit (.int .u64 10000000000000000), .lit (.int .u64 100000000000000000), .lit (.int .u64 1000000000000000000), .lit (.int .u64 10000000000000000000)]
def laid_strconv_ErrRange {H : Type} : DataW H := .iface "*errors.errorString" (.ptr (.agg [.lit (.string [118, 97, 108, 117, 101, 32, 111, 117, 116, 32, 111, 102, 32, 114, 97, 110, 103, 101])]))
def laid_strconv_ErrSyntax {H : Type} : DataW H := .iface "*errors.errorString" (.ptr (.agg [.lit (.string [105, 110, 118, 97, 108, 105, 100, 32, 115, 121, 110, 116, 97, 120])]))

/-- 'laws.FnExactIsCounterList': WHATEVER THE INPUT: true; the input reads as it did. -/
def fnExactIsCounterListSpec : ChangeSpec := { name := "fnExactIsCounterList", fn := fun _ => fun
  | [d] => { results := [.lit (.bool true)], args := [d] }
  | _ => none }
def fnExactIsCounterListRow : OpenClaim := { program := "ytmochhgmhhopoaadoor", sum := "57dda00058e4d545c73247b966f03eadbfa2837762b8659c34a6e2daadd743bf", func := "loop.example/g00840/laws.FnExactIsCounterList", spec := "fnExactIsCounterList", inPlace := ["internal/bytealg.CountString", "internal/bytealg.IndexByteString", "internal/bytealg.IndexString"], named := ["unicode/utf8.first", "unicode/utf8.acceptRanges", "internal/bytealg.MaxLen"], apart := false, laid := [("unicode/utf8.acceptRanges", laid_unicode_utf8_acceptRanges), ("unicode/utf8.first", laid_unicode_utf8_first)] }
def FnExactIsCounterListSaid : Prop := fnExactIsCounterListRow.holds Tryd.pinned (OpenSpec.ofChange fnExactIsCounterListSpec)

/-- ITS FALSE NEIGHBOUR: 'it returns false'. Refute it at one input. -/
def fnExactIsCounterListWrong : ChangeSpec := { name := "fnExactIsCounterList", fn := fun _ => fun
  | [d] => { results := [.lit (.bool false)], args := [d] }
  | _ => none }
def FnExactIsCounterListWrongFalsely : Prop := fnExactIsCounterListRow.holds Tryd.pinned (OpenSpec.ofChange fnExactIsCounterListWrong)

/-- 'laws.FnExactTotalBelow': WHATEVER THE INPUT: true; the input reads as it did. -/
def fnExactTotalBelowSpec : ChangeSpec := { name := "fnExactTotalBelow", fn := fun _ => fun
  | [d1, d2] => { results := [.lit (.bool true)], args := [d1, d2] }
  | _ => none }
def fnExactTotalBelowRow : OpenClaim := { program := "ytmochhgmhhopoaadoor", sum := "57dda00058e4d545c73247b966f03eadbfa2837762b8659c34a6e2daadd743bf", func := "loop.example/g00840/laws.FnExactTotalBelow", spec := "fnExactTotalBelow", inPlace := ["internal/bytealg.CountString", "internal/bytealg.IndexByteString", "internal/bytealg.IndexString"], named := ["unicode/utf8.first", "unicode/utf8.acceptRanges", "internal/bytealg.MaxLen"], apart := false, laid := [("unicode/utf8.acceptRanges", laid_unicode_utf8_acceptRanges), ("unicode/utf8.first", laid_unicode_utf8_first)] }
def FnExactTotalBelowSaid : Prop := fnExactTotalBelowRow.holds Tryd.pinned (OpenSpec.ofChange fnExactTotalBelowSpec)

/-- ITS FALSE NEIGHBOUR: 'it returns false'. Refute it at one input. -/
def fnExactTotalBelowWrong : ChangeSpec := { name := "fnExactTotalBelow", fn := fun _ => fun
  | [d1, d2] => { results := [.lit (.bool false)], args := [d1, d2] }
  | _ => none }
def FnExactTotalBelowWrongFalsely : Prop := fnExactTotalBelowRow.holds Tryd.pinned (OpenSpec.ofChange fnExactTotalBelowWrong)

/-- 'laws.FnExactCounterOf': WHATEVER THE INPUT: true; the input reads as it did. -/
def fnExactCounterOfSpec : ChangeSpec := { name := "fnExactCounterOf", fn := fun _ => fun
  | [d1, d2] => { results := [.lit (.bool true)], args := [d1, d2] }
  | _ => none }
def fnExactCounterOfRow : OpenClaim := { program := "ytmochhgmhhopoaadoor", sum := "57dda00058e4d545c73247b966f03eadbfa2837762b8659c34a6e2daadd743bf", func := "loop.example/g00840/laws.FnExactCounterOf", spec := "fnExactCounterOf", inPlace := ["internal/bytealg.CountString", "internal/bytealg.IndexByteString", "internal/bytealg.IndexString", "internal/bytealg.abigen_runtime_cmpstring"], unfollowed := true, recurses := true, named := ["unicode/utf8.first", "unicode/utf8.acceptRanges", "internal/bytealg.MaxLen"], apart := false, laid := [("unicode/utf8.acceptRanges", laid_unicode_utf8_acceptRanges), ("unicode/utf8.first", laid_unicode_utf8_first)] }
def FnExactCounterOfSaid : Prop := fnExactCounterOfRow.holds Tryd.pinned (OpenSpec.ofChange fnExactCounterOfSpec)

/-- ITS FALSE NEIGHBOUR: 'it returns false'. Refute it at one input. -/
def fnExactCounterOfWrong : ChangeSpec := { name := "fnExactCounterOf", fn := fun _ => fun
  | [d1, d2] => { results := [.lit (.bool false)], args := [d1, d2] }
  | _ => none }
def FnExactCounterOfWrongFalsely : Prop := fnExactCounterOfRow.holds Tryd.pinned (OpenSpec.ofChange fnExactCounterOfWrong)

/-- 'laws.FnExactDropBelow': WHATEVER THE INPUT: true; the input reads as it did. -/
def fnExactDropBelowSpec : ChangeSpec := { name := "fnExactDropBelow", fn := fun _ => fun
  | [d1, d2] => { results := [.lit (.bool true)], args := [d1, d2] }
  | _ => none }
def fnExactDropBelowRow : OpenClaim := { program := "ytmochhgmhhopoaadoor", sum := "57dda00058e4d545c73247b966f03eadbfa2837762b8659c34a6e2daadd743bf", func := "loop.example/g00840/laws.FnExactDropBelow", spec := "fnExactDropBelow", inPlace := ["internal/bytealg.CountString", "internal/bytealg.IndexByteString", "internal/bytealg.IndexString"], unfollowed := true, recurses := true, named := ["unicode/utf8.first", "unicode/utf8.acceptRanges", "internal/bytealg.MaxLen"], apart := false, laid := [("unicode/utf8.acceptRanges", laid_unicode_utf8_acceptRanges), ("unicode/utf8.first", laid_unicode_utf8_first)] }
def FnExactDropBelowSaid : Prop := fnExactDropBelowRow.holds Tryd.pinned (OpenSpec.ofChange fnExactDropBelowSpec)

/-- ITS FALSE NEIGHBOUR: 'it returns false'. Refute it at one input. -/
def fnExactDropBelowWrong : ChangeSpec := { name := "fnExactDropBelow", fn := fun _ => fun
  | [d1, d2] => { results := [.lit (.bool false)], args := [d1, d2] }
  | _ => none }
def FnExactDropBelowWrongFalsely : Prop := fnExactDropBelowRow.holds Tryd.pinned (OpenSpec.ofChange fnExactDropBelowWrong)

/-- 'laws.FnExactCounterChanges': WHATEVER THE INPUT: true; the input reads as it did. -/
def fnExactCounterChangesSpec : ChangeSpec := { name := "fnExactCounterChanges", fn := fun _ => fun
  | [d1, d2] => { results := [.lit (.bool true)], args := [d1, d2] }
  | _ => none }
def fnExactCounterChangesRow : OpenClaim := { program := "ytmochhgmhhopoaadoor", sum := "57dda00058e4d545c73247b966f03eadbfa2837762b8659c34a6e2daadd743bf", func := "loop.example/g00840/laws.FnExactCounterChanges", spec := "fnExactCounterChanges", inPlace := ["internal/bytealg.CountString", "internal/bytealg.IndexByteString", "internal/bytealg.IndexString", "internal/bytealg.abigen_runtime_cmpstring"], unfollowed := true, recurses := true, named := ["unicode/utf8.first", "unicode/utf8.acceptRanges", "internal/bytealg.MaxLen"], apart := false, laid := [("unicode/utf8.acceptRanges", laid_unicode_utf8_acceptRanges), ("unicode/utf8.first", laid_unicode_utf8_first)] }
def FnExactCounterChangesSaid : Prop := fnExactCounterChangesRow.holds Tryd.pinned (OpenSpec.ofChange fnExactCounterChangesSpec)

/-- ITS FALSE NEIGHBOUR: 'it returns false'. Refute it at one input. -/
def fnExactCounterChangesWrong : ChangeSpec := { name := "fnExactCounterChanges", fn := fun _ => fun
  | [d1, d2] => { results := [.lit (.bool false)], args := [d1, d2] }
  | _ => none }
def FnExactCounterChangesWrongFalsely : Prop := fnExactCounterChangesRow.holds Tryd.pinned (OpenSpec.ofChange fnExactCounterChangesWrong)

/-- 'laws.FnExactBumpCounter': WHATEVER THE INPUT: true; the input reads as it did. -/
def fnExactBumpCounterSpec : ChangeSpec := { name := "fnExactBumpCounter", fn := fun _ => fun
  | [d1, d2, d3] => { results := [.lit (.bool true)], args := [d1, d2, d3] }
  | _ => none }
def fnExactBumpCounterRow : OpenClaim := { program := "ytmochhgmhhopoaadoor", sum := "57dda00058e4d545c73247b966f03eadbfa2837762b8659c34a6e2daadd743bf", func := "loop.example/g00840/laws.FnExactBumpCounter", spec := "fnExactBumpCounter", inPlace := ["internal/bytealg.CountString", "internal/bytealg.IndexByteString", "internal/bytealg.IndexString", "internal/bytealg.abigen_runtime_cmpstring", "slices.overlaps[loop.example/g00840/impl.Counter]"], unfollowed := true, recurses := true, named := ["unicode/utf8.first", "unicode/utf8.acceptRanges", "internal/bytealg.MaxLen"], apart := false, laid := [("unicode/utf8.acceptRanges", laid_unicode_utf8_acceptRanges), ("unicode/utf8.first", laid_unicode_utf8_first)] }
def FnExactBumpCounterSaid : Prop := fnExactBumpCounterRow.holds Tryd.pinned (OpenSpec.ofChange fnExactBumpCounterSpec)

/-- ITS FALSE NEIGHBOUR: 'it returns false'. Refute it at one input. -/
def fnExactBumpCounterWrong : ChangeSpec := { name := "fnExactBumpCounter", fn := fun _ => fun
  | [d1, d2, d3] => { results := [.lit (.bool false)], args := [d1, d2, d3] }
  | _ => none }
def FnExactBumpCounterWrongFalsely : Prop := fnExactBumpCounterRow.holds Tryd.pinned (OpenSpec.ofChange fnExactBumpCounterWrong)

/-- 'laws.FnExactAddCounters': WHATEVER THE INPUT: true; the input reads as it did. -/
def fnExactAddCountersSpec : ChangeSpec := { name := "fnExactAddCounters", fn := fun _ => fun
  | [d1, d2] => { results := [.lit (.bool true)], args := [d1, d2] }
  | _ => none }
def fnExactAddCountersRow : OpenClaim := { program := "ytmochhgmhhopoaadoor", sum := "57dda00058e4d545c73247b966f03eadbfa2837762b8659c34a6e2daadd743bf", func := "loop.example/g00840/laws.FnExactAddCounters", spec := "fnExactAddCounters", inPlace := ["internal/bytealg.CountString", "internal/bytealg.IndexByteString", "internal/bytealg.IndexString", "internal/bytealg.abigen_runtime_cmpstring", "slices.overlaps[loop.example/g00840/impl.Counter]"], unfollowed := true, recurses := true, named := ["unicode/utf8.first", "unicode/utf8.acceptRanges", "internal/bytealg.MaxLen"], apart := false, laid := [("unicode/utf8.acceptRanges", laid_unicode_utf8_acceptRanges), ("unicode/utf8.first", laid_unicode_utf8_first)] }
def FnExactAddCountersSaid : Prop := fnExactAddCountersRow.holds Tryd.pinned (OpenSpec.ofChange fnExactAddCountersSpec)

/-- ITS FALSE NEIGHBOUR: 'it returns false'. Refute it at one input. -/
def fnExactAddCountersWrong : ChangeSpec := { name := "fnExactAddCounters", fn := fun _ => fun
  | [d1, d2] => { results := [.lit (.bool false)], args := [d1, d2] }
  | _ => none }
def FnExactAddCountersWrongFalsely : Prop := fnExactAddCountersRow.holds Tryd.pinned (OpenSpec.ofChange fnExactAddCountersWrong)

/-- 'laws.FnExactTopCounters': WHATEVER THE INPUT: true; the input reads as it did. -/
def fnExactTopCountersSpec : ChangeSpec := { name := "fnExactTopCounters", fn := fun _ => fun
  | [d1, d2] => { results := [.lit (.bool true)], args := [d1, d2] }
  | _ => none }
def fnExactTopCountersRow : OpenClaim := { program := "ytmochhgmhhopoaadoor", sum := "57dda00058e4d545c73247b966f03eadbfa2837762b8659c34a6e2daadd743bf", func := "loop.example/g00840/laws.FnExactTopCounters", spec := "fnExactTopCounters", inPlace := ["internal/bytealg.CountString", "internal/bytealg.IndexByteString", "internal/bytealg.IndexString"], unfollowed := true, recurses := true, named := ["unicode/utf8.first", "unicode/utf8.acceptRanges", "internal/bytealg.MaxLen"], apart := false, laid := [("unicode/utf8.acceptRanges", laid_unicode_utf8_acceptRanges), ("unicode/utf8.first", laid_unicode_utf8_first)] }
def FnExactTopCountersSaid : Prop := fnExactTopCountersRow.holds Tryd.pinned (OpenSpec.ofChange fnExactTopCountersSpec)

/-- ITS FALSE NEIGHBOUR: 'it returns false'. Refute it at one input. -/
def fnExactTopCountersWrong : ChangeSpec := { name := "fnExactTopCounters", fn := fun _ => fun
  | [d1, d2] => { results := [.lit (.bool false)], args := [d1, d2] }
  | _ => none }
def FnExactTopCountersWrongFalsely : Prop := fnExactTopCountersRow.holds Tryd.pinned (OpenSpec.ofChange fnExactTopCountersWrong)

/-- 'laws.FnExactCounterText': WHATEVER THE INPUT: true; the input reads as it did. -/
def fnExactCounterTextSpec : ChangeSpec := { name := "fnExactCounterText", fn := fun _ => fun
  | [d] => { results := [.lit (.bool true)], args := [d] }
  | _ => none }
def fnExactCounterTextRow : OpenClaim := { program := "ytmochhgmhhopoaadoor", sum := "57dda00058e4d545c73247b966f03eadbfa2837762b8659c34a6e2daadd743bf", func := "loop.example/g00840/laws.FnExactCounterText", spec := "fnExactCounterText", inPlace := ["internal/bytealg.CountString", "internal/bytealg.IndexByteString", "internal/bytealg.IndexString", "internal/abi.NoEscape", "internal/bytealg.MakeNoZero"], recurses := true, named := ["unicode/utf8.first", "unicode/utf8.acceptRanges", "internal/bytealg.MaxLen", "internal/strconv.uint64pow10", "math/bits.deBruijn32tab", "math/bits.deBruijn64tab"], apart := false, laid := [("math/bits.deBruijn32tab", laid_math_bits_deBruijn32tab), ("math/bits.deBruijn64tab", laid_math_bits_deBruijn64tab), ("internal/strconv.uint64pow10", laid_internal_strconv_uint64pow10), ("unicode/utf8.acceptRanges", laid_unicode_utf8_acceptRanges), ("unicode/utf8.first", laid_unicode_utf8_first)] }
def FnExactCounterTextSaid : Prop := fnExactCounterTextRow.holds Tryd.pinned (OpenSpec.ofChange fnExactCounterTextSpec)

/-- ITS FALSE NEIGHBOUR: 'it returns false'. Refute it at one input. -/
def fnExactCounterTextWrong : ChangeSpec := { name := "fnExactCounterText", fn := fun _ => fun
  | [d] => { results := [.lit (.bool false)], args := [d] }
  | _ => none }
def FnExactCounterTextWrongFalsely : Prop := fnExactCounterTextRow.holds Tryd.pinned (OpenSpec.ofChange fnExactCounterTextWrong)

/-- 'laws.FnExactParseCounters': WHATEVER THE INPUT: true; the input reads as it did. -/
def fnExactParseCountersSpec : ChangeSpec := { name := "fnExactParseCounters", fn := fun _ => fun
  | [d] => { results := [.lit (.bool true)], args := [d] }
  | _ => none }
def fnExactParseCountersRow : OpenClaim := { program := "ytmochhgmhhopoaadoor", sum := "57dda00058e4d545c73247b966f03eadbfa2837762b8659c34a6e2daadd743bf", func := "loop.example/g00840/laws.FnExactParseCounters", spec := "fnExactParseCounters", inPlace := ["internal/bytealg.CountString", "internal/bytealg.IndexByteString", "internal/bytealg.IndexString", "internal/abi.NoEscape", "internal/bytealg.MakeNoZero"], recurses := true, named := ["unicode/utf8.first", "unicode/utf8.acceptRanges", "internal/bytealg.MaxLen", "strconv.ErrSyntax", "strconv.ErrRange", "internal/strconv.uint64pow10", "math/bits.deBruijn32tab", "math/bits.deBruijn64tab"], apart := false, laid := [("math/bits.deBruijn32tab", laid_math_bits_deBruijn32tab), ("math/bits.deBruijn64tab", laid_math_bits_deBruijn64tab), ("internal/strconv.uint64pow10", laid_internal_strconv_uint64pow10), ("unicode/utf8.acceptRanges", laid_unicode_utf8_acceptRanges), ("strconv.ErrRange", laid_strconv_ErrRange), ("strconv.ErrSyntax", laid_strconv_ErrSyntax), ("unicode/utf8.first", laid_unicode_utf8_first)] }
def FnExactParseCountersSaid : Prop := fnExactParseCountersRow.holds Tryd.pinned (OpenSpec.ofChange fnExactParseCountersSpec)

/-- ITS FALSE NEIGHBOUR: 'it returns false'. Refute it at one input. -/
def fnExactParseCountersWrong : ChangeSpec := { name := "fnExactParseCounters", fn := fun _ => fun
  | [d] => { results := [.lit (.bool false)], args := [d] }
  | _ => none }
def FnExactParseCountersWrongFalsely : Prop := fnExactParseCountersRow.holds Tryd.pinned (OpenSpec.ofChange fnExactParseCountersWrong)

/-- 'laws.FnCounterSums': WHATEVER THE INPUT: true; the input reads as it did. -/
def fnCounterSumsSpec : ChangeSpec := { name := "fnCounterSums", fn := fun _ => fun
  | [d] => { results := [.lit (.bool true)], args := [d] }
  | _ => none }
def fnCounterSumsRow : OpenClaim := { program := "ytmochhgmhhopoaadoor", sum := "57dda00058e4d545c73247b966f03eadbfa2837762b8659c34a6e2daadd743bf", func := "loop.example/g00840/laws.FnCounterSums", spec := "fnCounterSums", inPlace := ["internal/bytealg.CountString", "internal/bytealg.IndexByteString", "internal/bytealg.IndexString", "internal/bytealg.abigen_runtime_cmpstring", "slices.overlaps[loop.example/g00840/impl.Counter]"], unfollowed := true, recurses := true, named := ["unicode/utf8.first", "unicode/utf8.acceptRanges", "internal/bytealg.MaxLen"], apart := false, laid := [("unicode/utf8.acceptRanges", laid_unicode_utf8_acceptRanges), ("unicode/utf8.first", laid_unicode_utf8_first)] }
def FnCounterSumsSaid : Prop := fnCounterSumsRow.holds Tryd.pinned (OpenSpec.ofChange fnCounterSumsSpec)

/-- ITS FALSE NEIGHBOUR: 'it returns false'. Refute it at one input. -/
def fnCounterSumsWrong : ChangeSpec := { name := "fnCounterSums", fn := fun _ => fun
  | [d] => { results := [.lit (.bool false)], args := [d] }
  | _ => none }
def FnCounterSumsWrongFalsely : Prop := fnCounterSumsRow.holds Tryd.pinned (OpenSpec.ofChange fnCounterSumsWrong)

/- THE SECOND FORM. 'bulk': how many values and letters a reading holds, each counted each time it is reached (what is shared counts as often as it is met; a slice's spare places count too). A statement '..UptoSaid' is the law's where the arguments, and the package variables that the reading takes, are together of bulk at most 1048576: NARROWER than '..Said'. Prove '..Said' where nothing that the law and all that it calls make is longer than what came in: it says more and counts as full. Else prove '..UptoSaid'. A law counts once. -/
mutual
def uptoBulk {H : Type} : DataW H → Nat
  | .lit (.string bytes) => bytes.length + 1
  | .lit _ => 1
  | .nil => 1
  | .ptr d => uptoBulk d + 1
  | .slice elems spare => uptoBulkAll elems + uptoBulkAll spare + 1
  | .agg parts => uptoBulkAll parts + 1
  | .iface _ d => uptoBulk d + 1
  | .map entries => uptoBulkEntries entries + 1
  | .held _ => 1
def uptoBulkAll {H : Type} : List (DataW H) → Nat
  | [] => 0
  | d :: r => uptoBulk d + uptoBulkAll r
def uptoBulkEntries {H : Type} : List (Lit × DataW H) → Nat
  | [] => 0
  | x :: r => uptoBulkEntry x + uptoBulkEntries r
def uptoBulkEntry {H : Type} : Lit × DataW H → Nat
  | (.string bytes, d) => bytes.length + uptoBulk d + 1
  | (_, d) => uptoBulk d + 1
 end
def uptoSmall : (H : Type) → List (DataW H) → Bool := fun _ ds => decide (uptoBulkAll ds ≤ 1048576)
def OpenSpec.upto (s : _root_.Go.ChangeSpec) : _root_.Go.OpenSpec := { _root_.Go.OpenSpec.ofChange s with cond := some uptoSmall }

/-- 'laws.FnExactIsCounterList', WHERE WHAT IT READS IS OF BULK AT MOST 1048576: true; the input reads as it did. -/
def fnExactIsCounterListUptoRow : OpenClaim := { program := "ytmochhgmhhopoaadoor", sum := "57dda00058e4d545c73247b966f03eadbfa2837762b8659c34a6e2daadd743bf", func := "loop.example/g00840/laws.FnExactIsCounterList", spec := "fnExactIsCounterList", inPlace := ["internal/bytealg.CountString", "internal/bytealg.IndexByteString", "internal/bytealg.IndexString"], named := ["unicode/utf8.first", "unicode/utf8.acceptRanges", "internal/bytealg.MaxLen"], apart := false, laid := [("unicode/utf8.acceptRanges", laid_unicode_utf8_acceptRanges), ("unicode/utf8.first", laid_unicode_utf8_first)], narrowed := true }
def FnExactIsCounterListUptoSaid : Prop := fnExactIsCounterListUptoRow.holds Tryd.pinned (OpenSpec.upto fnExactIsCounterListSpec)

/-- 'laws.FnExactTotalBelow', WHERE WHAT IT READS IS OF BULK AT MOST 1048576: true; the input reads as it did. -/
def fnExactTotalBelowUptoRow : OpenClaim := { program := "ytmochhgmhhopoaadoor", sum := "57dda00058e4d545c73247b966f03eadbfa2837762b8659c34a6e2daadd743bf", func := "loop.example/g00840/laws.FnExactTotalBelow", spec := "fnExactTotalBelow", inPlace := ["internal/bytealg.CountString", "internal/bytealg.IndexByteString", "internal/bytealg.IndexString"], named := ["unicode/utf8.first", "unicode/utf8.acceptRanges", "internal/bytealg.MaxLen"], apart := false, laid := [("unicode/utf8.acceptRanges", laid_unicode_utf8_acceptRanges), ("unicode/utf8.first", laid_unicode_utf8_first)], narrowed := true }
def FnExactTotalBelowUptoSaid : Prop := fnExactTotalBelowUptoRow.holds Tryd.pinned (OpenSpec.upto fnExactTotalBelowSpec)

/-- 'laws.FnExactCounterOf', WHERE WHAT IT READS IS OF BULK AT MOST 1048576: true; the input reads as it did. -/
def fnExactCounterOfUptoRow : OpenClaim := { program := "ytmochhgmhhopoaadoor", sum := "57dda00058e4d545c73247b966f03eadbfa2837762b8659c34a6e2daadd743bf", func := "loop.example/g00840/laws.FnExactCounterOf", spec := "fnExactCounterOf", inPlace := ["internal/bytealg.CountString", "internal/bytealg.IndexByteString", "internal/bytealg.IndexString", "internal/bytealg.abigen_runtime_cmpstring"], unfollowed := true, recurses := true, named := ["unicode/utf8.first", "unicode/utf8.acceptRanges", "internal/bytealg.MaxLen"], apart := false, laid := [("unicode/utf8.acceptRanges", laid_unicode_utf8_acceptRanges), ("unicode/utf8.first", laid_unicode_utf8_first)], narrowed := true }
def FnExactCounterOfUptoSaid : Prop := fnExactCounterOfUptoRow.holds Tryd.pinned (OpenSpec.upto fnExactCounterOfSpec)

/-- 'laws.FnExactDropBelow', WHERE WHAT IT READS IS OF BULK AT MOST 1048576: true; the input reads as it did. -/
def fnExactDropBelowUptoRow : OpenClaim := { program := "ytmochhgmhhopoaadoor", sum := "57dda00058e4d545c73247b966f03eadbfa2837762b8659c34a6e2daadd743bf", func := "loop.example/g00840/laws.FnExactDropBelow", spec := "fnExactDropBelow", inPlace := ["internal/bytealg.CountString", "internal/bytealg.IndexByteString", "internal/bytealg.IndexString"], unfollowed := true, recurses := true, named := ["unicode/utf8.first", "unicode/utf8.acceptRanges", "internal/bytealg.MaxLen"], apart := false, laid := [("unicode/utf8.acceptRanges", laid_unicode_utf8_acceptRanges), ("unicode/utf8.first", laid_unicode_utf8_first)], narrowed := true }
def FnExactDropBelowUptoSaid : Prop := fnExactDropBelowUptoRow.holds Tryd.pinned (OpenSpec.upto fnExactDropBelowSpec)

/-- 'laws.FnExactCounterChanges', WHERE WHAT IT READS IS OF BULK AT MOST 1048576: true; the input reads as it did. -/
def fnExactCounterChangesUptoRow : OpenClaim := { program := "ytmochhgmhhopoaadoor", sum := "57dda00058e4d545c73247b966f03eadbfa2837762b8659c34a6e2daadd743bf", func := "loop.example/g00840/laws.FnExactCounterChanges", spec := "fnExactCounterChanges", inPlace := ["internal/bytealg.CountString", "internal/bytealg.IndexByteString", "internal/bytealg.IndexString", "internal/bytealg.abigen_runtime_cmpstring"], unfollowed := true, recurses := true, named := ["unicode/utf8.first", "unicode/utf8.acceptRanges", "internal/bytealg.MaxLen"], apart := false, laid := [("unicode/utf8.acceptRanges", laid_unicode_utf8_acceptRanges), ("unicode/utf8.first", laid_unicode_utf8_first)], narrowed := true }
def FnExactCounterChangesUptoSaid : Prop := fnExactCounterChangesUptoRow.holds Tryd.pinned (OpenSpec.upto fnExactCounterChangesSpec)

/-- 'laws.FnExactBumpCounter', WHERE WHAT IT READS IS OF BULK AT MOST 1048576: true; the input reads as it did. -/
def fnExactBumpCounterUptoRow : OpenClaim := { program := "ytmochhgmhhopoaadoor", sum := "57dda00058e4d545c73247b966f03eadbfa2837762b8659c34a6e2daadd743bf", func := "loop.example/g00840/laws.FnExactBumpCounter", spec := "fnExactBumpCounter", inPlace := ["internal/bytealg.CountString", "internal/bytealg.IndexByteString", "internal/bytealg.IndexString", "internal/bytealg.abigen_runtime_cmpstring", "slices.overlaps[loop.example/g00840/impl.Counter]"], unfollowed := true, recurses := true, named := ["unicode/utf8.first", "unicode/utf8.acceptRanges", "internal/bytealg.MaxLen"], apart := false, laid := [("unicode/utf8.acceptRanges", laid_unicode_utf8_acceptRanges), ("unicode/utf8.first", laid_unicode_utf8_first)], narrowed := true }
def FnExactBumpCounterUptoSaid : Prop := fnExactBumpCounterUptoRow.holds Tryd.pinned (OpenSpec.upto fnExactBumpCounterSpec)

/-- 'laws.FnExactAddCounters', WHERE WHAT IT READS IS OF BULK AT MOST 1048576: true; the input reads as it did. -/
def fnExactAddCountersUptoRow : OpenClaim := { program := "ytmochhgmhhopoaadoor", sum := "57dda00058e4d545c73247b966f03eadbfa2837762b8659c34a6e2daadd743bf", func := "loop.example/g00840/laws.FnExactAddCounters", spec := "fnExactAddCounters", inPlace := ["internal/bytealg.CountString", "internal/bytealg.IndexByteString", "internal/bytealg.IndexString", "internal/bytealg.abigen_runtime_cmpstring", "slices.overlaps[loop.example/g00840/impl.Counter]"], unfollowed := true, recurses := true, named := ["unicode/utf8.first", "unicode/utf8.acceptRanges", "internal/bytealg.MaxLen"], apart := false, laid := [("unicode/utf8.acceptRanges", laid_unicode_utf8_acceptRanges), ("unicode/utf8.first", laid_unicode_utf8_first)], narrowed := true }
def FnExactAddCountersUptoSaid : Prop := fnExactAddCountersUptoRow.holds Tryd.pinned (OpenSpec.upto fnExactAddCountersSpec)

/-- 'laws.FnExactTopCounters', WHERE WHAT IT READS IS OF BULK AT MOST 1048576: true; the input reads as it did. -/
def fnExactTopCountersUptoRow : OpenClaim := { program := "ytmochhgmhhopoaadoor", sum := "57dda00058e4d545c73247b966f03eadbfa2837762b8659c34a6e2daadd743bf", func := "loop.example/g00840/laws.FnExactTopCounters", spec := "fnExactTopCounters", inPlace := ["internal/bytealg.CountString", "internal/bytealg.IndexByteString", "internal/bytealg.IndexString"], unfollowed := true, recurses := true, named := ["unicode/utf8.first", "unicode/utf8.acceptRanges", "internal/bytealg.MaxLen"], apart := false, laid := [("unicode/utf8.acceptRanges", laid_unicode_utf8_acceptRanges), ("unicode/utf8.first", laid_unicode_utf8_first)], narrowed := true }
def FnExactTopCountersUptoSaid : Prop := fnExactTopCountersUptoRow.holds Tryd.pinned (OpenSpec.upto fnExactTopCountersSpec)

/-- 'laws.FnExactCounterText', WHERE WHAT IT READS IS OF BULK AT MOST 1048576: true; the input reads as it did. -/
def fnExactCounterTextUptoRow : OpenClaim := { program := "ytmochhgmhhopoaadoor", sum := "57dda00058e4d545c73247b966f03eadbfa2837762b8659c34a6e2daadd743bf", func := "loop.example/g00840/laws.FnExactCounterText", spec := "fnExactCounterText", inPlace := ["internal/bytealg.CountString", "internal/bytealg.IndexByteString", "internal/bytealg.IndexString", "internal/abi.NoEscape", "internal/bytealg.MakeNoZero"], recurses := true, named := ["unicode/utf8.first", "unicode/utf8.acceptRanges", "internal/bytealg.MaxLen", "internal/strconv.uint64pow10", "math/bits.deBruijn32tab", "math/bits.deBruijn64tab"], apart := false, laid := [("math/bits.deBruijn32tab", laid_math_bits_deBruijn32tab), ("math/bits.deBruijn64tab", laid_math_bits_deBruijn64tab), ("internal/strconv.uint64pow10", laid_internal_strconv_uint64pow10), ("unicode/utf8.acceptRanges", laid_unicode_utf8_acceptRanges), ("unicode/utf8.first", laid_unicode_utf8_first)], narrowed := true }
def FnExactCounterTextUptoSaid : Prop := fnExactCounterTextUptoRow.holds Tryd.pinned (OpenSpec.upto fnExactCounterTextSpec)

/-- 'laws.FnExactParseCounters', WHERE WHAT IT READS IS OF BULK AT MOST 1048576: true; the input reads as it did. -/
def fnExactParseCountersUptoRow : OpenClaim := { program := "ytmochhgmhhopoaadoor", sum := "57dda00058e4d545c73247b966f03eadbfa2837762b8659c34a6e2daadd743bf", func := "loop.example/g00840/laws.FnExactParseCounters", spec := "fnExactParseCounters", inPlace := ["internal/bytealg.CountString", "internal/bytealg.IndexByteString", "internal/bytealg.IndexString", "internal/abi.NoEscape", "internal/bytealg.MakeNoZero"], recurses := true, named := ["unicode/utf8.first", "unicode/utf8.acceptRanges", "internal/bytealg.MaxLen", "strconv.ErrSyntax", "strconv.ErrRange", "internal/strconv.uint64pow10", "math/bits.deBruijn32tab", "math/bits.deBruijn64tab"], apart := false, laid := [("math/bits.deBruijn32tab", laid_math_bits_deBruijn32tab), ("math/bits.deBruijn64tab", laid_math_bits_deBruijn64tab), ("internal/strconv.uint64pow10", laid_internal_strconv_uint64pow10), ("unicode/utf8.acceptRanges", laid_unicode_utf8_acceptRanges), ("strconv.ErrRange", laid_strconv_ErrRange), ("strconv.ErrSyntax", laid_strconv_ErrSyntax), ("unicode/utf8.first", laid_unicode_utf8_first)], narrowed := true }
def FnExactParseCountersUptoSaid : Prop := fnExactParseCountersUptoRow.holds Tryd.pinned (OpenSpec.upto fnExactParseCountersSpec)

/-- 'laws.FnCounterSums', WHERE WHAT IT READS IS OF BULK AT MOST 1048576: true; the input reads as it did. -/
def fnCounterSumsUptoRow : OpenClaim := { program := "ytmochhgmhhopoaadoor", sum := "57dda00058e4d545c73247b966f03eadbfa2837762b8659c34a6e2daadd743bf", func := "loop.example/g00840/laws.FnCounterSums", spec := "fnCounterSums", inPlace := ["internal/bytealg.CountString", "internal/bytealg.IndexByteString", "internal/bytealg.IndexString", "internal/bytealg.abigen_runtime_cmpstring", "slices.overlaps[loop.example/g00840/impl.Counter]"], unfollowed := true, recurses := true, named := ["unicode/utf8.first", "unicode/utf8.acceptRanges", "internal/bytealg.MaxLen"], apart := false, laid := [("unicode/utf8.acceptRanges", laid_unicode_utf8_acceptRanges), ("unicode/utf8.first", laid_unicode_utf8_first)], narrowed := true }
def FnCounterSumsUptoSaid : Prop := fnCounterSumsUptoRow.holds Tryd.pinned (OpenSpec.upto fnCounterSumsSpec)

end Rows
end Go.Proofs.YtmochhgmhhopoaaDoor
