/-
  NARROWER THAN 'FOR EVERY INPUT', by the rows' own cells (each row's printed sentence says how): AliasMatchesSpec: laid · AliasLoopsMatchSpec: laid · AliasIsAFixedPoint: laid · AliasMoreIsMore: laid · EnvelopeDomainsMatchSpec: laid · EnvelopeMergeMatchesSpec: laid · EnvelopesOfDomainsJoin: laid · RoutesMatchSpec: laid · RoutesExactCounts: laid · RoutesHostsOnce: laid · ReplyMatchesSpec: laid · ReplyParseMatchesSpec: laid · ReplyRoundTrips: laid · EnvelopeMatchesSpec: laid.
  DERIVED. THE GIVEN ROWS OF THIS SEAT. 14 by the template 'for every input the law returns true; each argument reads behind the call as it read before'; 0 by the template 'total and deterministic' (their statements: YtbmeebhcanknmaaDoorTotals.lean).
  GIVEN WITH THE SEED: the statements are not yours to turn. If you find one false, say at which input.
  Laid BY PROGRAM, IN A SANDBOX (cutbox-rows.mjs): the forced cells as the released guide's own fill.sh prints them over the translation 8087beaf45d745ae… (all of the seat's roots in one cut). By AI agents, Wed Nov 11 2026. No macro, syntax, notation, axiom, sorry.
-/
import Derived.Test.YtbmeebhcanknmaaDoorChecked
import GoSem.PinnedTables
import GoSem.Claim
import GoSem.ClaimJoined
import GoSem.ClaimMapViews
import Derived.JoinedTies
import Derived.KernelRfl
namespace Go.Proofs.YtbmeebhcanknmaaDoor
/- THE CELL 'sum', in the pinned program and in every row, IS THE sha256 OF THE DUMP (.gsa) THAT YtbmeebhcanknmaaDoorProg.lean LOADS. Nothing in Lean hashes anything: it is a label: what it is worth is what the hold of that sum in a sandbox is worth. -/
noncomputable def Tryd.pinned : Pinned := { name := "ytbmeebhcanknmaadoor", sum := "8087beaf45d745aeb47bbd7019ebe4e451239c41b557d55a4548a34c9cbf5f21", checked := Tryd.checked }
namespace Rows
def none {H : Type} : Left H := { results := [], args := [] }

/- WHAT THE LISTED PACKAGE-LEVEL VARIABLES READ AS WHEN THE CALL BEGINS. Each datum BY PROGRAM (the guide's laid-datum.mjs) off the statement by which the dump's own 'gosem.cut.vars' lays the variable. In a bare row this is a premise. The card (YtbmeebhcanknmaaDoorCards.lean) ties it to the program's text. -/
def laid_unicode_utf8_acceptRanges {H : Type} : DataW H := .agg [.agg [.lit (.int .u8 128), .lit (.int .u8 191)], .agg [.lit (.int .u8 160), .lit (.int .u8 191)], .agg [.lit (.int .u8 128), .lit (.int .u8 159)], .agg [.lit (.int .u8 144), .lit (.int .u8 191)], .agg [.lit (.int .u8 128), .lit (.int .u8 143)], .agg [.lit (.int .u8 0), .lit (.int .u8 0)], .agg [.lit (.int .u8 0), .lit (.int .u8 0)], .agg [.lit (.int .u8 0), .lit (.int .u8 0)], .agg [.lit (.int .u8 0), .lit (.int .u8 0)], .agg [.lit (.int .u8 0), .lit (.int .u8 0)], .agg [.lit (.int .u8 0), .lit (.int .u8 0)], .agg [.lit (.int .u8 0), .lit (.int .u8 0)], .agg [.lit (.int .u8 0), .lit (.int .u8 0)], .agg [.lit (.int .u8 0), .lit (.int .u8 0)], .agg [.lit (.int .u8 0), .lit (.int .u8 0)], .agg [.lit (.int .u8 0), .lit (.int .u8 0)]]
/-- One of Go's own tables, pinned by name: the form's constant. -/
def laid_unicode_utf8_first : DataW Unit := Go.Pinned.utf8First
def laid_math_bits_deBruijn32tab {H : Type} : DataW H := .agg [.lit (.int .u8 0), .lit (.int .u8 1), .lit (.int .u8 28), .lit (.int .u8 2), .lit (.int .u8 29), .lit (.int .u8 14), .lit (.int .u8 24), .lit (.int .u8 3), .lit (.int .u8 30), .lit (.int .u8 22), .lit (.int .u8 20), .lit (.int .u8 15), .lit (.int .u8 25), .lit (.int .u8 17), .lit (.int .u8 4), .lit (.int .u8 8), .lit (.int .u8 31), .lit (.int .u8 27), .lit (.int .u8 13), .lit (.int .u8 23), .lit (.int .u8 21), .lit (.int .u8 19), .lit (.int .u8 16), .lit (.int .u8 7), .lit (.int .u8 26), .lit (.int .u8 12), .lit (.int .u8 18), .lit (.int .u8 6), .lit (.int .u8 11), .lit (.int .u8 5), .lit (.int .u8 10), .lit (.int .u8 9)]
def laid_math_bits_deBruijn64tab {H : Type} : DataW H := .agg [.lit (.int .u8 0), .lit (.int .u8 1), .lit (.int .u8 56), .lit (.int .u8 2), .lit (.int .u8 57), .lit (.int .u8 49), .lit (.int .u8 28), .lit (.int .u8 3), .lit (.int .u8 61), .lit (.int .u8 58), .lit (.int .u8 42), .lit (.int .u8 50), .lit (.int .u8 38), .lit (.int .u8 29), .lit (.int .u8 17), .lit (.int .u8 4), .lit (.int .u8 62), .lit (.int .u8 47), .lit (.int .u8 59), .lit (.int .u8 36), .lit (.int .u8 45), .lit (.int .u8 43), .lit (.int .u8 51), .lit (.int .u8 22), .lit (.int .u8 53), .lit (.int .u8 39), .lit (.int .u8 33), .lit (.int .u8 30), .lit (.int .u8 24), .lit (.int .u8 18), .lit (.int .u8 12), .lit (.int .u8 5), .lit (.int .u8 63), .lit (.int .u8 55), .lit (.int .u8 48), .lit (.int .u8 27), .lit (.int .u8 60), .lit (.int .u8 41), .lit (.int .u8 37), .lit (.int .u8 16), .lit (.int .u8 46), .lit (.int .u8 35), .lit (.int .u8 44), .lit (.int .u8 21), .lit (.int .u8 52), .lit (.int .u8 32), .lit (.int .u8 23), .lit (.int .u8 11), .lit (.int .u8 54), .lit (.int .u8 26), .lit (.int .u8 40), .lit (.int .u8 15), .lit (.int .u8 34), .lit (.int .u8 20), .lit (.int .u8 31), .lit (.int .u8 10), .lit (.int .u8 25), .lit (.int .u8 14), .lit (.int .u8 19), .lit (.int .u8 9), .lit (.int .u8 13), .lit (.int .u8 8), .lit (.int .u8 7), .lit (.int .u8 6)]
def laid_internal_strconv_uint64pow10 {H : Type} : DataW H := .agg [.lit (.int .u64 1), .lit (.int .u64 10), .lit (.int .u64 100), .lit (.int .u64 1000), .lit (.int .u64 10000), .lit (.int .u64 100000), .lit (.int .u64 1000000), .lit (.int .u64 10000000), .lit (.int .u64 100000000), .lit (.int .u64 1000000000), .lit (.int .u64 10000000000), .lit (.int .u64 100000000000), .lit (.int .u64 1000000000000), .lit (.int .u64 10000000000000), .lit (.int .u64 100000000000000), .lit (.int .u64 1000000000000000), .lit (.int .u64 10000000000000000), .lit (.int .u64 100000000000000000), .lit (.int .u64 1000000000000000000), .lit (.int .u64 10000000000000000000)]
def laid_strconv_ErrRange {H : Type} : DataW H := .iface "*errors.errorString" (.ptr (.agg [.lit (.string [118, 97, 108, 117, 101, 32, 111, 117, 116, 32, 111, 102, 32, 114, 97, 110, 103, 101])]))
def laid_strconv_ErrSyntax {H : Type} : DataW H := .iface "*errors.errorString" (.ptr (.agg [.lit (.string [105, 110, 118, 97, 108, 105, 100, 32, 115, 121, 110, 116, 97, 120])]))

/-- 'posthouselaw3.AliasMatchesSpec': WHATEVER THE INPUT: true; the input reads as it did. -/
def aliasMatchesSpecSpec : ChangeSpec := { name := "aliasMatchesSpec", fn := fun _ => fun
  | [d1, d2] => { results := [.lit (.bool true)], args := [d1, d2] }
  | _ => none }
def aliasMatchesSpecRow : OpenClaim := { program := "ytbmeebhcanknmaadoor", sum := "8087beaf45d745aeb47bbd7019ebe4e451239c41b557d55a4548a34c9cbf5f21", func := "posthouse/posthouselaw3.AliasMatchesSpec", spec := "aliasMatchesSpec", inPlace := ["internal/bytealg.IndexByteString", "internal/bytealg.IndexString"], unfollowed := true, recurses := true, named := ["internal/bytealg.MaxLen", "unicode/utf8.first", "unicode/utf8.acceptRanges"], apart := false, laid := [("unicode/utf8.acceptRanges", laid_unicode_utf8_acceptRanges), ("unicode/utf8.first", laid_unicode_utf8_first)] }
def AliasMatchesSpecSaid : Prop := aliasMatchesSpecRow.holds Tryd.pinned (OpenSpec.ofChange aliasMatchesSpecSpec)

/-- ITS FALSE NEIGHBOUR: 'it returns false'. Refute it at one input. -/
def aliasMatchesSpecWrong : ChangeSpec := { name := "aliasMatchesSpec", fn := fun _ => fun
  | [d1, d2] => { results := [.lit (.bool false)], args := [d1, d2] }
  | _ => none }
def AliasMatchesSpecWrongFalsely : Prop := aliasMatchesSpecRow.holds Tryd.pinned (OpenSpec.ofChange aliasMatchesSpecWrong)

/-- 'posthouselaw3.AliasLoopsMatchSpec': WHATEVER THE INPUT: true; the input reads as it did. -/
def aliasLoopsMatchSpecSpec : ChangeSpec := { name := "aliasLoopsMatchSpec", fn := fun _ => fun
  | [d] => { results := [.lit (.bool true)], args := [d] }
  | _ => none }
def aliasLoopsMatchSpecRow : OpenClaim := { program := "ytbmeebhcanknmaadoor", sum := "8087beaf45d745aeb47bbd7019ebe4e451239c41b557d55a4548a34c9cbf5f21", func := "posthouse/posthouselaw3.AliasLoopsMatchSpec", spec := "aliasLoopsMatchSpec", inPlace := ["internal/bytealg.IndexByteString", "internal/bytealg.IndexString"], unfollowed := true, recurses := true, named := ["internal/bytealg.MaxLen", "unicode/utf8.first", "unicode/utf8.acceptRanges"], apart := false, laid := [("unicode/utf8.acceptRanges", laid_unicode_utf8_acceptRanges), ("unicode/utf8.first", laid_unicode_utf8_first)] }
def AliasLoopsMatchSpecSaid : Prop := aliasLoopsMatchSpecRow.holds Tryd.pinned (OpenSpec.ofChange aliasLoopsMatchSpecSpec)

/-- ITS FALSE NEIGHBOUR: 'it returns false'. Refute it at one input. -/
def aliasLoopsMatchSpecWrong : ChangeSpec := { name := "aliasLoopsMatchSpec", fn := fun _ => fun
  | [d] => { results := [.lit (.bool false)], args := [d] }
  | _ => none }
def AliasLoopsMatchSpecWrongFalsely : Prop := aliasLoopsMatchSpecRow.holds Tryd.pinned (OpenSpec.ofChange aliasLoopsMatchSpecWrong)

/-- 'posthouselaw3.AliasIsAFixedPoint': WHATEVER THE INPUT: true; the input reads as it did. -/
def aliasIsAFixedPointSpec : ChangeSpec := { name := "aliasIsAFixedPoint", fn := fun _ => fun
  | [d1, d2] => { results := [.lit (.bool true)], args := [d1, d2] }
  | _ => none }
def aliasIsAFixedPointRow : OpenClaim := { program := "ytbmeebhcanknmaadoor", sum := "8087beaf45d745aeb47bbd7019ebe4e451239c41b557d55a4548a34c9cbf5f21", func := "posthouse/posthouselaw3.AliasIsAFixedPoint", spec := "aliasIsAFixedPoint", inPlace := ["internal/bytealg.IndexByteString", "internal/bytealg.IndexString"], unfollowed := true, recurses := true, named := ["internal/bytealg.MaxLen", "unicode/utf8.first", "unicode/utf8.acceptRanges"], apart := false, laid := [("unicode/utf8.acceptRanges", laid_unicode_utf8_acceptRanges), ("unicode/utf8.first", laid_unicode_utf8_first)] }
def AliasIsAFixedPointSaid : Prop := aliasIsAFixedPointRow.holds Tryd.pinned (OpenSpec.ofChange aliasIsAFixedPointSpec)

/-- ITS FALSE NEIGHBOUR: 'it returns false'. Refute it at one input. -/
def aliasIsAFixedPointWrong : ChangeSpec := { name := "aliasIsAFixedPoint", fn := fun _ => fun
  | [d1, d2] => { results := [.lit (.bool false)], args := [d1, d2] }
  | _ => none }
def AliasIsAFixedPointWrongFalsely : Prop := aliasIsAFixedPointRow.holds Tryd.pinned (OpenSpec.ofChange aliasIsAFixedPointWrong)

/-- 'posthouselaw3.AliasMoreIsMore': WHATEVER THE INPUT: true; the input reads as it did. -/
def aliasMoreIsMoreSpec : ChangeSpec := { name := "aliasMoreIsMore", fn := fun _ => fun
  | [d1, d2, d3] => { results := [.lit (.bool true)], args := [d1, d2, d3] }
  | _ => none }
def aliasMoreIsMoreRow : OpenClaim := { program := "ytbmeebhcanknmaadoor", sum := "8087beaf45d745aeb47bbd7019ebe4e451239c41b557d55a4548a34c9cbf5f21", func := "posthouse/posthouselaw3.AliasMoreIsMore", spec := "aliasMoreIsMore", inPlace := ["internal/bytealg.IndexByteString", "internal/bytealg.IndexString"], unfollowed := true, recurses := true, named := ["internal/bytealg.MaxLen", "unicode/utf8.first", "unicode/utf8.acceptRanges"], apart := false, laid := [("unicode/utf8.acceptRanges", laid_unicode_utf8_acceptRanges), ("unicode/utf8.first", laid_unicode_utf8_first)] }
def AliasMoreIsMoreSaid : Prop := aliasMoreIsMoreRow.holds Tryd.pinned (OpenSpec.ofChange aliasMoreIsMoreSpec)

/-- ITS FALSE NEIGHBOUR: 'it returns false'. Refute it at one input. -/
def aliasMoreIsMoreWrong : ChangeSpec := { name := "aliasMoreIsMore", fn := fun _ => fun
  | [d1, d2, d3] => { results := [.lit (.bool false)], args := [d1, d2, d3] }
  | _ => none }
def AliasMoreIsMoreWrongFalsely : Prop := aliasMoreIsMoreRow.holds Tryd.pinned (OpenSpec.ofChange aliasMoreIsMoreWrong)

/-- 'posthouselaw3.EnvelopeDomainsMatchSpec': WHATEVER THE INPUT: true; the input reads as it did. -/
def envelopeDomainsMatchSpecSpec : ChangeSpec := { name := "envelopeDomainsMatchSpec", fn := fun _ => fun
  | [d1, d2] => { results := [.lit (.bool true)], args := [d1, d2] }
  | _ => none }
def envelopeDomainsMatchSpecRow : OpenClaim := { program := "ytbmeebhcanknmaadoor", sum := "8087beaf45d745aeb47bbd7019ebe4e451239c41b557d55a4548a34c9cbf5f21", func := "posthouse/posthouselaw3.EnvelopeDomainsMatchSpec", spec := "envelopeDomainsMatchSpec", inPlace := ["internal/bytealg.IndexByteString", "internal/bytealg.IndexString"], unfollowed := true, recurses := true, named := ["internal/bytealg.MaxLen", "unicode/utf8.first", "unicode/utf8.acceptRanges"], apart := false, laid := [("unicode/utf8.acceptRanges", laid_unicode_utf8_acceptRanges), ("unicode/utf8.first", laid_unicode_utf8_first)] }
def EnvelopeDomainsMatchSpecSaid : Prop := envelopeDomainsMatchSpecRow.holds Tryd.pinned (OpenSpec.ofChange envelopeDomainsMatchSpecSpec)

/-- ITS FALSE NEIGHBOUR: 'it returns false'. Refute it at one input. -/
def envelopeDomainsMatchSpecWrong : ChangeSpec := { name := "envelopeDomainsMatchSpec", fn := fun _ => fun
  | [d1, d2] => { results := [.lit (.bool false)], args := [d1, d2] }
  | _ => none }
def EnvelopeDomainsMatchSpecWrongFalsely : Prop := envelopeDomainsMatchSpecRow.holds Tryd.pinned (OpenSpec.ofChange envelopeDomainsMatchSpecWrong)

/-- 'posthouselaw3.EnvelopeMergeMatchesSpec': WHATEVER THE INPUT: true; the input reads as it did. -/
def envelopeMergeMatchesSpecSpec : ChangeSpec := { name := "envelopeMergeMatchesSpec", fn := fun _ => fun
  | [d] => { results := [.lit (.bool true)], args := [d] }
  | _ => none }
def envelopeMergeMatchesSpecRow : OpenClaim := { program := "ytbmeebhcanknmaadoor", sum := "8087beaf45d745aeb47bbd7019ebe4e451239c41b557d55a4548a34c9cbf5f21", func := "posthouse/posthouselaw3.EnvelopeMergeMatchesSpec", spec := "envelopeMergeMatchesSpec", inPlace := ["internal/bytealg.IndexByteString", "internal/bytealg.IndexString"], unfollowed := true, recurses := true, named := ["internal/bytealg.MaxLen", "unicode/utf8.first", "unicode/utf8.acceptRanges"], apart := false, laid := [("unicode/utf8.acceptRanges", laid_unicode_utf8_acceptRanges), ("unicode/utf8.first", laid_unicode_utf8_first)] }
def EnvelopeMergeMatchesSpecSaid : Prop := envelopeMergeMatchesSpecRow.holds Tryd.pinned (OpenSpec.ofChange envelopeMergeMatchesSpecSpec)

/-- ITS FALSE NEIGHBOUR: 'it returns false'. Refute it at one input. -/
def envelopeMergeMatchesSpecWrong : ChangeSpec := { name := "envelopeMergeMatchesSpec", fn := fun _ => fun
  | [d] => { results := [.lit (.bool false)], args := [d] }
  | _ => none }
def EnvelopeMergeMatchesSpecWrongFalsely : Prop := envelopeMergeMatchesSpecRow.holds Tryd.pinned (OpenSpec.ofChange envelopeMergeMatchesSpecWrong)

/-- 'posthouselaw3.EnvelopesOfDomainsJoin': WHATEVER THE INPUT: true; the input reads as it did. -/
def envelopesOfDomainsJoinSpec : ChangeSpec := { name := "envelopesOfDomainsJoin", fn := fun _ => fun
  | [d] => { results := [.lit (.bool true)], args := [d] }
  | _ => none }
def envelopesOfDomainsJoinRow : OpenClaim := { program := "ytbmeebhcanknmaadoor", sum := "8087beaf45d745aeb47bbd7019ebe4e451239c41b557d55a4548a34c9cbf5f21", func := "posthouse/posthouselaw3.EnvelopesOfDomainsJoin", spec := "envelopesOfDomainsJoin", inPlace := ["internal/bytealg.IndexByteString", "internal/bytealg.IndexString"], unfollowed := true, recurses := true, named := ["internal/bytealg.MaxLen", "unicode/utf8.first", "unicode/utf8.acceptRanges"], apart := false, laid := [("unicode/utf8.acceptRanges", laid_unicode_utf8_acceptRanges), ("unicode/utf8.first", laid_unicode_utf8_first)] }
def EnvelopesOfDomainsJoinSaid : Prop := envelopesOfDomainsJoinRow.holds Tryd.pinned (OpenSpec.ofChange envelopesOfDomainsJoinSpec)

/-- ITS FALSE NEIGHBOUR: 'it returns false'. Refute it at one input. -/
def envelopesOfDomainsJoinWrong : ChangeSpec := { name := "envelopesOfDomainsJoin", fn := fun _ => fun
  | [d] => { results := [.lit (.bool false)], args := [d] }
  | _ => none }
def EnvelopesOfDomainsJoinWrongFalsely : Prop := envelopesOfDomainsJoinRow.holds Tryd.pinned (OpenSpec.ofChange envelopesOfDomainsJoinWrong)

/-- 'posthouselaw3.RoutesMatchSpec': WHATEVER THE INPUT: true; the input reads as it did. -/
def routesMatchSpecSpec : ChangeSpec := { name := "routesMatchSpec", fn := fun _ => fun
  | [d1, d2] => { results := [.lit (.bool true)], args := [d1, d2] }
  | _ => none }
def routesMatchSpecRow : OpenClaim := { program := "ytbmeebhcanknmaadoor", sum := "8087beaf45d745aeb47bbd7019ebe4e451239c41b557d55a4548a34c9cbf5f21", func := "posthouse/posthouselaw3.RoutesMatchSpec", spec := "routesMatchSpec", inPlace := ["internal/bytealg.IndexByteString", "internal/bytealg.IndexString"], unfollowed := true, recurses := true, named := ["unicode/utf8.first", "unicode/utf8.acceptRanges", "internal/bytealg.MaxLen"], apart := false, laid := [("unicode/utf8.acceptRanges", laid_unicode_utf8_acceptRanges), ("unicode/utf8.first", laid_unicode_utf8_first)] }
def RoutesMatchSpecSaid : Prop := routesMatchSpecRow.holds Tryd.pinned (OpenSpec.ofChange routesMatchSpecSpec)

/-- ITS FALSE NEIGHBOUR: 'it returns false'. Refute it at one input. -/
def routesMatchSpecWrong : ChangeSpec := { name := "routesMatchSpec", fn := fun _ => fun
  | [d1, d2] => { results := [.lit (.bool false)], args := [d1, d2] }
  | _ => none }
def RoutesMatchSpecWrongFalsely : Prop := routesMatchSpecRow.holds Tryd.pinned (OpenSpec.ofChange routesMatchSpecWrong)

/-- 'posthouselaw3.RoutesExactCounts': WHATEVER THE INPUT: true; the input reads as it did. -/
def routesExactCountsSpec : ChangeSpec := { name := "routesExactCounts", fn := fun _ => fun
  | [d1, d2, d3, d4] => { results := [.lit (.bool true)], args := [d1, d2, d3, d4] }
  | _ => none }
def routesExactCountsRow : OpenClaim := { program := "ytbmeebhcanknmaadoor", sum := "8087beaf45d745aeb47bbd7019ebe4e451239c41b557d55a4548a34c9cbf5f21", func := "posthouse/posthouselaw3.RoutesExactCounts", spec := "routesExactCounts", inPlace := ["internal/bytealg.IndexByteString", "internal/bytealg.IndexString"], unfollowed := true, recurses := true, named := ["unicode/utf8.first", "unicode/utf8.acceptRanges", "internal/bytealg.MaxLen"], apart := false, laid := [("unicode/utf8.acceptRanges", laid_unicode_utf8_acceptRanges), ("unicode/utf8.first", laid_unicode_utf8_first)] }
def RoutesExactCountsSaid : Prop := routesExactCountsRow.holds Tryd.pinned (OpenSpec.ofChange routesExactCountsSpec)

/-- ITS FALSE NEIGHBOUR: 'it returns false'. Refute it at one input. -/
def routesExactCountsWrong : ChangeSpec := { name := "routesExactCounts", fn := fun _ => fun
  | [d1, d2, d3, d4] => { results := [.lit (.bool false)], args := [d1, d2, d3, d4] }
  | _ => none }
def RoutesExactCountsWrongFalsely : Prop := routesExactCountsRow.holds Tryd.pinned (OpenSpec.ofChange routesExactCountsWrong)

/-- 'posthouselaw3.RoutesHostsOnce': WHATEVER THE INPUT: true; the input reads as it did. -/
def routesHostsOnceSpec : ChangeSpec := { name := "routesHostsOnce", fn := fun _ => fun
  | [d1, d2] => { results := [.lit (.bool true)], args := [d1, d2] }
  | _ => none }
def routesHostsOnceRow : OpenClaim := { program := "ytbmeebhcanknmaadoor", sum := "8087beaf45d745aeb47bbd7019ebe4e451239c41b557d55a4548a34c9cbf5f21", func := "posthouse/posthouselaw3.RoutesHostsOnce", spec := "routesHostsOnce", inPlace := ["internal/bytealg.IndexByteString", "internal/bytealg.IndexString"], unfollowed := true, recurses := true, named := ["unicode/utf8.first", "unicode/utf8.acceptRanges", "internal/bytealg.MaxLen"], apart := false, laid := [("unicode/utf8.acceptRanges", laid_unicode_utf8_acceptRanges), ("unicode/utf8.first", laid_unicode_utf8_first)] }
def RoutesHostsOnceSaid : Prop := routesHostsOnceRow.holds Tryd.pinned (OpenSpec.ofChange routesHostsOnceSpec)

/-- ITS FALSE NEIGHBOUR: 'it returns false'. Refute it at one input. -/
def routesHostsOnceWrong : ChangeSpec := { name := "routesHostsOnce", fn := fun _ => fun
  | [d1, d2] => { results := [.lit (.bool false)], args := [d1, d2] }
  | _ => none }
def RoutesHostsOnceWrongFalsely : Prop := routesHostsOnceRow.holds Tryd.pinned (OpenSpec.ofChange routesHostsOnceWrong)

/-- 'posthouselaw3.ReplyMatchesSpec': WHATEVER THE INPUT: true; the input reads as it did. -/
def replyMatchesSpecSpec : ChangeSpec := { name := "replyMatchesSpec", fn := fun _ => fun
  | [d] => { results := [.lit (.bool true)], args := [d] }
  | _ => none }
def replyMatchesSpecRow : OpenClaim := { program := "ytbmeebhcanknmaadoor", sum := "8087beaf45d745aeb47bbd7019ebe4e451239c41b557d55a4548a34c9cbf5f21", func := "posthouse/posthouselaw3.ReplyMatchesSpec", spec := "replyMatchesSpec", inPlace := ["internal/bytealg.IndexByteString", "internal/bytealg.IndexString"], recurses := true, named := ["internal/strconv.uint64pow10", "math/bits.deBruijn32tab", "math/bits.deBruijn64tab", "strconv.ErrSyntax", "strconv.ErrRange", "internal/bytealg.MaxLen"], apart := false, laid := [("math/bits.deBruijn32tab", laid_math_bits_deBruijn32tab), ("math/bits.deBruijn64tab", laid_math_bits_deBruijn64tab), ("internal/strconv.uint64pow10", laid_internal_strconv_uint64pow10), ("strconv.ErrRange", laid_strconv_ErrRange), ("strconv.ErrSyntax", laid_strconv_ErrSyntax)] }
def ReplyMatchesSpecSaid : Prop := replyMatchesSpecRow.holds Tryd.pinned (OpenSpec.ofChange replyMatchesSpecSpec)

/-- ITS FALSE NEIGHBOUR: 'it returns false'. Refute it at one input. -/
def replyMatchesSpecWrong : ChangeSpec := { name := "replyMatchesSpec", fn := fun _ => fun
  | [d] => { results := [.lit (.bool false)], args := [d] }
  | _ => none }
def ReplyMatchesSpecWrongFalsely : Prop := replyMatchesSpecRow.holds Tryd.pinned (OpenSpec.ofChange replyMatchesSpecWrong)

/-- 'posthouselaw3.ReplyParseMatchesSpec': WHATEVER THE INPUT: true; the input reads as it did. -/
def replyParseMatchesSpecSpec : ChangeSpec := { name := "replyParseMatchesSpec", fn := fun _ => fun
  | [d] => { results := [.lit (.bool true)], args := [d] }
  | _ => none }
def replyParseMatchesSpecRow : OpenClaim := { program := "ytbmeebhcanknmaadoor", sum := "8087beaf45d745aeb47bbd7019ebe4e451239c41b557d55a4548a34c9cbf5f21", func := "posthouse/posthouselaw3.ReplyParseMatchesSpec", spec := "replyParseMatchesSpec", inPlace := ["internal/bytealg.IndexByteString", "internal/bytealg.IndexString"], named := ["strconv.ErrSyntax", "strconv.ErrRange", "internal/strconv.uint64pow10", "math/bits.deBruijn32tab", "math/bits.deBruijn64tab", "internal/bytealg.MaxLen"], apart := false, laid := [("math/bits.deBruijn32tab", laid_math_bits_deBruijn32tab), ("math/bits.deBruijn64tab", laid_math_bits_deBruijn64tab), ("internal/strconv.uint64pow10", laid_internal_strconv_uint64pow10), ("strconv.ErrRange", laid_strconv_ErrRange), ("strconv.ErrSyntax", laid_strconv_ErrSyntax)] }
def ReplyParseMatchesSpecSaid : Prop := replyParseMatchesSpecRow.holds Tryd.pinned (OpenSpec.ofChange replyParseMatchesSpecSpec)

/-- ITS FALSE NEIGHBOUR: 'it returns false'. Refute it at one input. -/
def replyParseMatchesSpecWrong : ChangeSpec := { name := "replyParseMatchesSpec", fn := fun _ => fun
  | [d] => { results := [.lit (.bool false)], args := [d] }
  | _ => none }
def ReplyParseMatchesSpecWrongFalsely : Prop := replyParseMatchesSpecRow.holds Tryd.pinned (OpenSpec.ofChange replyParseMatchesSpecWrong)

/-- 'posthouselaw3.ReplyRoundTrips': WHATEVER THE INPUT: true; the input reads as it did. -/
def replyRoundTripsSpec : ChangeSpec := { name := "replyRoundTrips", fn := fun _ => fun
  | [d1, d2] => { results := [.lit (.bool true)], args := [d1, d2] }
  | _ => none }
def replyRoundTripsRow : OpenClaim := { program := "ytbmeebhcanknmaadoor", sum := "8087beaf45d745aeb47bbd7019ebe4e451239c41b557d55a4548a34c9cbf5f21", func := "posthouse/posthouselaw3.ReplyRoundTrips", spec := "replyRoundTrips", inPlace := ["internal/bytealg.IndexByteString", "internal/bytealg.IndexString"], named := ["internal/strconv.uint64pow10", "math/bits.deBruijn32tab", "math/bits.deBruijn64tab", "strconv.ErrSyntax", "strconv.ErrRange", "internal/bytealg.MaxLen"], apart := false, laid := [("math/bits.deBruijn32tab", laid_math_bits_deBruijn32tab), ("math/bits.deBruijn64tab", laid_math_bits_deBruijn64tab), ("internal/strconv.uint64pow10", laid_internal_strconv_uint64pow10), ("strconv.ErrRange", laid_strconv_ErrRange), ("strconv.ErrSyntax", laid_strconv_ErrSyntax)] }
def ReplyRoundTripsSaid : Prop := replyRoundTripsRow.holds Tryd.pinned (OpenSpec.ofChange replyRoundTripsSpec)

/-- ITS FALSE NEIGHBOUR: 'it returns false'. Refute it at one input. -/
def replyRoundTripsWrong : ChangeSpec := { name := "replyRoundTrips", fn := fun _ => fun
  | [d1, d2] => { results := [.lit (.bool false)], args := [d1, d2] }
  | _ => none }
def ReplyRoundTripsWrongFalsely : Prop := replyRoundTripsRow.holds Tryd.pinned (OpenSpec.ofChange replyRoundTripsWrong)

/-- 'posthouselaw3.EnvelopeMatchesSpec': WHATEVER THE INPUT: true; the input reads as it did. -/
def envelopeMatchesSpecSpec : ChangeSpec := { name := "envelopeMatchesSpec", fn := fun _ => fun
  | [d] => { results := [.lit (.bool true)], args := [d] }
  | _ => none }
def envelopeMatchesSpecRow : OpenClaim := { program := "ytbmeebhcanknmaadoor", sum := "8087beaf45d745aeb47bbd7019ebe4e451239c41b557d55a4548a34c9cbf5f21", func := "posthouse/posthouselaw3.EnvelopeMatchesSpec", spec := "envelopeMatchesSpec", inPlace := ["internal/bytealg.IndexByteString", "internal/bytealg.IndexString"], unfollowed := true, recurses := true, named := ["internal/bytealg.MaxLen", "unicode/utf8.first", "unicode/utf8.acceptRanges"], apart := false, laid := [("unicode/utf8.acceptRanges", laid_unicode_utf8_acceptRanges), ("unicode/utf8.first", laid_unicode_utf8_first)] }
def EnvelopeMatchesSpecSaid : Prop := envelopeMatchesSpecRow.holds Tryd.pinned (OpenSpec.ofChange envelopeMatchesSpecSpec)

/-- ITS FALSE NEIGHBOUR: 'it returns false'. Refute it at one input. -/
def envelopeMatchesSpecWrong : ChangeSpec := { name := "envelopeMatchesSpec", fn := fun _ => fun
  | [d] => { results := [.lit (.bool false)], args := [d] }
  | _ => none }
def EnvelopeMatchesSpecWrongFalsely : Prop := envelopeMatchesSpecRow.holds Tryd.pinned (OpenSpec.ofChange envelopeMatchesSpecWrong)

/- THE SECOND FORM. 'bulk': how many values and letters a reading holds, each counted each time it is reached (what is shared counts as often as it is met; a slice's spare places count too). A statement '..UptoSaid' is the law's where the arguments, and the package variables that the reading takes, are together of bulk at most 1048576: NARROWER than '..Said'. Prove '..Said' where nothing that the law and all that it calls make is longer than what came in: it says more and counts as full. Else prove '..UptoSaid'. A law counts once. -/
mutual
def uptoBulk {H : Type} : DataW H → Nat
  | .lit (.string bytes) => bytes.length + 1
  | .lit _ => 1
  | .nil => 1
  | .ptr d => uptoBulk d + 1
  | .slice elems spare => uptoBulkAll elems + uptoBulkAll spare + 1
  | .agg parts => uptoBulkAll parts + 1
  | .iface _ d => uptoBulk d + 1
  | .map entries => uptoBulkEntries entries + 1
  | .held _ => 1
def uptoBulkAll {H : Type} : List (DataW H) → Nat
  | [] => 0
  | d :: r => uptoBulk d + uptoBulkAll r
def uptoBulkEntries {H : Type} : List (Lit × DataW H) → Nat
  | [] => 0
  | x :: r => uptoBulkEntry x + uptoBulkEntries r
def uptoBulkEntry {H : Type} : Lit × DataW H → Nat
  | (.string bytes, d) => bytes.length + uptoBulk d + 1
  | (_, d) => uptoBulk d + 1
 end
def uptoSmall : (H : Type) → List (DataW H) → Bool := fun _ ds => decide (uptoBulkAll ds ≤ 1048576)
def OpenSpec.upto (s : _root_.Go.ChangeSpec) : _root_.Go.OpenSpec := { _root_.Go.OpenSpec.ofChange s with cond := some uptoSmall }

/-- 'posthouselaw3.AliasMatchesSpec', WHERE WHAT IT READS IS OF BULK AT MOST 1048576: true; the input reads as it did. -/
def aliasMatchesSpecUptoRow : OpenClaim := { program := "ytbmeebhcanknmaadoor", sum := "8087beaf45d745aeb47bbd7019ebe4e451239c41b557d55a4548a34c9cbf5f21", func := "posthouse/posthouselaw3.AliasMatchesSpec", spec := "aliasMatchesSpec", inPlace := ["internal/bytealg.IndexByteString", "internal/bytealg.IndexString"], unfollowed := true, recurses := true, named := ["internal/bytealg.MaxLen", "unicode/utf8.first", "unicode/utf8.acceptRanges"], apart := false, laid := [("unicode/utf8.acceptRanges", laid_unicode_utf8_acceptRanges), ("unicode/utf8.first", laid_unicode_utf8_first)], narrowed := true }
def AliasMatchesSpecUptoSaid : Prop := aliasMatchesSpecUptoRow.holds Tryd.pinned (OpenSpec.upto aliasMatchesSpecSpec)

/-- 'posthouselaw3.AliasLoopsMatchSpec', WHERE WHAT IT READS IS OF BULK AT MOST 1048576: true; the input reads as it did. -/
def aliasLoopsMatchSpecUptoRow : OpenClaim := { program := "ytbmeebhcanknmaadoor", sum := "8087beaf45d745aeb47bbd7019ebe4e451239c41b557d55a4548a34c9cbf5f21", func := "posthouse/posthouselaw3.AliasLoopsMatchSpec", spec := "aliasLoopsMatchSpec", inPlace := ["internal/bytealg.IndexByteString", "internal/bytealg.IndexString"], unfollowed := true, recurses := true, named := ["internal/bytealg.MaxLen", "unicode/utf8.first", "unicode/utf8.acceptRanges"], apart := false, laid := [("unicode/utf8.acceptRanges", laid_unicode_utf8_acceptRanges), ("unicode/utf8.first", laid_unicode_utf8_first)], narrowed := true }
def AliasLoopsMatchSpecUptoSaid : Prop := aliasLoopsMatchSpecUptoRow.holds Tryd.pinned (OpenSpec.upto aliasLoopsMatchSpecSpec)

/-- 'posthouselaw3.AliasIsAFixedPoint', WHERE WHAT IT READS IS OF BULK AT MOST 1048576: true; the input reads as it did. -/
def aliasIsAFixedPointUptoRow : OpenClaim := { program := "ytbmeebhcanknmaadoor", sum := "8087beaf45d745aeb47bbd7019ebe4e451239c41b557d55a4548a34c9cbf5f21", func := "posthouse/posthouselaw3.AliasIsAFixedPoint", spec := "aliasIsAFixedPoint", inPlace := ["internal/bytealg.IndexByteString", "internal/bytealg.IndexString"], unfollowed := true, recurses := true, named := ["internal/bytealg.MaxLen", "unicode/utf8.first", "unicode/utf8.acceptRanges"], apart := false, laid := [("unicode/utf8.acceptRanges", laid_unicode_utf8_acceptRanges), ("unicode/utf8.first", laid_unicode_utf8_first)], narrowed := true }
def AliasIsAFixedPointUptoSaid : Prop := aliasIsAFixedPointUptoRow.holds Tryd.pinned (OpenSpec.upto aliasIsAFixedPointSpec)

/-- 'posthouselaw3.AliasMoreIsMore', WHERE WHAT IT READS IS OF BULK AT MOST 1048576: true; the input reads as it did. -/
def aliasMoreIsMoreUptoRow : OpenClaim := { program := "ytbmeebhcanknmaadoor", sum := "8087beaf45d745aeb47bbd7019ebe4e451239c41b557d55a4548a34c9cbf5f21", func := "posthouse/posthouselaw3.AliasMoreIsMore", spec := "aliasMoreIsMore", inPlace := ["internal/bytealg.IndexByteString", "internal/bytealg.IndexString"], unfollowed := true, recurses := true, named := ["internal/bytealg.MaxLen", "unicode/utf8.first", "unicode/utf8.acceptRanges"], apart := false, laid := [("unicode/utf8.acceptRanges", laid_unicode_utf8_acceptRanges), ("unicode/utf8.first", laid_unicode_utf8_first)], narrowed := true }
def AliasMoreIsMoreUptoSaid : Prop := aliasMoreIsMoreUptoRow.holds Tryd.pinned (OpenSpec.upto aliasMoreIsMoreSpec)

/-- 'posthouselaw3.EnvelopeDomainsMatchSpec', WHERE WHAT IT READS IS OF BULK AT MOST 1048576: true; the input reads as it did. -/
def envelopeDomainsMatchSpecUptoRow : OpenClaim := { program := "ytbmeebhcanknmaadoor", sum := "8087beaf45d745aeb47bbd7019ebe4e451239c41b557d55a4548a34c9cbf5f21", func := "posthouse/posthouselaw3.EnvelopeDomainsMatchSpec", spec := "envelopeDomainsMatchSpec", inPlace := ["internal/bytealg.IndexByteString", "internal/bytealg.IndexString"], unfollowed := true, recurses := true, named := ["internal/bytealg.MaxLen", "unicode/utf8.first", "unicode/utf8.acceptRanges"], apart := false, laid := [("unicode/utf8.acceptRanges", laid_unicode_utf8_acceptRanges), ("unicode/utf8.first", laid_unicode_utf8_first)], narrowed := true }
def EnvelopeDomainsMatchSpecUptoSaid : Prop := envelopeDomainsMatchSpecUptoRow.holds Tryd.pinned (OpenSpec.upto envelopeDomainsMatchSpecSpec)

/-- 'posthouselaw3.EnvelopeMergeMatchesSpec', WHERE WHAT IT READS IS OF BULK AT MOST 1048576: true; the input reads as it did. -/
def envelopeMergeMatchesSpecUptoRow : OpenClaim := { program := "ytbmeebhcanknmaadoor", sum := "8087beaf45d745aeb47bbd7019ebe4e451239c41b557d55a4548a34c9cbf5f21", func := "posthouse/posthouselaw3.EnvelopeMergeMatchesSpec", spec := "envelopeMergeMatchesSpec", inPlace := ["internal/bytealg.IndexByteString", "internal/bytealg.IndexString"], unfollowed := true, recurses := true, named := ["internal/bytealg.MaxLen", "unicode/utf8.first", "unicode/utf8.acceptRanges"], apart := false, laid := [("unicode/utf8.acceptRanges", laid_unicode_utf8_acceptRanges), ("unicode/utf8.first", laid_unicode_utf8_first)], narrowed := true }
def EnvelopeMergeMatchesSpecUptoSaid : Prop := envelopeMergeMatchesSpecUptoRow.holds Tryd.pinned (OpenSpec.upto envelopeMergeMatchesSpecSpec)

/-- 'posthouselaw3.EnvelopesOfDomainsJoin', WHERE WHAT IT READS IS OF BULK AT MOST 1048576: true; the input reads as it did. -/
def envelopesOfDomainsJoinUptoRow : OpenClaim := { program := "ytbmeebhcanknmaadoor", sum := "8087beaf45d745aeb47bbd7019ebe4e451239c41b557d55a4548a34c9cbf5f21", func := "posthouse/posthouselaw3.EnvelopesOfDomainsJoin", spec := "envelopesOfDomainsJoin", inPlace := ["internal/bytealg.IndexByteString", "internal/bytealg.IndexString"], unfollowed := true, recurses := true, named := ["internal/bytealg.MaxLen", "unicode/utf8.first", "unicode/utf8.acceptRanges"], apart := false, laid := [("unicode/utf8.acceptRanges", laid_unicode_utf8_acceptRanges), ("unicode/utf8.first", laid_unicode_utf8_first)], narrowed := true }
def EnvelopesOfDomainsJoinUptoSaid : Prop := envelopesOfDomainsJoinUptoRow.holds Tryd.pinned (OpenSpec.upto envelopesOfDomainsJoinSpec)

/-- 'posthouselaw3.RoutesMatchSpec', WHERE WHAT IT READS IS OF BULK AT MOST 1048576: true; the input reads as it did. -/
def routesMatchSpecUptoRow : OpenClaim := { program := "ytbmeebhcanknmaadoor", sum := "8087beaf45d745aeb47bbd7019ebe4e451239c41b557d55a4548a34c9cbf5f21", func := "posthouse/posthouselaw3.RoutesMatchSpec", spec := "routesMatchSpec", inPlace := ["internal/bytealg.IndexByteString", "internal/bytealg.IndexString"], unfollowed := true, recurses := true, named := ["unicode/utf8.first", "unicode/utf8.acceptRanges", "internal/bytealg.MaxLen"], apart := false, laid := [("unicode/utf8.acceptRanges", laid_unicode_utf8_acceptRanges), ("unicode/utf8.first", laid_unicode_utf8_first)], narrowed := true }
def RoutesMatchSpecUptoSaid : Prop := routesMatchSpecUptoRow.holds Tryd.pinned (OpenSpec.upto routesMatchSpecSpec)

/-- 'posthouselaw3.RoutesExactCounts', WHERE WHAT IT READS IS OF BULK AT MOST 1048576: true; the input reads as it did. -/
def routesExactCountsUptoRow : OpenClaim := { program := "ytbmeebhcanknmaadoor", sum := "8087beaf45d745aeb47bbd7019ebe4e451239c41b557d55a4548a34c9cbf5f21", func := "posthouse/posthouselaw3.RoutesExactCounts", spec := "routesExactCounts", inPlace := ["internal/bytealg.IndexByteString", "internal/bytealg.IndexString"], unfollowed := true, recurses := true, named := ["unicode/utf8.first", "unicode/utf8.acceptRanges", "internal/bytealg.MaxLen"], apart := false, laid := [("unicode/utf8.acceptRanges", laid_unicode_utf8_acceptRanges), ("unicode/utf8.first", laid_unicode_utf8_first)], narrowed := true }
def RoutesExactCountsUptoSaid : Prop := routesExactCountsUptoRow.holds Tryd.pinned (OpenSpec.upto routesExactCountsSpec)

/-- 'posthouselaw3.RoutesHostsOnce', WHERE WHAT IT READS IS OF BULK AT MOST 1048576: true; the input reads as it did. -/
def routesHostsOnceUptoRow : OpenClaim := { program := "ytbmeebhcanknmaadoor", sum := "8087beaf45d745aeb47bbd7019ebe4e451239c41b557d55a4548a34c9cbf5f21", func := "posthouse/posthouselaw3.RoutesHostsOnce", spec := "routesHostsOnce", inPlace := ["internal/bytealg.IndexByteString", "internal/bytealg.IndexString"], unfollowed := true, recurses := true, named := ["unicode/utf8.first", "unicode/utf8.acceptRanges", "internal/bytealg.MaxLen"], apart := false, laid := [("unicode/utf8.acceptRanges", laid_unicode_utf8_acceptRanges), ("unicode/utf8.first", laid_unicode_utf8_first)], narrowed := true }
def RoutesHostsOnceUptoSaid : Prop := routesHostsOnceUptoRow.holds Tryd.pinned (OpenSpec.upto routesHostsOnceSpec)

/-- 'posthouselaw3.ReplyMatchesSpec', WHERE WHAT IT READS IS OF BULK AT MOST 1048576: true; the input reads as it did. -/
def replyMatchesSpecUptoRow : OpenClaim := { program := "ytbmeebhcanknmaadoor", sum := "8087beaf45d745aeb47bbd7019ebe4e451239c41b557d55a4548a34c9cbf5f21", func := "posthouse/posthouselaw3.ReplyMatchesSpec", spec := "replyMatchesSpec", inPlace := ["internal/bytealg.IndexByteString", "internal/bytealg.IndexString"], recurses := true, named := ["internal/strconv.uint64pow10", "math/bits.deBruijn32tab", "math/bits.deBruijn64tab", "strconv.ErrSyntax", "strconv.ErrRange", "internal/bytealg.MaxLen"], apart := false, laid := [("math/bits.deBruijn32tab", laid_math_bits_deBruijn32tab), ("math/bits.deBruijn64tab", laid_math_bits_deBruijn64tab), ("internal/strconv.uint64pow10", laid_internal_strconv_uint64pow10), ("strconv.ErrRange", laid_strconv_ErrRange), ("strconv.ErrSyntax", laid_strconv_ErrSyntax)], narrowed := true }
def ReplyMatchesSpecUptoSaid : Prop := replyMatchesSpecUptoRow.holds Tryd.pinned (OpenSpec.upto replyMatchesSpecSpec)

/-- 'posthouselaw3.ReplyParseMatchesSpec', WHERE WHAT IT READS IS OF BULK AT MOST 1048576: true; the input reads as it did. -/
def replyParseMatchesSpecUptoRow : OpenClaim := { program := "ytbmeebhcanknmaadoor", sum := "8087beaf45d745aeb47bbd7019ebe4e451239c41b557d55a4548a34c9cbf5f21", func := "posthouse/posthouselaw3.ReplyParseMatchesSpec", spec := "replyParseMatchesSpec", inPlace := ["internal/bytealg.IndexByteString", "internal/bytealg.IndexString"], named := ["strconv.ErrSyntax", "strconv.ErrRange", "internal/strconv.uint64pow10", "math/bits.deBruijn32tab", "math/bits.deBruijn64tab", "internal/bytealg.MaxLen"], apart := false, laid := [("math/bits.deBruijn32tab", laid_math_bits_deBruijn32tab), ("math/bits.deBruijn64tab", laid_math_bits_deBruijn64tab), ("internal/strconv.uint64pow10", laid_internal_strconv_uint64pow10), ("strconv.ErrRange", laid_strconv_ErrRange), ("strconv.ErrSyntax", laid_strconv_ErrSyntax)], narrowed := true }
def ReplyParseMatchesSpecUptoSaid : Prop := replyParseMatchesSpecUptoRow.holds Tryd.pinned (OpenSpec.upto replyParseMatchesSpecSpec)

/-- 'posthouselaw3.ReplyRoundTrips', WHERE WHAT IT READS IS OF BULK AT MOST 1048576: true; the input reads as it did. -/
def replyRoundTripsUptoRow : OpenClaim := { program := "ytbmeebhcanknmaadoor", sum := "8087beaf45d745aeb47bbd7019ebe4e451239c41b557d55a4548a34c9cbf5f21", func := "posthouse/posthouselaw3.ReplyRoundTrips", spec := "replyRoundTrips", inPlace := ["internal/bytealg.IndexByteString", "internal/bytealg.IndexString"], named := ["internal/strconv.uint64pow10", "math/bits.deBruijn32tab", "math/bits.deBruijn64tab", "strconv.ErrSyntax", "strconv.ErrRange", "internal/bytealg.MaxLen"], apart := false, laid := [("math/bits.deBruijn32tab", laid_math_bits_deBruijn32tab), ("math/bits.deBruijn64tab", laid_math_bits_deBruijn64tab), ("internal/strconv.uint64pow10", laid_internal_strconv_uint64pow10), ("strconv.ErrRange", laid_strconv_ErrRange), ("strconv.ErrSyntax", laid_strconv_ErrSyntax)], narrowed := true }
def ReplyRoundTripsUptoSaid : Prop := replyRoundTripsUptoRow.holds Tryd.pinned (OpenSpec.upto replyRoundTripsSpec)

/-- 'posthouselaw3.EnvelopeMatchesSpec', WHERE WHAT IT READS IS OF BULK AT MOST 1048576: true; the input reads as it did. -/
def envelopeMatchesSpecUptoRow : OpenClaim := { program := "ytbmeebhcanknmaadoor", sum := "8087beaf45d745aeb47bbd7019ebe4e451239c41b557d55a4548a34c9cbf5f21", func := "posthouse/posthouselaw3.EnvelopeMatchesSpec", spec := "envelopeMatchesSpec", inPlace := ["internal/bytealg.IndexByteString", "internal/bytealg.IndexString"], unfollowed := true, recurses := true, named := ["internal/bytealg.MaxLen", "unicode/utf8.first", "unicode/utf8.acceptRanges"], apart := false, laid := [("unicode/utf8.acceptRanges", laid_unicode_utf8_acceptRanges), ("unicode/utf8.first", laid_unicode_utf8_first)], narrowed := true }
def EnvelopeMatchesSpecUptoSaid : Prop := envelopeMatchesSpecUptoRow.holds Tryd.pinned (OpenSpec.upto envelopeMatchesSpecSpec)

end Rows
end Go.Proofs.YtbmeebhcanknmaaDoor
