/-
  DERIVED. GIVEN WITH THE SEED: THE CARDS: each row of YtbmeebhcanknmaaDoorRows.lean that lists a variable, with what it lists TIED to the program's text (the seventh form; the later family's looks); each row that meets fmt, with fmt's text TOLD by the authors' own Lean function (tested against real Go, not proved from fmt's source: count such statements apart). THE CARD IS WHAT COUNTS. Prove the row's statement (the work); the ties are given (YtbmeebhcanknmaaDoorTie.lean); close each card by the builder's one call (the guide's Derived/Test/ToyasCard.lean, 'card_holds'). Laid BY PROGRAM, IN A SANDBOX (cutbox-door.mjs). By AI agents, Wed Nov 11 2026. No macro, syntax, notation, axiom, sorry.
-/
import Derived.Test.YtbmeebhcanknmaaDoorRows
import GoSem.ClaimSeven
namespace Go.Proofs.YtbmeebhcanknmaaDoor
namespace Rows

/-- THE TIED CARD OF 'posthouselaw3.AliasMatchesSpec'. -/
def aliasMatchesSpecCard : Claim7 := { stood := { row := aliasMatchesSpecRow, standIns := [], harness := (true, "dd3b66c965a75ab46d244a5b27b711f25e1db4911465b2d6d2d6407fd4a0ac14"), looks := true }, kinds := [], alts := [], laidByText := true, laidKinds := [.data, .pinned], laidTests := true, laidLooks := .later }
def AliasMatchesSpecCardSaid : Prop := Claim7.holds Tryd.pinned (.plain (OpenSpec.ofChange aliasMatchesSpecSpec)) aliasMatchesSpecCard

/-- THE TIED CARD OF 'posthouselaw3.AliasLoopsMatchSpec'. -/
def aliasLoopsMatchSpecCard : Claim7 := { stood := { row := aliasLoopsMatchSpecRow, standIns := [], harness := (true, "dd3b66c965a75ab46d244a5b27b711f25e1db4911465b2d6d2d6407fd4a0ac14"), looks := true }, kinds := [], alts := [], laidByText := true, laidKinds := [.data, .pinned], laidTests := true, laidLooks := .later }
def AliasLoopsMatchSpecCardSaid : Prop := Claim7.holds Tryd.pinned (.plain (OpenSpec.ofChange aliasLoopsMatchSpecSpec)) aliasLoopsMatchSpecCard

/-- THE TIED CARD OF 'posthouselaw3.AliasIsAFixedPoint'. -/
def aliasIsAFixedPointCard : Claim7 := { stood := { row := aliasIsAFixedPointRow, standIns := [], harness := (true, "dd3b66c965a75ab46d244a5b27b711f25e1db4911465b2d6d2d6407fd4a0ac14"), looks := true }, kinds := [], alts := [], laidByText := true, laidKinds := [.data, .pinned], laidTests := true, laidLooks := .later }
def AliasIsAFixedPointCardSaid : Prop := Claim7.holds Tryd.pinned (.plain (OpenSpec.ofChange aliasIsAFixedPointSpec)) aliasIsAFixedPointCard

/-- THE TIED CARD OF 'posthouselaw3.AliasMoreIsMore'. -/
def aliasMoreIsMoreCard : Claim7 := { stood := { row := aliasMoreIsMoreRow, standIns := [], harness := (true, "dd3b66c965a75ab46d244a5b27b711f25e1db4911465b2d6d2d6407fd4a0ac14"), looks := true }, kinds := [], alts := [], laidByText := true, laidKinds := [.data, .pinned], laidTests := true, laidLooks := .later }
def AliasMoreIsMoreCardSaid : Prop := Claim7.holds Tryd.pinned (.plain (OpenSpec.ofChange aliasMoreIsMoreSpec)) aliasMoreIsMoreCard

/-- THE TIED CARD OF 'posthouselaw3.EnvelopeDomainsMatchSpec'. -/
def envelopeDomainsMatchSpecCard : Claim7 := { stood := { row := envelopeDomainsMatchSpecRow, standIns := [], harness := (true, "dd3b66c965a75ab46d244a5b27b711f25e1db4911465b2d6d2d6407fd4a0ac14"), looks := true }, kinds := [], alts := [], laidByText := true, laidKinds := [.data, .pinned], laidTests := true, laidLooks := .later }
def EnvelopeDomainsMatchSpecCardSaid : Prop := Claim7.holds Tryd.pinned (.plain (OpenSpec.ofChange envelopeDomainsMatchSpecSpec)) envelopeDomainsMatchSpecCard

/-- THE TIED CARD OF 'posthouselaw3.EnvelopeMergeMatchesSpec'. -/
def envelopeMergeMatchesSpecCard : Claim7 := { stood := { row := envelopeMergeMatchesSpecRow, standIns := [], harness := (true, "dd3b66c965a75ab46d244a5b27b711f25e1db4911465b2d6d2d6407fd4a0ac14"), looks := true }, kinds := [], alts := [], laidByText := true, laidKinds := [.data, .pinned], laidTests := true, laidLooks := .later }
def EnvelopeMergeMatchesSpecCardSaid : Prop := Claim7.holds Tryd.pinned (.plain (OpenSpec.ofChange envelopeMergeMatchesSpecSpec)) envelopeMergeMatchesSpecCard

/-- THE TIED CARD OF 'posthouselaw3.EnvelopesOfDomainsJoin'. -/
def envelopesOfDomainsJoinCard : Claim7 := { stood := { row := envelopesOfDomainsJoinRow, standIns := [], harness := (true, "dd3b66c965a75ab46d244a5b27b711f25e1db4911465b2d6d2d6407fd4a0ac14"), looks := true }, kinds := [], alts := [], laidByText := true, laidKinds := [.data, .pinned], laidTests := true, laidLooks := .later }
def EnvelopesOfDomainsJoinCardSaid : Prop := Claim7.holds Tryd.pinned (.plain (OpenSpec.ofChange envelopesOfDomainsJoinSpec)) envelopesOfDomainsJoinCard

/-- THE TIED CARD OF 'posthouselaw3.RoutesMatchSpec'. -/
def routesMatchSpecCard : Claim7 := { stood := { row := routesMatchSpecRow, standIns := [], harness := (true, "dd3b66c965a75ab46d244a5b27b711f25e1db4911465b2d6d2d6407fd4a0ac14"), looks := true }, kinds := [], alts := [], laidByText := true, laidKinds := [.data, .pinned], laidTests := true, laidLooks := .later }
def RoutesMatchSpecCardSaid : Prop := Claim7.holds Tryd.pinned (.plain (OpenSpec.ofChange routesMatchSpecSpec)) routesMatchSpecCard

/-- THE TIED CARD OF 'posthouselaw3.RoutesExactCounts'. -/
def routesExactCountsCard : Claim7 := { stood := { row := routesExactCountsRow, standIns := [], harness := (true, "dd3b66c965a75ab46d244a5b27b711f25e1db4911465b2d6d2d6407fd4a0ac14"), looks := true }, kinds := [], alts := [], laidByText := true, laidKinds := [.data, .pinned], laidTests := true, laidLooks := .later }
def RoutesExactCountsCardSaid : Prop := Claim7.holds Tryd.pinned (.plain (OpenSpec.ofChange routesExactCountsSpec)) routesExactCountsCard

/-- THE TIED CARD OF 'posthouselaw3.RoutesHostsOnce'. -/
def routesHostsOnceCard : Claim7 := { stood := { row := routesHostsOnceRow, standIns := [], harness := (true, "dd3b66c965a75ab46d244a5b27b711f25e1db4911465b2d6d2d6407fd4a0ac14"), looks := true }, kinds := [], alts := [], laidByText := true, laidKinds := [.data, .pinned], laidTests := true, laidLooks := .later }
def RoutesHostsOnceCardSaid : Prop := Claim7.holds Tryd.pinned (.plain (OpenSpec.ofChange routesHostsOnceSpec)) routesHostsOnceCard

/-- THE TIED CARD OF 'posthouselaw3.ReplyMatchesSpec'. -/
def replyMatchesSpecCard : Claim7 := { stood := { row := replyMatchesSpecRow, standIns := [], harness := (true, "dd3b66c965a75ab46d244a5b27b711f25e1db4911465b2d6d2d6407fd4a0ac14"), looks := true }, kinds := [], alts := [], laidByText := true, laidKinds := [.data, .data, .data, .sentinel, .sentinel], laidTests := true, laidLooks := .later }
def ReplyMatchesSpecCardSaid : Prop := Claim7.holds Tryd.pinned (.plain (OpenSpec.ofChange replyMatchesSpecSpec)) replyMatchesSpecCard

/-- THE TIED CARD OF 'posthouselaw3.ReplyParseMatchesSpec'. -/
def replyParseMatchesSpecCard : Claim7 := { stood := { row := replyParseMatchesSpecRow, standIns := [], harness := (true, "dd3b66c965a75ab46d244a5b27b711f25e1db4911465b2d6d2d6407fd4a0ac14"), looks := true }, kinds := [], alts := [], laidByText := true, laidKinds := [.data, .data, .data, .sentinel, .sentinel], laidTests := true, laidLooks := .later }
def ReplyParseMatchesSpecCardSaid : Prop := Claim7.holds Tryd.pinned (.plain (OpenSpec.ofChange replyParseMatchesSpecSpec)) replyParseMatchesSpecCard

/-- THE TIED CARD OF 'posthouselaw3.ReplyRoundTrips'. -/
def replyRoundTripsCard : Claim7 := { stood := { row := replyRoundTripsRow, standIns := [], harness := (true, "dd3b66c965a75ab46d244a5b27b711f25e1db4911465b2d6d2d6407fd4a0ac14"), looks := true }, kinds := [], alts := [], laidByText := true, laidKinds := [.data, .data, .data, .sentinel, .sentinel], laidTests := true, laidLooks := .later }
def ReplyRoundTripsCardSaid : Prop := Claim7.holds Tryd.pinned (.plain (OpenSpec.ofChange replyRoundTripsSpec)) replyRoundTripsCard

/-- THE TIED CARD OF 'posthouselaw3.EnvelopeMatchesSpec'. -/
def envelopeMatchesSpecCard : Claim7 := { stood := { row := envelopeMatchesSpecRow, standIns := [], harness := (true, "dd3b66c965a75ab46d244a5b27b711f25e1db4911465b2d6d2d6407fd4a0ac14"), looks := true }, kinds := [], alts := [], laidByText := true, laidKinds := [.data, .pinned], laidTests := true, laidLooks := .later }
def EnvelopeMatchesSpecCardSaid : Prop := Claim7.holds Tryd.pinned (.plain (OpenSpec.ofChange envelopeMatchesSpecSpec)) envelopeMatchesSpecCard

/-- THE SECOND FORM's CARD OF 'posthouselaw3.AliasMatchesSpec'. -/
def aliasMatchesSpecUptoCard : Claim7 := { stood := { row := aliasMatchesSpecUptoRow, standIns := [], harness := (true, "dd3b66c965a75ab46d244a5b27b711f25e1db4911465b2d6d2d6407fd4a0ac14"), looks := true }, kinds := [], alts := [], laidByText := true, laidKinds := [.data, .pinned], laidTests := true, laidLooks := .later }
def AliasMatchesSpecUptoCardSaid : Prop := Claim7.holds Tryd.pinned (.plain (OpenSpec.upto aliasMatchesSpecSpec)) aliasMatchesSpecUptoCard

/-- THE SECOND FORM's CARD OF 'posthouselaw3.AliasLoopsMatchSpec'. -/
def aliasLoopsMatchSpecUptoCard : Claim7 := { stood := { row := aliasLoopsMatchSpecUptoRow, standIns := [], harness := (true, "dd3b66c965a75ab46d244a5b27b711f25e1db4911465b2d6d2d6407fd4a0ac14"), looks := true }, kinds := [], alts := [], laidByText := true, laidKinds := [.data, .pinned], laidTests := true, laidLooks := .later }
def AliasLoopsMatchSpecUptoCardSaid : Prop := Claim7.holds Tryd.pinned (.plain (OpenSpec.upto aliasLoopsMatchSpecSpec)) aliasLoopsMatchSpecUptoCard

/-- THE SECOND FORM's CARD OF 'posthouselaw3.AliasIsAFixedPoint'. -/
def aliasIsAFixedPointUptoCard : Claim7 := { stood := { row := aliasIsAFixedPointUptoRow, standIns := [], harness := (true, "dd3b66c965a75ab46d244a5b27b711f25e1db4911465b2d6d2d6407fd4a0ac14"), looks := true }, kinds := [], alts := [], laidByText := true, laidKinds := [.data, .pinned], laidTests := true, laidLooks := .later }
def AliasIsAFixedPointUptoCardSaid : Prop := Claim7.holds Tryd.pinned (.plain (OpenSpec.upto aliasIsAFixedPointSpec)) aliasIsAFixedPointUptoCard

/-- THE SECOND FORM's CARD OF 'posthouselaw3.AliasMoreIsMore'. -/
def aliasMoreIsMoreUptoCard : Claim7 := { stood := { row := aliasMoreIsMoreUptoRow, standIns := [], harness := (true, "dd3b66c965a75ab46d244a5b27b711f25e1db4911465b2d6d2d6407fd4a0ac14"), looks := true }, kinds := [], alts := [], laidByText := true, laidKinds := [.data, .pinned], laidTests := true, laidLooks := .later }
def AliasMoreIsMoreUptoCardSaid : Prop := Claim7.holds Tryd.pinned (.plain (OpenSpec.upto aliasMoreIsMoreSpec)) aliasMoreIsMoreUptoCard

/-- THE SECOND FORM's CARD OF 'posthouselaw3.EnvelopeDomainsMatchSpec'. -/
def envelopeDomainsMatchSpecUptoCard : Claim7 := { stood := { row := envelopeDomainsMatchSpecUptoRow, standIns := [], harness := (true, "dd3b66c965a75ab46d244a5b27b711f25e1db4911465b2d6d2d6407fd4a0ac14"), looks := true }, kinds := [], alts := [], laidByText := true, laidKinds := [.data, .pinned], laidTests := true, laidLooks := .later }
def EnvelopeDomainsMatchSpecUptoCardSaid : Prop := Claim7.holds Tryd.pinned (.plain (OpenSpec.upto envelopeDomainsMatchSpecSpec)) envelopeDomainsMatchSpecUptoCard

/-- THE SECOND FORM's CARD OF 'posthouselaw3.EnvelopeMergeMatchesSpec'. -/
def envelopeMergeMatchesSpecUptoCard : Claim7 := { stood := { row := envelopeMergeMatchesSpecUptoRow, standIns := [], harness := (true, "dd3b66c965a75ab46d244a5b27b711f25e1db4911465b2d6d2d6407fd4a0ac14"), looks := true }, kinds := [], alts := [], laidByText := true, laidKinds := [.data, .pinned], laidTests := true, laidLooks := .later }
def EnvelopeMergeMatchesSpecUptoCardSaid : Prop := Claim7.holds Tryd.pinned (.plain (OpenSpec.upto envelopeMergeMatchesSpecSpec)) envelopeMergeMatchesSpecUptoCard

/-- THE SECOND FORM's CARD OF 'posthouselaw3.EnvelopesOfDomainsJoin'. -/
def envelopesOfDomainsJoinUptoCard : Claim7 := { stood := { row := envelopesOfDomainsJoinUptoRow, standIns := [], harness := (true, "dd3b66c965a75ab46d244a5b27b711f25e1db4911465b2d6d2d6407fd4a0ac14"), looks := true }, kinds := [], alts := [], laidByText := true, laidKinds := [.data, .pinned], laidTests := true, laidLooks := .later }
def EnvelopesOfDomainsJoinUptoCardSaid : Prop := Claim7.holds Tryd.pinned (.plain (OpenSpec.upto envelopesOfDomainsJoinSpec)) envelopesOfDomainsJoinUptoCard

/-- THE SECOND FORM's CARD OF 'posthouselaw3.RoutesMatchSpec'. -/
def routesMatchSpecUptoCard : Claim7 := { stood := { row := routesMatchSpecUptoRow, standIns := [], harness := (true, "dd3b66c965a75ab46d244a5b27b711f25e1db4911465b2d6d2d6407fd4a0ac14"), looks := true }, kinds := [], alts := [], laidByText := true, laidKinds := [.data, .pinned], laidTests := true, laidLooks := .later }
def RoutesMatchSpecUptoCardSaid : Prop := Claim7.holds Tryd.pinned (.plain (OpenSpec.upto routesMatchSpecSpec)) routesMatchSpecUptoCard

/-- THE SECOND FORM's CARD OF 'posthouselaw3.RoutesExactCounts'. -/
def routesExactCountsUptoCard : Claim7 := { stood := { row := routesExactCountsUptoRow, standIns := [], harness := (true, "dd3b66c965a75ab46d244a5b27b711f25e1db4911465b2d6d2d6407fd4a0ac14"), looks := true }, kinds := [], alts := [], laidByText := true, laidKinds := [.data, .pinned], laidTests := true, laidLooks := .later }
def RoutesExactCountsUptoCardSaid : Prop := Claim7.holds Tryd.pinned (.plain (OpenSpec.upto routesExactCountsSpec)) routesExactCountsUptoCard

/-- THE SECOND FORM's CARD OF 'posthouselaw3.RoutesHostsOnce'. -/
def routesHostsOnceUptoCard : Claim7 := { stood := { row := routesHostsOnceUptoRow, standIns := [], harness := (true, "dd3b66c965a75ab46d244a5b27b711f25e1db4911465b2d6d2d6407fd4a0ac14"), looks := true }, kinds := [], alts := [], laidByText := true, laidKinds := [.data, .pinned], laidTests := true, laidLooks := .later }
def RoutesHostsOnceUptoCardSaid : Prop := Claim7.holds Tryd.pinned (.plain (OpenSpec.upto routesHostsOnceSpec)) routesHostsOnceUptoCard

/-- THE SECOND FORM's CARD OF 'posthouselaw3.ReplyMatchesSpec'. -/
def replyMatchesSpecUptoCard : Claim7 := { stood := { row := replyMatchesSpecUptoRow, standIns := [], harness := (true, "dd3b66c965a75ab46d244a5b27b711f25e1db4911465b2d6d2d6407fd4a0ac14"), looks := true }, kinds := [], alts := [], laidByText := true, laidKinds := [.data, .data, .data, .sentinel, .sentinel], laidTests := true, laidLooks := .later }
def ReplyMatchesSpecUptoCardSaid : Prop := Claim7.holds Tryd.pinned (.plain (OpenSpec.upto replyMatchesSpecSpec)) replyMatchesSpecUptoCard

/-- THE SECOND FORM's CARD OF 'posthouselaw3.ReplyParseMatchesSpec'. -/
def replyParseMatchesSpecUptoCard : Claim7 := { stood := { row := replyParseMatchesSpecUptoRow, standIns := [], harness := (true, "dd3b66c965a75ab46d244a5b27b711f25e1db4911465b2d6d2d6407fd4a0ac14"), looks := true }, kinds := [], alts := [], laidByText := true, laidKinds := [.data, .data, .data, .sentinel, .sentinel], laidTests := true, laidLooks := .later }
def ReplyParseMatchesSpecUptoCardSaid : Prop := Claim7.holds Tryd.pinned (.plain (OpenSpec.upto replyParseMatchesSpecSpec)) replyParseMatchesSpecUptoCard

/-- THE SECOND FORM's CARD OF 'posthouselaw3.ReplyRoundTrips'. -/
def replyRoundTripsUptoCard : Claim7 := { stood := { row := replyRoundTripsUptoRow, standIns := [], harness := (true, "dd3b66c965a75ab46d244a5b27b711f25e1db4911465b2d6d2d6407fd4a0ac14"), looks := true }, kinds := [], alts := [], laidByText := true, laidKinds := [.data, .data, .data, .sentinel, .sentinel], laidTests := true, laidLooks := .later }
def ReplyRoundTripsUptoCardSaid : Prop := Claim7.holds Tryd.pinned (.plain (OpenSpec.upto replyRoundTripsSpec)) replyRoundTripsUptoCard

/-- THE SECOND FORM's CARD OF 'posthouselaw3.EnvelopeMatchesSpec'. -/
def envelopeMatchesSpecUptoCard : Claim7 := { stood := { row := envelopeMatchesSpecUptoRow, standIns := [], harness := (true, "dd3b66c965a75ab46d244a5b27b711f25e1db4911465b2d6d2d6407fd4a0ac14"), looks := true }, kinds := [], alts := [], laidByText := true, laidKinds := [.data, .pinned], laidTests := true, laidLooks := .later }
def EnvelopeMatchesSpecUptoCardSaid : Prop := Claim7.holds Tryd.pinned (.plain (OpenSpec.upto envelopeMatchesSpecSpec)) envelopeMatchesSpecUptoCard
end Rows
end Go.Proofs.YtbmeebhcanknmaaDoor
