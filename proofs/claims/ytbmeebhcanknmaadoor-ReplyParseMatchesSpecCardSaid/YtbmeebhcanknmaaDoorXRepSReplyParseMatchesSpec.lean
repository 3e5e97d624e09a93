-- Laid by a program of this session's (xprint.py) over the print's text; contracts proved by hand stand among them. Lean checks it.
import Derived.Test.YtbmeebhcanknmaaDoorXRepx15
import Derived.Test.YtbmeebhcanknmaaDoorVRepa
namespace Go.Proofs.YtbmeebhcanknmaaDoor.XRep
open Go.RowKit Go.Proofs.YtbmeebhcanknmaaDoorW.PrintWords Go.Proofs.YtbmeebhcanknmaaDoorW.PrintLast Go.Proofs.YtbmeebhcanknmaaDoorW.PrintMore
attribute [local go_sem] max2_int min2_int max_two min_two max_three min_three max_four min_four   -- for this text's walks alone
set_option linter.unusedVariables false
set_option linter.unusedSimpArgs false

/-- THE PURE STATEMENT of posthouselaw3_ReplyParseMatchesSpec. -/
def posthouselaw3_ReplyParseMatchesSpec.PureX : Prop := ∀ (x0 : List ByteArray), (XOpen.WFs 16 (fun x_ : ByteArray => x_.size ≤ 140737488351232)) x0 → ∃ k, posthouselaw3_ReplyParseMatchesSpec.f k x0 = some true
end Go.Proofs.YtbmeebhcanknmaaDoor.XRep
