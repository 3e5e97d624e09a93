-- Laid by a program of this session's (xprint.py) over the print's text; contracts proved by hand stand among them. Lean checks it.
import Derived.Test.YtbmeebhcanknmaaDoorXRepx15
import Derived.Test.YtbmeebhcanknmaaDoorVRepa
namespace Go.Proofs.YtbmeebhcanknmaaDoor.XRep
open Go.RowKit Go.Proofs.YtbmeebhcanknmaaDoorW.PrintWords Go.Proofs.YtbmeebhcanknmaaDoorW.PrintLast Go.Proofs.YtbmeebhcanknmaaDoorW.PrintMore
attribute [local go_sem] max2_int min2_int max_two min_two max_three min_three max_four min_four   -- for this text's walks alone
set_option linter.unusedVariables false
set_option linter.unusedSimpArgs false

/-- A value of struct type 69 within reach. -/
def WF69 (x : S69) : Prop := (fun x_ : Int => (Lit.int .i64 x_).wf = true) x.f0 ∧ (XOpen.WFs 16 (fun x_ : ByteArray => x_.size ≤ 140737488351232)) x.f1
/-- THE PURE STATEMENT of posthouselaw3_ReplyRoundTrips. -/
def posthouselaw3_ReplyRoundTrips.PureX : Prop := ∀ (x0 : S69) (x1 : List ByteArray), WF69 x0 → (XOpen.WFs 16 (fun x_ : ByteArray => x_.size ≤ 140737488351232)) x1 → ∃ k, posthouselaw3_ReplyRoundTrips.f k x0.f0 x0.f1 x1 = some true
end Go.Proofs.YtbmeebhcanknmaaDoor.XRep
