-- Laid by a program of this session's (xprint.py) over the print's text; contracts proved by hand stand among them. Lean checks it.
import Derived.Test.YtbmeebhcanknmaaDoorXEnvx21
import Derived.Test.YtbmeebhcanknmaaDoorXOpen
namespace Go.Proofs.YtbmeebhcanknmaaDoor.XEnv
open Go.RowKit Go.Proofs.YtbmeebhcanknmaaDoorW.PrintWords Go.Proofs.YtbmeebhcanknmaaDoorW.PrintLast Go.Proofs.YtbmeebhcanknmaaDoorW.PrintMore
attribute [local go_sem] max2_int min2_int max_two min_two max_three min_three max_four min_four   -- for this text's walks alone
set_option linter.unusedVariables false
set_option linter.unusedSimpArgs false

/-- A value of struct type 48 within reach. -/
def WF48 (x : S48) : Prop := (fun x_ : ByteArray => x_.size ≤ 140737488351232) x.f0 ∧ (fun x_ : Int => (Lit.int .i64 x_).wf = true) x.f1
/-- THE PURE STATEMENT of posthouselaw3_EnvelopeMergeMatchesSpec. -/
def posthouselaw3_EnvelopeMergeMatchesSpec.PureX : Prop := ∀ (x0 : List (S48)), (XOpen.WFs 24 WF48) x0 → ∃ k, posthouselaw3_EnvelopeMergeMatchesSpec.f k x0 = some true
end Go.Proofs.YtbmeebhcanknmaaDoor.XEnv
