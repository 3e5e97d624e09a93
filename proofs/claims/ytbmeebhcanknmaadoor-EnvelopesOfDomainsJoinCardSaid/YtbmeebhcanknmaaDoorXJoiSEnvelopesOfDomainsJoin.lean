-- Laid by a program of this session's (xprint.py) over the print's text; contracts proved by hand stand among them. Lean checks it.
import Derived.Test.YtbmeebhcanknmaaDoorXJoix20
import Derived.Test.YtbmeebhcanknmaaDoorVJoia
namespace Go.Proofs.YtbmeebhcanknmaaDoor.XJoi
open Go.RowKit Go.Proofs.YtbmeebhcanknmaaDoorW.PrintWords Go.Proofs.YtbmeebhcanknmaaDoorW.PrintLast Go.Proofs.YtbmeebhcanknmaaDoorW.PrintMore
attribute [local go_sem] max2_int min2_int max_two min_two max_three min_three max_four min_four   -- for this text's walks alone
set_option linter.unusedVariables false
set_option linter.unusedSimpArgs false

/-- A value of struct type 48 within reach. -/
def WF48 (x : S48) : Prop := (fun x_ : ByteArray => x_.size ≤ 140737488351232) x.f0 ∧ (fun x_ : Int => (Lit.int .i64 x_).wf = true) x.f1
/-- A value of struct type 41 within reach. -/
def WF41 (x : S41) : Prop := (fun x_ : ByteArray => x_.size ≤ 140737488351232) x.f0 ∧ (XOpen.WFs 24 WF48) x.f1 ∧ (fun x_ : ByteArray => x_.size ≤ 140737488351232) x.f2
/-- THE PURE STATEMENT of posthouselaw3_EnvelopesOfDomainsJoin. -/
def posthouselaw3_EnvelopesOfDomainsJoin.PureX : Prop := ∀ (x0 : S41), WF41 x0 → ∃ k, posthouselaw3_EnvelopesOfDomainsJoin.f k x0.f0 x0.f1 x0.f2 = some true
end Go.Proofs.YtbmeebhcanknmaaDoor.XJoi
