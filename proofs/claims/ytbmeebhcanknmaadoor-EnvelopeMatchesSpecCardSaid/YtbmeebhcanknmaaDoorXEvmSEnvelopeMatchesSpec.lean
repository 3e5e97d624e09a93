-- Laid by a program of this session's (xprint.py) over the print's text; contracts proved by hand stand among them. Lean checks it.
import Derived.Test.YtbmeebhcanknmaaDoorXEvmx34
import Derived.Test.YtbmeebhcanknmaaDoorVEvma
namespace Go.Proofs.YtbmeebhcanknmaaDoor.XEvm
open Go.RowKit Go.Proofs.YtbmeebhcanknmaaDoorW.PrintWords Go.Proofs.YtbmeebhcanknmaaDoorW.PrintLast Go.Proofs.YtbmeebhcanknmaaDoorW.PrintMore
attribute [local go_sem] max2_int min2_int max_two min_two max_three min_three max_four min_four   -- for this text's walks alone
set_option linter.unusedVariables false
set_option linter.unusedSimpArgs false

/-- A value of struct type 48 within reach. -/
def WF48 (x : S48) : Prop := (fun x_ : ByteArray => x_.size ≤ 140737488351232) x.f0 ∧ (fun x_ : Int => (Lit.int .i64 x_).wf = true) x.f1
/-- A value of struct type 41 within reach. -/
def WF41 (x : S41) : Prop := (fun x_ : ByteArray => x_.size ≤ 140737488351232) x.f0 ∧ (XOpen.WFs 24 WF48) x.f1 ∧ (fun x_ : ByteArray => x_.size ≤ 140737488351232) x.f2
/-- A value of struct type 141 within reach. -/
def WF141 (x : S141) : Prop := (fun x_ : ByteArray => x_.size ≤ 140737488351232) x.f0 ∧ (fun x_ : ByteArray => x_.size ≤ 140737488351232) x.f1
/-- A value of struct type 84 within reach. -/
def WF84 (x : S84) : Prop := (XOpen.WFs 32 WF141) x.f0 ∧ (XOpen.WFs 1 (fun x_ : Int => (Lit.int .u8 x_).wf = true)) x.f1
/-- A value of struct type 86 within reach. -/
def WF86 (x : S86) : Prop := WF41 x.f0 ∧ WF84 x.f1
/-- THE PURE STATEMENT of posthouselaw3_EnvelopeMatchesSpec. -/
def posthouselaw3_EnvelopeMatchesSpec.PureX : Prop := ∀ (x0 : S86), WF86 x0 → ∃ k, posthouselaw3_EnvelopeMatchesSpec.f k x0.f0.f0 x0.f0.f1 x0.f0.f2 x0.f1.f0 x0.f1.f1 = some true
end Go.Proofs.YtbmeebhcanknmaaDoor.XEvm
