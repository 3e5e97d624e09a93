-- Laid by a program of this session's (xprint.py) over the print's text; contracts proved by hand stand among them. Lean checks it.
import Derived.Test.YtmicgojonpdelaaXLidx12
import Derived.Test.YtmicgojonpdelaaVLida
namespace Go.Proofs.Ytmicgojonpdelaa.XLid
open Go.RowKit Go.Proofs.YtmicgojonpdelaaW.PrintWords Go.Proofs.YtmicgojonpdelaaW.PrintLast Go.Proofs.YtmicgojonpdelaaW.PrintMore
attribute [local go_sem] max2_int min2_int max_two min_two max_three min_three max_four min_four   -- for this text's walks alone
set_option linter.unusedVariables false
set_option linter.unusedSimpArgs false

/-- THE PURE STATEMENT of posthouselaw3_LinesDataMatchSpec. -/
def posthouselaw3_LinesDataMatchSpec.PureX : Prop := ∀ (x0 : List Int), (XOpen.WFs 1 (fun x_ : Int => (Lit.int .u8 x_).wf = true)) x0 → ∃ k, posthouselaw3_LinesDataMatchSpec.f k x0 = some true
end Go.Proofs.Ytmicgojonpdelaa.XLid
