-- Laid by a program of this session's (xprint.py) over the print's text; contracts proved by hand stand among them. Lean checks it.
import Derived.Test.YtbmeebhcanknmaaDoorXShelf
import Derived.Test.YtbmeebhcanknmaaDoorVEvma
import Derived.Shelf.Strings.SlTrimAscii
import Derived.Test.YtbmeebhcanknmaaDoorXEvmx0
namespace Go.Proofs.YtbmeebhcanknmaaDoor.XEvm
open Go.RowKit Go.Proofs.YtbmeebhcanknmaaDoorW.PrintWords Go.Proofs.YtbmeebhcanknmaaDoorW.PrintLast Go.Proofs.YtbmeebhcanknmaaDoorW.PrintMore
attribute [local go_sem] max2_int min2_int max_two min_two max_three min_three max_four min_four   -- for this text's walks alone
set_option linter.unusedVariables false
set_option linter.unusedSimpArgs false

-- EXTPART
-- IMPORT Derived.Test.YtbmeebhcanknmaaDoorXShelf
-- IMPORT Derived.Test.YtbmeebhcanknmaaDoorXAscii
-- IMPORT Derived.Shelf.Strings.SlTrimAscii
/-! ### strings_Trim: function 172 (the shelf's; what is cut off is ASCII) -/
def strings_Trim.f (a0 : ByteArray) (a1 : ByteArray) : Option ByteArray := if XAscii.asc a1 = true ∧ a0.size ≤ 140737488351232 ∧ a1.size < 4294967281 then some ⟨(Lib.trimS a0.data.toList a1.data.toList).toArray⟩ else none
theorem strings_Trim.calls (a0 : ByteArray) (a1 : ByteArray) (r : ByteArray) (w : World) (h : strings_Trim.f a0 a1 = some r) :
  Calls Tryd.prog 172 #[.string a0, .string a1] w fun e w' => e = .returned (.string r) ∧ Below w.heap.size w w' := by
 unfold strings_Trim.f at h
 by_cases h1 : XAscii.asc a1 = true ∧ a0.size ≤ 140737488351232 ∧ a1.size < 4294967281
 ·
  rw [if_pos h1] at h
  obtain rfl := Option.some.inj h
  exact (Any.strings_Trim_laid Tryd.lays160 (by kernel_rfl) a0 a1 w (by omega) h1.2.2 (XAscii.asc_some h1.1)).mono fun e w' ⟨he, hw⟩ => ⟨he, hw⟩
 ·
  rw [if_neg h1] at h
  cases h

end Go.Proofs.YtbmeebhcanknmaaDoor.XEvm
