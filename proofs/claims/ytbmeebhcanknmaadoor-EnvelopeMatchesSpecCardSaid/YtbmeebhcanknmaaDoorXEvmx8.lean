-- Laid by a program of this session's (xprint.py) over the print's text; contracts proved by hand stand among them. Lean checks it.
import Derived.Lib.IndexBytes
import Derived.Test.YtbmeebhcanknmaaDoorXEvmx0
import Derived.Test.YtbmeebhcanknmaaDoorXEvmx7
namespace Go.Proofs.YtbmeebhcanknmaaDoor.XEvm
open Go.RowKit Go.Proofs.YtbmeebhcanknmaaDoorW.PrintWords Go.Proofs.YtbmeebhcanknmaaDoorW.PrintLast Go.Proofs.YtbmeebhcanknmaaDoorW.PrintMore
attribute [local go_sem] max2_int min2_int max_two min_two max_three min_three max_four min_four   -- for this text's walks alone
set_option linter.unusedVariables false
set_option linter.unusedSimpArgs false

-- EXTPART
-- IMPORT Derived.Lib.IndexBytes
/-! ### stringslite_Index: function 139 (by hand; where what is looked for is one byte) -/
def stringslite_Index.f (a0 : ByteArray) (a1 : ByteArray) : Option Int := if a1.size = 1 then some (Lib.index a0.data.toList a1.data.toList) else none
set_option maxHeartbeats 1000000 in
set_option maxRecDepth 100000 in
theorem stringslite_Index.calls (a0 : ByteArray) (a1 : ByteArray) (r : Int) (w : World) (h : stringslite_Index.f a0 a1 = some r) :
  Calls Tryd.prog 139 #[.string a0, .string a1] w fun e w' => e = .returned (.int .i64 r) ∧ Drawn0 w w' := by
 unfold stringslite_Index.f at h
 by_cases h1 : a1.size = 1
 ·
  rw [if_pos h1] at h
  have HH := Aside0.mk (Option.some.inj h)
  clear h
  have c0 : (((a1.size : Nat) : Int) == 0) = false := by rw [h1]; rfl
  have c1 : (((a1.size : Nat) : Int) == 1) = true := by rw [h1]; rfl
  have c2 : 0 < a1.size := by omega
  have H1 := Aside0.mk h1
  clear h1
  go_enter Tryd.func139, Tryd.ntmps139
  go_wp2_with (go_at_call 140; refine (stringslite_IndexByte.calls _ _ _ _ rfl).mono ?_; rintro e w' ⟨rfl, nd, rfl⟩)
  ·
   have hz : (a1.toList == a0.toList) = true := by assumption
   go_ret
   refine ⟨?_, Drawn0.refl _⟩
   rw [← HH.out, show Lib.index a0.data.toList a1.data.toList = 0 from Lib.zero a0 a1 (.inr hz)]
   rfl
  ·
   go_ret
   refine ⟨?_, ⟨nd, rfl⟩⟩
   rw [← HH.out, show Lib.index a0.data.toList a1.data.toList = _ from Lib.one a0 a1 H1.out]
   simp
 ·
  rw [if_neg h1] at h
  exact absurd h (by simp)

end Go.Proofs.YtbmeebhcanknmaaDoor.XEvm
