-- Laid by a program of this session's (xprint.py) over the print's text; contracts proved by hand stand among them. Lean checks it.
import Derived.Test.YtbmeebhcanknmaaDoorRows
import Derived.WalkKit
import Derived.ProofKit
import Derived.Below
import Derived.Stop.Joined
import Derived.SevenTiedAt
namespace Go.Proofs.YtbmeebhcanknmaaDoor.XFacts
/-! Facts on the program alone, each one run of the kernel, for all rows. -/
theorem and_b {a b : Bool} (h : a = true) (k : b = true) : (a && b) = true := by rw [h, k]; rfl
theorem laidOut : laidOutB Tryd.prog = true := by kernel_rfl
theorem rowed : mapsRowed Tryd.prog = true := by kernel_rfl
theorem heard : Program.stopsHeard Tryd.prog = true := by kernel_rfl
theorem may : Program.mayEnter Tryd.prog = true := by kernel_rfl
theorem keys (c : OpenClaim) (h : c.plainKeys = Rows.aliasMatchesSpecRow.plainKeys) : (c.plainKeys == Program.plainKeys Tryd.prog) = true := by rw [h]; kernel_rfl
theorem lifts (c : OpenClaim) (h : c.lifted = Rows.aliasMatchesSpecRow.lifted) : (c.lifted == Program.liftsFinal Tryd.prog) = true := by rw [h]; kernel_rfl
theorem make (c : OpenClaim) (h : c.make = Rows.aliasMatchesSpecRow.make) : (Program.make Tryd.prog == some c.make) = true := by rw [h]; kernel_rfl
theorem mains : Program.mainIs Tryd.prog = some (true, ("dd3b66c965a75ab46d244a5b27b711f25e1db4911465b2d6d2d6407fd4a0ac14" : String).toList) := by kernel_rfl
theorem looks : true = Tryd.prog.looks [] := by kernel_rfl
end Go.Proofs.YtbmeebhcanknmaaDoor.XFacts
