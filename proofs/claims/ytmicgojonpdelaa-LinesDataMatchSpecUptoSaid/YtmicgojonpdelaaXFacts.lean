-- Laid by a program of this session's (xprint.py) over the print's text; contracts proved by hand stand among them. Lean checks it.
import Derived.Test.YtmicgojonpdelaaRows
import Derived.WalkKit
import Derived.ProofKit
import Derived.Below
import Derived.Stop.Joined
namespace Go.Proofs.Ytmicgojonpdelaa.XFacts
/-! Facts on the program alone, each one run of the kernel, for all rows. -/
theorem and_b {a b : Bool} (h : a = true) (k : b = true) : (a && b) = true := by rw [h, k]; rfl
theorem laidOut : laidOutB Try.prog = true := by kernel_rfl
theorem rowed : mapsRowed Try.prog = true := by kernel_rfl
theorem heard : Program.stopsHeard Try.prog = true := by kernel_rfl
theorem may : Program.mayEnter Try.prog = true := by kernel_rfl
theorem keys (c : OpenClaim) (h : c.plainKeys = Rows.retryMatchesSpecRow.plainKeys) : (c.plainKeys == Program.plainKeys Try.prog) = true := by rw [h]; kernel_rfl
theorem lifts (c : OpenClaim) (h : c.lifted = Rows.retryMatchesSpecRow.lifted) : (c.lifted == Program.liftsFinal Try.prog) = true := by rw [h]; kernel_rfl
theorem make (c : OpenClaim) (h : c.make = Rows.retryMatchesSpecRow.make) : (Program.make Try.prog == some c.make) = true := by rw [h]; kernel_rfl
end Go.Proofs.Ytmicgojonpdelaa.XFacts
