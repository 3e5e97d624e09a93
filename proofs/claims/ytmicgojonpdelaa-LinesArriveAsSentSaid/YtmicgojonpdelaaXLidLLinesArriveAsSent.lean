-- Laid by a program of this session's (xprint.py) over the print's text; contracts proved by hand stand among them. Lean checks it.
import Derived.HandedShaped
import Derived.Test.YtmicgojonpdelaaRows
import Derived.Test.YtmicgojonpdelaaXLidSLinesArriveAsSent
import Derived.Test.YtmicgojonpdelaaXLidPLinesArriveAsSent
import Derived.Test.YtmicgojonpdelaaVLida
import Derived.Test.YtmicgojonpdelaaXFacts
import Derived.WalkKit
import Derived.ProofKit
import Derived.OpenShut
import Derived.ShutString
import Derived.ChangeOld
import Derived.Below
import Derived.SizedLaws
namespace Go.Proofs.Ytmicgojonpdelaa.XLidLLinesArriveAsSent
open Go.ChangeShapes Go.WideShapes Go.ChangeAt Go.RowKit Go.Proofs.Ytmicgojonpdelaa Go.Proofs.Ytmicgojonpdelaa.XLid Go.Proofs.YtmicgojonpdelaaW.PrintWords
set_option linter.unusedVariables false
theorem own : ownKnob Try.prog.godebug = none := by kernel_rfl
theorem laidOut : laidOutB Try.prog = true := XFacts.laidOut
theorem gok_row {W : World} (h : W.ShapedOpen Try.prog) : GOK W :=
  cell_of_shapedOpen_int (P := Try.prog) (g := 0) (t := 3) (zero := #[.int .i64 0]) h (of_decide_eq_true (by kernel_rfl)) (by kernel_rfl) rfl (by kernel_rfl) (by kernel_rfl) Try.underlying3

set_option maxRecDepth 100000 in
theorem lifted (os : Os) (started : os.Started) (H : Type) (enc : TypeId × Value → H) :
    ReturnsInHanded {} Try.checked os 8 .any (Rows.linesArriveAsSentSpec.pre6 enc Try.prog Try.f8 Rows.linesArriveAsSentRow.domain false) (Rows.linesArriveAsSentSpec.post enc Try.prog Try.f8 false true false false) := by
  refine returnsInHanded_of_change_shaped (C := Try.checked) own started (by kernel_rfl) Try.func8
    (ChangeSpec.witness6 (enc := enc) (C := Try.checked) false ⟨#[], #[.slice none 0 0, .slice none 0 0, .int .i64 0], []⟩ 8 (by kernel_rfl) (by kernel_rfl) (by kernel_rfl) (by kernel_rfl)) ?_
  intro W base args ds gs before hval0 hW hcnd hsz0 hsh _
  have hsz : (DataW.weightsEach Try.prog (Try.f8.params.toList ++ Rows.linesArriveAsSentSpec.plain.varTypes Try.prog) (ds ++ gs)).all (· ≤ reachBytes) = true := hsz0
  have hval : ∀ (j : Nat) t v, Try.f8.params[j]? = some t → args[j]? = some v → Value.okWide Try.prog W .any base t v := hval0
  have hW' := hW
  obtain ⟨p, q, hA0, hV, rfl, hfz, hnd⟩ := hW
  have hA : DataW.TrodAll enc Try.prog W 0 (fun _ => true) true Try.f8.params.toList args.toList ds p := hA0
  rw [Try.params8] at hA hval hsz
  obtain ⟨v0, vs0, d0, ds0, p0, q0, hargs, rfl, rfl, h0, r0⟩ := trodAll_cons hA
  obtain ⟨v1, vs1, d1, ds1, p1, q1, rfl, rfl, rfl, h1, r1⟩ := trodAll_cons r0
  obtain ⟨v2, vs2, d2, ds2, p2, q2, rfl, rfl, rfl, h2, r2⟩ := trodAll_cons r1
  obtain ⟨rfl, rfl, rfl⟩ := trodAll_nil r2
  obtain rfl : args = #[v0, v1, v2] := by cases args; simp_all
  obtain ⟨rfl, rfl⟩ := trodVars_none hV
  have k0 := h0
  have lt0 : ∀ x ∈ p0, x.block < W.heap.size := by obtain ⟨m, hm⟩ := k0; exact DataW.trod_lt m _ _ _ hm
  obtain ⟨x0, hK0, w0⟩ := XOpen.opens_param (XOpen.opens_slice (b := 1) Try.underlying35 (by kernel_rfl) (XOpen.opens_int Try.underlying5) (by kernel_rfl)) hsz (j := 0) (t := 35) rfl rfl h0
  obtain ⟨a0, len0, cap0, rfl⟩ := okWide_slice Try.underlying35 (hval 0 35 v0 rfl rfl)
  obtain ⟨A0, e0, hc0, l0, g0⟩ := hK0
  obtain ⟨rfl, rfl, rfl⟩ : a0 = A0 ∧ len0 = x0.length ∧ cap0 = e0 := by simpa [Value.cells] using hc0
  have k1 := h1
  have lt1 : ∀ x ∈ p1, x.block < W.heap.size := by obtain ⟨m, hm⟩ := k1; exact DataW.trod_lt m _ _ _ hm
  obtain ⟨x1, hK1, w1⟩ := XOpen.opens_param (XOpen.opens_slice (b := 1) Try.underlying35 (by kernel_rfl) (XOpen.opens_int Try.underlying5) (by kernel_rfl)) hsz (j := 1) (t := 35) rfl rfl h1
  obtain ⟨a1, len1, cap1, rfl⟩ := okWide_slice Try.underlying35 (hval 1 35 v1 rfl rfl)
  obtain ⟨A1, e1, hc1, l1, g1⟩ := hK1
  obtain ⟨rfl, rfl, rfl⟩ : a1 = A1 ∧ len1 = x1.length ∧ cap1 = e1 := by simpa [Value.cells] using hc1
  have k2 := h2
  have lt2 : ∀ x ∈ p2, x.block < W.heap.size := by obtain ⟨m, hm⟩ := k2; exact DataW.trod_lt m _ _ _ hm
  obtain ⟨x2, hK2, w2⟩ := XOpen.opens_param (XOpen.opens_int Try.underlying3) hsz (j := 2) (t := 3) rfl rfl h2
  obtain ⟨a2, rfl⟩ := okWide_int Try.underlying3 (hval 2 3 v2 rfl rfl)
  obtain rfl : a2 = x2 := by have h_ : ([.int .i64 a2] : List Value) = [.int .i64 x2] := hK2; simpa using h_
  clear hval0 hval
  have hG : GOK W := gok_row hsh
  obtain ⟨k, hk⟩ := PLinesArriveAsSent.pure x0 x1 a2 w0 w1 w2
  refine (posthouselaw3_LinesArriveAsSent.calls k _ _ x0 _ _ x1 a2 true W g0 l0 g1 l1 hG hk rfl).mono fun e W' ⟨he, bel0⟩ => ?_
  have bel := bel0
  subst he
  exact ⟨_, rfl, _, _, _, [], _, [], hW', trodAll_mk1 (shut_bool Try.underlying4 _), (trodAll_cons_mk (Below.trod laidOut (by kernel_rfl) (of_decide_eq_true (by kernel_rfl)) k0 bel lt0) (trodAll_cons_mk (Below.trod laidOut (by kernel_rfl) (of_decide_eq_true (by kernel_rfl)) k1 bel lt1) (trodAll_cons_mk (Below.trod laidOut (by kernel_rfl) (of_decide_eq_true (by kernel_rfl)) k2 bel lt2) trodAll_mk0))), rfl, bel.frame _, fun h => by cases h⟩
theorem inPl : (Rows.linesArriveAsSentRow.inPlace == Program.inPlace Try.prog 8) = true := by kernel_rfl
theorem unfo : (Rows.linesArriveAsSentRow.unfollowed == Program.unfollowed Try.prog 8) = true := by kernel_rfl
theorem recu : (Rows.linesArriveAsSentRow.recurses == Program.recurses Try.prog 8) = true := by kernel_rfl
theorem named : (Rows.linesArriveAsSentRow.named == Program.varsNamed Try.prog 8) = true := by kernel_rfl
theorem closed : joinedFacts Try.prog 8 Try.f8 Rows.linesArriveAsSentSpec Rows.linesArriveAsSentRow = true := by
  unfold joinedFacts
  exact (XFacts.and_b (XFacts.and_b (XFacts.and_b (XFacts.and_b (XFacts.and_b (XFacts.and_b (XFacts.and_b (XFacts.and_b (XFacts.and_b (XFacts.and_b (XFacts.and_b (XFacts.and_b (XFacts.and_b (XFacts.and_b (XFacts.and_b (XFacts.and_b (XFacts.and_b (XFacts.and_b (XFacts.and_b (XFacts.and_b (XFacts.and_b (XFacts.and_b (XFacts.and_b (XFacts.and_b (XFacts.and_b (XFacts.and_b (XFacts.and_b (XFacts.and_b (XFacts.and_b (XFacts.and_b (XFacts.and_b (by kernel_rfl) XFacts.laidOut) XFacts.rowed) (by kernel_rfl)) (by kernel_rfl)) (by kernel_rfl)) (by kernel_rfl)) (by kernel_rfl)) (by kernel_rfl)) inPl) unfo) recu) named) (by kernel_rfl)) (by kernel_rfl)) (by kernel_rfl)) (by kernel_rfl)) (by kernel_rfl)) (by kernel_rfl)) (by kernel_rfl)) (by kernel_rfl)) (by kernel_rfl)) (XFacts.keys _ rfl)) (by kernel_rfl)) XFacts.heard) XFacts.may) (XFacts.lifts _ rfl)) (XFacts.make _ rfl)) (by kernel_rfl)) (by kernel_rfl)) (by kernel_rfl)) (by kernel_rfl))
theorem over : Rows.linesArriveAsSentRow.holds Try.pinned (OpenSpec.ofChange Rows.linesArriveAsSentSpec) :=
  OpenClaim.holds_of_wide 8 Try.f8 rfl rfl rfl rfl rfl rfl rfl ⟨rfl, rfl, rfl, rfl, rfl⟩ rfl rfl rfl rfl rfl (by kernel_rfl) Try.func8 closed
    (of_decide_eq_true (by kernel_rfl)) (by unfold Func.isWrapper; first | (rw [if_pos (by decide +kernel)]; kernel_rfl) | (rw [if_neg (by decide +kernel)]; exact ⟨rfl, rfl⟩))
    (fun os started H enc _ => lifted os started H enc)
theorem proved : Rows.LinesArriveAsSentSaid := over
end Go.Proofs.Ytmicgojonpdelaa.XLidLLinesArriveAsSent
namespace Go.Proofs.Ytmicgojonpdelaa
/-- The row, under a short name, for the claim. -/
theorem linesArriveAsSent_holds : Rows.LinesArriveAsSentSaid := XLidLLinesArriveAsSent.proved
end Go.Proofs.Ytmicgojonpdelaa
