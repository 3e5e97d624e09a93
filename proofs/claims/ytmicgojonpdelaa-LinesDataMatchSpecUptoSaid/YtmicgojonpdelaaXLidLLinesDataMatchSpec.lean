-- Laid by a program of this session's (xprint.py) over the print's text; contracts proved by hand stand among them. Lean checks it.
import Derived.HandedShaped
import Derived.JoinedCond
import Derived.Test.YtmicgojonpdelaaRows
import Derived.Test.YtmicgojonpdelaaXLidSLinesDataMatchSpec
import Derived.Test.YtmicgojonpdelaaXLidPLinesDataMatchSpec
import Derived.Test.YtmicgojonpdelaaVLida
import Derived.Test.YtmicgojonpdelaaXFacts
import Derived.WalkKit
import Derived.ProofKit
import Derived.OpenShut
import Derived.ShutString
import Derived.ChangeOld
import Derived.Below
import Derived.SizedLaws
namespace Go.Proofs.Ytmicgojonpdelaa.XLidLLinesDataMatchSpec
open Go.ChangeShapes Go.WideShapes Go.ChangeAt Go.RowKit Go.Proofs.Ytmicgojonpdelaa Go.Proofs.Ytmicgojonpdelaa.XLid Go.Proofs.YtmicgojonpdelaaW.PrintWords
set_option linter.unusedVariables false
/-- The wrap for a row with a condition of its own, the world's shape handed on. -/
theorem cond_shaped {H : Type} {enc : TypeId × Value → H} {a : Assume} {C : Checked} {os : Os} {f : FuncId} {fn : Func} {s : OpenSpec} {k : (H : Type) → List (DataW H) → Bool} (hk : s.cond = some k) {F : Stop.Interp} {conds : List PathCond} {apart fresh handsOn again : Bool}
    (own : ownKnob C.prog.godebug = none) (started : os.Started) (noInit : C.prog.inits.idxOf? f = none) (hfn : C.prog.funcs[f]? = some fn)
    (witness : ∃ (w : World) (tape : Tape) (i : Input), w.os = os ∧ (w.forCall tape i).Shaped C.prog ∧ i.vars = [] ∧ Input.okWide C.prog (w.forCall tape i) .any w.heap.size f i ∧
      s.pre6 enc C.prog fn conds apart (w.forCall tape i).memory i.args ∧ a.holds C.prog (lone (Frame.enter C.prog f i.args .normal) [] (w.forCall tape i)))
    (contract : ∀ (W : World) (base : Nat) (args : Array Value) (ds gs : List (DataW H)) (before : List MemPlace),
      (∀ (j : Nat) t v, fn.params[j]? = some t → args[j]? = some v → Value.okWide C.prog W .any base t v) →
      DataW.Whole enc C.prog fn.params.toList s.vars apart W args.toList ds gs before →
      k H (ds ++ gs) = true →
      (DataW.weightsEach C.prog (fn.params.toList ++ s.bare.plain.varTypes C.prog) (ds ++ gs)).all (· ≤ reachBytes) = true →
      W.ShapedOpen C.prog →
      Calls C.prog f args W fun e W' => ∃ v, e = .returned v ∧ (s.at F).post enc C.prog fn apart fresh handsOn again W args v W') :
    ReturnsInHanded a C os f .any (s.pre6 enc C.prog fn conds apart) ((s.at F).post enc C.prog fn apart fresh handsOn again) := by
  refine returnsInHanded_of_calls own started noInit witness ?_
  intro w tape i _ hsh _ hok hpre _
  obtain ⟨_, _, _, fn', hfn', _, _, _, _, hval⟩ := hok
  obtain rfl : fn' = fn := Option.some.inj (hfn'.symm.trans hfn)
  obtain ⟨ds, gs, before, hw, _, hkk⟩ := (OpenSpec.pre_some hk conds apart _ _).1 hpre.1
  refine (contract (w.forCall tape i) w.heap.size i.args ds gs before hval (DataW.Whole.of_heap (w' := w.forCall tape i) (by rfl) hw) hkk (hpre.2.weights hw) hsh).mono fun e W' ⟨v, he, hp⟩ => ?_
  subst he
  exact ChangeSpec.post_blind hp
theorem one_le {H : Type} (d : DataW H) : 1 ≤ Rows.uptoBulk d := by
  cases d with
  | lit l => cases l <;> simp [Rows.uptoBulk]
  | _ => simp [Rows.uptoBulk]
theorem len_le {H : Type} (l : List (DataW H)) : l.length ≤ Rows.uptoBulkAll l := by
  induction l with
  | nil => simp
  | cons x r ih =>
    have := one_le x
    simp only [Rows.uptoBulkAll, List.length_cons]
    omega
/-- The length of the slice that came in. -/
theorem slice_len {H : Type} {enc : TypeId × Value → H} {P : Program} {w : World} {base : Nat} {spare : Nat → Bool} {held : Bool} {t e : TypeId} {a : Option Addr} {n c : Nat} {d : DataW H} {p : List MemPlace} (ht : P.underlying t = some (.slice e)) (h : DataW.Trod enc P w base spare held t (.slice a n c) d p)
    (hk : Rows.uptoSmall H [d] = true) : n ≤ 1048576 := by
  have hb : Rows.uptoBulkAll [d] ≤ 1048576 := of_decide_eq_true hk
  simp only [Rows.uptoBulkAll] at hb
  obtain ⟨m, hm⟩ := h
  rcases DataW.trod_slice ht hm with ⟨hz, _⟩ | ⟨a', len, cap, elems, rest, q, _, hc, hx, _, _, _, hl, _⟩
  · have h2 : (Value.slice a n c) = .slice none 0 0 := by simpa [Value.cells] using hz
    cases h2
    exact Nat.zero_le _
  · have h2 : (Value.slice a n c) = .slice (some a') len cap := by simpa [Value.cells] using hc
    cases h2
    obtain ⟨rfl, _⟩ := Prod.mk.inj hx
    have h3 := len_le (elems.map (·.1))
    rw [List.length_map] at h3
    simp only [Rows.uptoBulk] at hb
    omega
theorem own : ownKnob Try.prog.godebug = none := by kernel_rfl
theorem laidOut : laidOutB Try.prog = true := XFacts.laidOut
theorem gok_row {W : World} (h : W.ShapedOpen Try.prog) : GOK W :=
  cell_of_shapedOpen_int (P := Try.prog) (g := 0) (t := 3) (zero := #[.int .i64 0]) h (of_decide_eq_true (by kernel_rfl)) (by kernel_rfl) rfl (by kernel_rfl) (by kernel_rfl) Try.underlying3

set_option maxRecDepth 100000 in
theorem lifted (os : Os) (started : os.Started) (H : Type) (enc : TypeId × Value → H) (F : Stop.Interp) :
    ReturnsInHanded {} Try.checked os 7 .any ((Rows.OpenSpec.upto Rows.linesDataMatchSpecSpec).pre6 enc Try.prog Try.f7 Rows.linesDataMatchSpecUptoRow.domain false) (((Rows.OpenSpec.upto Rows.linesDataMatchSpecSpec).at F).post enc Try.prog Try.f7 false true false false) := by
  refine cond_shaped (C := Try.checked) (s := (Rows.OpenSpec.upto Rows.linesDataMatchSpecSpec)) (k := Rows.uptoSmall) rfl own started (by kernel_rfl) Try.func7
    (OpenSpec.witness (enc := enc) (C := Try.checked) (s := (Rows.OpenSpec.upto Rows.linesDataMatchSpecSpec)) (k := Rows.uptoSmall) rfl false ⟨#[], #[.slice none 0 0], []⟩ 8 (by kernel_rfl) (by kernel_rfl) (by kernel_rfl) (x := ([.nil], [], [])) (by kernel_rfl) rfl (by kernel_rfl)) ?_
  intro W base args ds gs before hval0 hW hkk hsz0 hsh
  have hsz : (DataW.weightsEach Try.prog (Try.f7.params.toList ++ Rows.linesDataMatchSpecSpec.plain.varTypes Try.prog) (ds ++ gs)).all (· ≤ reachBytes) = true := hsz0
  have hval : ∀ (j : Nat) t v, Try.f7.params[j]? = some t → args[j]? = some v → Value.okWide Try.prog W .any base t v := hval0
  have hW' := hW
  obtain ⟨p, q, hA0, hV, rfl, hfz, hnd⟩ := hW
  have hA : DataW.TrodAll enc Try.prog W 0 (fun _ => true) true Try.f7.params.toList args.toList ds p := hA0
  rw [Try.params7] at hA hval hsz
  obtain ⟨v0, vs0, d0, ds0, p0, q0, hargs, rfl, rfl, h0, r0⟩ := trodAll_cons hA
  obtain ⟨rfl, rfl, rfl⟩ := trodAll_nil r0
  obtain rfl : args = #[v0] := by cases args; simp_all
  obtain ⟨rfl, rfl⟩ := trodVars_none hV
  have k0 := h0
  have lt0 : ∀ x ∈ p0, x.block < W.heap.size := by obtain ⟨m, hm⟩ := k0; exact DataW.trod_lt m _ _ _ hm
  obtain ⟨x0, hK0, w0⟩ := XOpen.opens_param (XOpen.opens_slice (b := 1) Try.underlying35 (by kernel_rfl) (XOpen.opens_int Try.underlying5) (by kernel_rfl)) hsz (j := 0) (t := 35) rfl rfl h0
  obtain ⟨a0, len0, cap0, rfl⟩ := okWide_slice Try.underlying35 (hval 0 35 v0 rfl rfl)
  have hlen0 := slice_len Try.underlying35 h0 hkk
  obtain ⟨A0, e0, hc0, l0, g0⟩ := hK0
  obtain ⟨rfl, rfl, rfl⟩ : a0 = A0 ∧ len0 = x0.length ∧ cap0 = e0 := by simpa [Value.cells] using hc0
  clear hval0 hval
  have hG : GOK W := gok_row hsh
  obtain ⟨k, hk⟩ := PLinesDataMatchSpec.pure x0 w0 hlen0
  refine (posthouselaw3_LinesDataMatchSpec.calls k _ _ x0 true W g0 l0 hG hk rfl).mono fun e W' ⟨he, bel0⟩ => ?_
  have bel := bel0
  subst he
  exact ⟨_, rfl, _, _, _, [], _, [], hW', trodAll_mk1 (shut_bool Try.underlying4 _), (trodAll_cons_mk (Below.trod laidOut (by kernel_rfl) (of_decide_eq_true (by kernel_rfl)) k0 bel lt0) trodAll_mk0), rfl, bel.frame _, fun h => by cases h⟩
theorem inPl : (Rows.linesDataMatchSpecUptoRow.inPlace == Program.inPlace Try.prog 7) = true := by kernel_rfl
theorem unfo : (Rows.linesDataMatchSpecUptoRow.unfollowed == Program.unfollowed Try.prog 7) = true := by kernel_rfl
theorem recu : (Rows.linesDataMatchSpecUptoRow.recurses == Program.recurses Try.prog 7) = true := by kernel_rfl
theorem named : (Rows.linesDataMatchSpecUptoRow.named == Program.varsNamed Try.prog 7) = true := by kernel_rfl
theorem closed : joinedFacts Try.prog 7 Try.f7 Rows.linesDataMatchSpecSpec Rows.linesDataMatchSpecUptoRow = true := by
  unfold joinedFacts
  exact (XFacts.and_b (XFacts.and_b (XFacts.and_b (XFacts.and_b (XFacts.and_b (XFacts.and_b (XFacts.and_b (XFacts.and_b (XFacts.and_b (XFacts.and_b (XFacts.and_b (XFacts.and_b (XFacts.and_b (XFacts.and_b (XFacts.and_b (XFacts.and_b (XFacts.and_b (XFacts.and_b (XFacts.and_b (XFacts.and_b (XFacts.and_b (XFacts.and_b (XFacts.and_b (XFacts.and_b (XFacts.and_b (XFacts.and_b (XFacts.and_b (XFacts.and_b (XFacts.and_b (XFacts.and_b (XFacts.and_b (by kernel_rfl) XFacts.laidOut) XFacts.rowed) (by kernel_rfl)) (by kernel_rfl)) (by kernel_rfl)) (by kernel_rfl)) (by kernel_rfl)) (by kernel_rfl)) inPl) unfo) recu) named) (by kernel_rfl)) (by kernel_rfl)) (by kernel_rfl)) (by kernel_rfl)) (by kernel_rfl)) (by kernel_rfl)) (by kernel_rfl)) (by kernel_rfl)) (by kernel_rfl)) (XFacts.keys _ rfl)) (by kernel_rfl)) XFacts.heard) XFacts.may) (XFacts.lifts _ rfl)) (XFacts.make _ rfl)) (by kernel_rfl)) (by kernel_rfl)) (by kernel_rfl)) (by kernel_rfl))
theorem over : Rows.linesDataMatchSpecUptoRow.holds Try.pinned (Rows.OpenSpec.upto Rows.linesDataMatchSpecSpec) :=
  OpenClaim.holds_of_cond 7 Try.f7 rfl rfl rfl rfl rfl rfl rfl ⟨rfl, rfl, rfl, rfl, rfl⟩ rfl rfl rfl rfl rfl (by kernel_rfl) Try.func7 closed
    (of_decide_eq_true (by kernel_rfl)) (by unfold Func.isWrapper; first | (rw [if_pos (by decide +kernel)]; kernel_rfl) | (rw [if_neg (by decide +kernel)]; exact ⟨rfl, rfl⟩))
    (fun os started H enc _ F => lifted os started H enc F)
theorem proved : Rows.LinesDataMatchSpecUptoSaid := over
end Go.Proofs.Ytmicgojonpdelaa.XLidLLinesDataMatchSpec
namespace Go.Proofs.Ytmicgojonpdelaa
/-- The row, under a short name, for the claim. -/
theorem linesDataMatchSpecUpto_holds : Rows.LinesDataMatchSpecUptoSaid := XLidLLinesDataMatchSpec.proved
end Go.Proofs.Ytmicgojonpdelaa
