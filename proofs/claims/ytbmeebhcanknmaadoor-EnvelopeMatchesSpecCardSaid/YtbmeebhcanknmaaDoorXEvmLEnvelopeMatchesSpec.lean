-- Laid by a program of this session's (xprint.py) over the print's text; contracts proved by hand stand among them. Lean checks it.
import Derived.Test.YtbmeebhcanknmaaDoorRows
import Derived.Test.YtbmeebhcanknmaaDoorCards
import Derived.Test.YtbmeebhcanknmaaDoorTie
import Derived.Test.YtbmeebhcanknmaaDoorXEvmSEnvelopeMatchesSpec
import Derived.Test.YtbmeebhcanknmaaDoorXEvmPEnvelopeMatchesSpec
import Derived.Test.YtbmeebhcanknmaaDoorVEvma
import Derived.Test.YtbmeebhcanknmaaDoorXFacts
import Derived.WalkKit
import Derived.ProofKit
import Derived.OpenShut
import Derived.ShutString
import Derived.ChangeOld
import Derived.Below
import Derived.SizedLaws
import Derived.LaidMore
import Derived.Stop.Joined
import Derived.SevenTiedAt
namespace Go.Proofs.YtbmeebhcanknmaaDoor.XEvmLEnvelopeMatchesSpec
open Go.ChangeShapes Go.WideShapes Go.ChangeAt Go.RowKit Go.Proofs.YtbmeebhcanknmaaDoor Go.Proofs.YtbmeebhcanknmaaDoor.XEvm Go.Proofs.YtbmeebhcanknmaaDoorW.PrintWords
set_option linter.unusedVariables false
theorem own : ownKnob Tryd.prog.godebug = none := by kernel_rfl
theorem laidOut : laidOutB Tryd.prog = true := XFacts.laidOut
theorem open48 {H : Type} {enc : TypeId × Value → H} (W : World) : XOpen.Opens enc Tryd.prog W k48 48 WF48 :=
  XOpen.opens_struct Tryd.underlying48 (by kernel_rfl) (XOpen.opensF_cons (XOpen.opens_string Tryd.underlying9) rfl rfl (by kernel_rfl) (XOpen.opensF_last (XOpen.opens_int Tryd.underlying3) rfl rfl (by kernel_rfl))) (gi := fun y => (⟨y.1, y.2⟩ : S48)) (fun y => rfl)
theorem open41 {H : Type} {enc : TypeId × Value → H} (W : World) : XOpen.Opens enc Tryd.prog W k41 41 WF41 :=
  XOpen.opens_struct Tryd.underlying41 (by kernel_rfl) (XOpen.opensF_cons (XOpen.opens_string Tryd.underlying9) rfl rfl (by kernel_rfl) (XOpen.opensF_cons (XOpen.opens_slice (b := 24) Tryd.underlying39 (by kernel_rfl) (open48 W) (by kernel_rfl)) rfl rfl (by kernel_rfl) (XOpen.opensF_last (XOpen.opens_string Tryd.underlying9) rfl rfl (by kernel_rfl)))) (gi := fun y => (⟨y.1, y.2.1, y.2.2⟩ : S41)) (fun y => rfl)
theorem open141 {H : Type} {enc : TypeId × Value → H} (W : World) : XOpen.Opens enc Tryd.prog W k141 141 WF141 :=
  XOpen.opens_struct Tryd.underlying141 (by kernel_rfl) (XOpen.opensF_cons (XOpen.opens_string Tryd.underlying9) rfl rfl (by kernel_rfl) (XOpen.opensF_last (XOpen.opens_string Tryd.underlying9) rfl rfl (by kernel_rfl))) (gi := fun y => (⟨y.1, y.2⟩ : S141)) (fun y => rfl)
theorem open84 {H : Type} {enc : TypeId × Value → H} (W : World) : XOpen.Opens enc Tryd.prog W k84 84 WF84 :=
  XOpen.opens_struct Tryd.underlying84 (by kernel_rfl) (XOpen.opensF_cons (XOpen.opens_slice (b := 32) Tryd.underlying81 (by kernel_rfl) (open141 W) (by kernel_rfl)) rfl rfl (by kernel_rfl) (XOpen.opensF_last (XOpen.opens_slice (b := 1) Tryd.underlying82 (by kernel_rfl) (XOpen.opens_int Tryd.underlying5) (by kernel_rfl)) rfl rfl (by kernel_rfl))) (gi := fun y => (⟨y.1, y.2⟩ : S84)) (fun y => rfl)
theorem open86 {H : Type} {enc : TypeId × Value → H} (W : World) : XOpen.Opens enc Tryd.prog W k86 86 WF86 :=
  XOpen.opens_struct Tryd.underlying86 (by kernel_rfl) (XOpen.opensF_cons (open41 W) rfl rfl (by kernel_rfl) (XOpen.opensF_last (open84 W) rfl rfl (by kernel_rfl))) (gi := fun y => (⟨y.1, y.2⟩ : S86)) (fun y => rfl)
noncomputable def wit (os : Os) : World := { World.doorLaid Tryd.prog 4000 os with heap := (World.doorLaid Tryd.prog 4000 os).heap.setIfInBounds 2 (.cells (Go.Pinned.utf8FirstZ.map fun z : Nat => Value.int .u8 (z : Int)).toArray ((Tryd.prog.globals[2]?).map (·.type) |>.getD 0) (0, 0)) }
theorem door_met (os : Os) (args : Array Value) : laidMetH Tryd.prog Rows.envelopeMatchesSpecRow.laid ((wit os).forCall (fun _ _ => 0) ⟨#[], args, []⟩).memory :=
  laidMetH_of_parts3 (fuel := 8) (laidMet_of_run' 8 (by kernel_rfl) (by kernel_rfl)) (by kernel_rfl) (by kernel_rfl)
set_option maxRecDepth 100000 in
theorem lifted (os : Os) (started : os.Started) (H : Type) (enc : TypeId × Value → H) :
    ReturnsInHanded {} Tryd.checked os 16 .any (fun w args => (Rows.envelopeMatchesSpecSpec.pre enc Tryd.prog Tryd.f16 [] false w args ∧ laidMetH Tryd.prog Rows.envelopeMatchesSpecRow.laid w) ∧ sizedMet enc Tryd.prog Tryd.f16 (OpenSpec.ofChange Rows.envelopeMatchesSpecSpec) false w args)
      (Rows.envelopeMatchesSpecSpec.post enc Tryd.prog Tryd.f16 false true false false) := by
  refine returnsInHanded_of_change_and (C := Tryd.checked) (X := fun w _ => laidMetH Tryd.prog Rows.envelopeMatchesSpecRow.laid w) (fun _ _ _ hh h => h.of_heap hh) own started (by kernel_rfl) Tryd.func16
    (ChangeSpec.witness_shaped (enc := enc) (C := Tryd.checked) (os := os) (X := fun w _ => laidMetH Tryd.prog Rows.envelopeMatchesSpecRow.laid w) false (wit os) #[.agg #[.string ByteArray.empty, .slice none 0 0, .string ByteArray.empty, .slice none 0 0, .slice none 0 0]] 8 rfl (World.shaped_of_RefB (by kernel_rfl) (by kernel_rfl)) (by kernel_rfl) (by kernel_rfl) (by kernel_rfl) (door_met os _)) ?_
  intro W base args ds gs before hval0 hW hcnd hsz0 hL _
  have hsz : (DataW.weightsEach Tryd.prog (Tryd.f16.params.toList ++ Rows.envelopeMatchesSpecSpec.plain.varTypes Tryd.prog) (ds ++ gs)).all (· ≤ reachBytes) = true := hsz0
  have hval : ∀ (j : Nat) t v, Tryd.f16.params[j]? = some t → args[j]? = some v → Value.okWide Tryd.prog W .any base t v := hval0
  have hW' := hW
  obtain ⟨p, q, hA0, hV, rfl, hfz, hnd⟩ := hW
  have hA : DataW.TrodAll enc Tryd.prog W 0 (fun _ => true) true Tryd.f16.params.toList args.toList ds p := hA0
  rw [Tryd.params16] at hA hval hsz
  obtain ⟨v0, vs0, d0, ds0, p0, q0, hargs, rfl, rfl, h0, r0⟩ := trodAll_cons hA
  obtain ⟨rfl, rfl, rfl⟩ := trodAll_nil r0
  obtain rfl : args = #[v0] := by cases args; simp_all
  obtain ⟨rfl, rfl⟩ := trodVars_none hV
  have k0 := h0
  have lt0 : ∀ x ∈ p0, x.block < W.heap.size := by obtain ⟨m, hm⟩ := k0; exact DataW.trod_lt m _ _ _ hm
  obtain ⟨x0, hK0, w0⟩ := XOpen.opens_param (open86 W) hsz (j := 0) (t := 86) rfl rfl h0
  obtain ⟨c0, rfl, _, _⟩ : ∃ cs, v0 = .agg cs ∧ cs.size = Tryd.prog.cellsOf 86 ∧ True := by
    have h_ := (hval 0 86 v0 rfl rfl)
    simp only [Value.okWide, Tryd.underlying86] at h_
    obtain ⟨cs, h1, h2, _⟩ := h_
    exact ⟨cs, h1, h2, trivial⟩
  obtain ⟨A0_1, e0_1, A0_3, e0_3, A0_4, e0_4, hc0, l0_1, g0_1, l0_3, g0_3, l0_4, g0_4⟩ := k86_open (show k86.K W x0 c0.toList from hK0)
  obtain rfl : c0 = #[.string (x0.f0.f0), .slice A0_1 (x0.f0.f1).length e0_1, .string (x0.f0.f2), .slice A0_3 (x0.f1.f0).length e0_3, .slice A0_4 (x0.f1.f1).length e0_4] := Array.toList_inj.1 hc0
  clear hval0 hval
  obtain ⟨k, hk⟩ := PEnvelopeMatchesSpec.pure x0 w0
  refine (posthouselaw3_EnvelopeMatchesSpec.calls k (x0.f0.f0) A0_1 e0_1 (x0.f0.f1) (x0.f0.f2) A0_3 e0_3 (x0.f1.f0) A0_4 e0_4 (x0.f1.f1) true W g0_1 l0_1 g0_3 l0_3 g0_4 l0_4 hk rfl).mono fun e W' ⟨he, bel0⟩ => ?_
  have bel := bel0
  subst he
  exact ⟨_, rfl, _, _, _, [], _, [], hW', trodAll_mk1 (shut_bool Tryd.underlying4 _), (trodAll_cons_mk (Below.trod laidOut (by kernel_rfl) (of_decide_eq_true (by kernel_rfl)) k0 bel lt0) trodAll_mk0), rfl, bel.frame _, fun h => by cases h⟩
theorem inPl : (Rows.envelopeMatchesSpecRow.inPlace == Program.inPlace Tryd.prog 16) = true := by kernel_rfl
theorem unfo : (Rows.envelopeMatchesSpecRow.unfollowed == Program.unfollowed Tryd.prog 16) = true := by kernel_rfl
theorem recu : (Rows.envelopeMatchesSpecRow.recurses == Program.recurses Tryd.prog 16) = true := by kernel_rfl
theorem named : (Rows.envelopeMatchesSpecRow.named == Program.varsNamed Tryd.prog 16) = true := by kernel_rfl
theorem closed : joinedFacts Tryd.prog 16 Tryd.f16 Rows.envelopeMatchesSpecSpec Rows.envelopeMatchesSpecRow = true := by
  unfold joinedFacts
  exact (XFacts.and_b (XFacts.and_b (XFacts.and_b (XFacts.and_b (XFacts.and_b (XFacts.and_b (XFacts.and_b (XFacts.and_b (XFacts.and_b (XFacts.and_b (XFacts.and_b (XFacts.and_b (XFacts.and_b (XFacts.and_b (XFacts.and_b (XFacts.and_b (XFacts.and_b (XFacts.and_b (XFacts.and_b (XFacts.and_b (XFacts.and_b (XFacts.and_b (XFacts.and_b (XFacts.and_b (XFacts.and_b (XFacts.and_b (XFacts.and_b (XFacts.and_b (XFacts.and_b (XFacts.and_b (XFacts.and_b (by kernel_rfl) XFacts.laidOut) XFacts.rowed) (by kernel_rfl)) (by kernel_rfl)) (by kernel_rfl)) (by kernel_rfl)) (by kernel_rfl)) (by kernel_rfl)) inPl) unfo) recu) named) (by kernel_rfl)) (by kernel_rfl)) (by kernel_rfl)) (by kernel_rfl)) (by kernel_rfl)) (by kernel_rfl)) (by kernel_rfl)) (by kernel_rfl)) (by kernel_rfl)) (XFacts.keys _ rfl)) (by kernel_rfl)) XFacts.heard) XFacts.may) (XFacts.lifts _ rfl)) (XFacts.make _ rfl)) (by kernel_rfl)) (by kernel_rfl)) (by kernel_rfl)) (by kernel_rfl))
theorem over : Rows.envelopeMatchesSpecRow.holds Tryd.pinned (OpenSpec.ofChange Rows.envelopeMatchesSpecSpec) :=
  OpenClaim.holds_of_wide 16 Tryd.f16 rfl rfl rfl rfl rfl rfl rfl ⟨rfl, rfl, rfl, rfl, rfl⟩ rfl rfl rfl rfl rfl (by kernel_rfl) Tryd.func16 closed
    (of_decide_eq_true (by kernel_rfl)) (by unfold Func.isWrapper; first | (rw [if_pos (by decide +kernel)]; kernel_rfl) | (rw [if_neg (by decide +kernel)]; exact ⟨rfl, rfl⟩))
    (fun os started H enc _ => lifted os started H enc)
theorem wants : ([86].all fun u => !Tryd.prog.wantsStandIn u) = true := by kernel_rfl
theorem goes : false = OpenClaim.goesBy Rows.envelopeMatchesSpecRow Tryd.prog := by kernel_rfl
theorem fnamed : Tryd.prog.funcNamed "posthouse/posthouselaw3.EnvelopeMatchesSpec" = some 16 := by kernel_rfl
theorem proved : Rows.EnvelopeMatchesSpecCardSaid :=
  Claim7.holds_tied_plain_at .later [] [.data, .pinned] true (true, "dd3b66c965a75ab46d244a5b27b711f25e1db4911465b2d6d2d6407fd4a0ac14") true
    over (fun _ h => by cases h) (by kernel_rfl) (fun _ h => by cases h) envelopeMatchesSpec_row_tie rfl ⟨rfl, rfl⟩ XFacts.mains rfl
    (fun f fn hf hfn => by
      obtain rfl : f = 16 := Option.some.inj ((show Tryd.prog.funcNamed "posthouse/posthouselaw3.EnvelopeMatchesSpec" = some 16 from fnamed).symm.trans hf) |>.symm
      obtain rfl : fn = Tryd.f16 := (Option.some.inj (Tryd.func16.symm.trans hfn)).symm
      exact ⟨XFacts.looks, fun j t ht => by
        rw [Tryd.params16] at ht
        have hm : t ∈ [86] := by simpa using Array.mem_of_getElem? ht
        have hall : ([86].all fun u => !Tryd.prog.wantsStandIn u) = true := wants
        exact (show Tryd.prog.wantsStandIn t = false by simpa using List.all_eq_true.1 hall t hm)⟩)
    goes
end Go.Proofs.YtbmeebhcanknmaaDoor.XEvmLEnvelopeMatchesSpec
namespace Go.Proofs.YtbmeebhcanknmaaDoor
/-- The row, under a short name, for the claim. -/
theorem envelopeMatchesSpec_holds : Rows.EnvelopeMatchesSpecCardSaid := XEvmLEnvelopeMatchesSpec.proved
end Go.Proofs.YtbmeebhcanknmaaDoor
