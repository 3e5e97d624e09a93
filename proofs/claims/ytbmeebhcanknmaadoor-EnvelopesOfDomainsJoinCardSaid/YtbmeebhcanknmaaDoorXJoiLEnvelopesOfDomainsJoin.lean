-- Laid by a program of this session's (xprint.py) over the print's text; contracts proved by hand stand among them. Lean checks it.
import Derived.Test.YtbmeebhcanknmaaDoorRows
import Derived.Test.YtbmeebhcanknmaaDoorCards
import Derived.Test.YtbmeebhcanknmaaDoorTie
import Derived.Test.YtbmeebhcanknmaaDoorXJoiSEnvelopesOfDomainsJoin
import Derived.Test.YtbmeebhcanknmaaDoorXJoiPEnvelopesOfDomainsJoin
import Derived.Test.YtbmeebhcanknmaaDoorVJoia
import Derived.Test.YtbmeebhcanknmaaDoorXFacts
import Derived.WalkKit
import Derived.ProofKit
import Derived.OpenShut
import Derived.ShutString
import Derived.ChangeOld
import Derived.Below
import Derived.SizedLaws
import Derived.LaidMore
import Derived.Stop.Joined
import Derived.SevenTiedAt
namespace Go.Proofs.YtbmeebhcanknmaaDoor.XJoiLEnvelopesOfDomainsJoin
open Go.ChangeShapes Go.WideShapes Go.ChangeAt Go.RowKit Go.Proofs.YtbmeebhcanknmaaDoor Go.Proofs.YtbmeebhcanknmaaDoor.XJoi Go.Proofs.YtbmeebhcanknmaaDoorW.PrintWords
set_option linter.unusedVariables false
theorem own : ownKnob Tryd.prog.godebug = none := by kernel_rfl
theorem laidOut : laidOutB Tryd.prog = true := XFacts.laidOut
theorem open48 {H : Type} {enc : TypeId × Value → H} (W : World) : XOpen.Opens enc Tryd.prog W k48 48 WF48 :=
  XOpen.opens_struct Tryd.underlying48 (by kernel_rfl) (XOpen.opensF_cons (XOpen.opens_string Tryd.underlying9) rfl rfl (by kernel_rfl) (XOpen.opensF_last (XOpen.opens_int Tryd.underlying3) rfl rfl (by kernel_rfl))) (gi := fun y => (⟨y.1, y.2⟩ : S48)) (fun y => rfl)
theorem open41 {H : Type} {enc : TypeId × Value → H} (W : World) : XOpen.Opens enc Tryd.prog W k41 41 WF41 :=
  XOpen.opens_struct Tryd.underlying41 (by kernel_rfl) (XOpen.opensF_cons (XOpen.opens_string Tryd.underlying9) rfl rfl (by kernel_rfl) (XOpen.opensF_cons (XOpen.opens_slice (b := 24) Tryd.underlying39 (by kernel_rfl) (open48 W) (by kernel_rfl)) rfl rfl (by kernel_rfl) (XOpen.opensF_last (XOpen.opens_string Tryd.underlying9) rfl rfl (by kernel_rfl)))) (gi := fun y => (⟨y.1, y.2.1, y.2.2⟩ : S41)) (fun y => rfl)
noncomputable def wit (os : Os) : World := { World.doorLaid Tryd.prog 4000 os with heap := (World.doorLaid Tryd.prog 4000 os).heap.setIfInBounds 2 (.cells (Go.Pinned.utf8FirstZ.map fun z : Nat => Value.int .u8 (z : Int)).toArray ((Tryd.prog.globals[2]?).map (·.type) |>.getD 0) (0, 0)) }
theorem door_met (os : Os) (args : Array Value) : laidMetH Tryd.prog Rows.envelopesOfDomainsJoinRow.laid ((wit os).forCall (fun _ _ => 0) ⟨#[], args, []⟩).memory :=
  laidMetH_of_parts3 (fuel := 8) (laidMet_of_run' 8 (by kernel_rfl) (by kernel_rfl)) (by kernel_rfl) (by kernel_rfl)
set_option maxRecDepth 100000 in
theorem lifted (os : Os) (started : os.Started) (H : Type) (enc : TypeId × Value → H) :
    ReturnsInHanded {} Tryd.checked os 9 .any (fun w args => (Rows.envelopesOfDomainsJoinSpec.pre enc Tryd.prog Tryd.f9 [] false w args ∧ laidMetH Tryd.prog Rows.envelopesOfDomainsJoinRow.laid w) ∧ sizedMet enc Tryd.prog Tryd.f9 (OpenSpec.ofChange Rows.envelopesOfDomainsJoinSpec) false w args)
      (Rows.envelopesOfDomainsJoinSpec.post enc Tryd.prog Tryd.f9 false true false false) := by
  refine returnsInHanded_of_change_and (C := Tryd.checked) (X := fun w _ => laidMetH Tryd.prog Rows.envelopesOfDomainsJoinRow.laid w) (fun _ _ _ hh h => h.of_heap hh) own started (by kernel_rfl) Tryd.func9
    (ChangeSpec.witness_shaped (enc := enc) (C := Tryd.checked) (os := os) (X := fun w _ => laidMetH Tryd.prog Rows.envelopesOfDomainsJoinRow.laid w) false (wit os) #[.agg #[.string ByteArray.empty, .slice none 0 0, .string ByteArray.empty]] 8 rfl (World.shaped_of_RefB (by kernel_rfl) (by kernel_rfl)) (by kernel_rfl) (by kernel_rfl) (by kernel_rfl) (door_met os _)) ?_
  intro W base args ds gs before hval0 hW hcnd hsz0 hL _
  have hsz : (DataW.weightsEach Tryd.prog (Tryd.f9.params.toList ++ Rows.envelopesOfDomainsJoinSpec.plain.varTypes Tryd.prog) (ds ++ gs)).all (· ≤ reachBytes) = true := hsz0
  have hval : ∀ (j : Nat) t v, Tryd.f9.params[j]? = some t → args[j]? = some v → Value.okWide Tryd.prog W .any base t v := hval0
  have hW' := hW
  obtain ⟨p, q, hA0, hV, rfl, hfz, hnd⟩ := hW
  have hA : DataW.TrodAll enc Tryd.prog W 0 (fun _ => true) true Tryd.f9.params.toList args.toList ds p := hA0
  rw [Tryd.params9] at hA hval hsz
  obtain ⟨v0, vs0, d0, ds0, p0, q0, hargs, rfl, rfl, h0, r0⟩ := trodAll_cons hA
  obtain ⟨rfl, rfl, rfl⟩ := trodAll_nil r0
  obtain rfl : args = #[v0] := by cases args; simp_all
  obtain ⟨rfl, rfl⟩ := trodVars_none hV
  have k0 := h0
  have lt0 : ∀ x ∈ p0, x.block < W.heap.size := by obtain ⟨m, hm⟩ := k0; exact DataW.trod_lt m _ _ _ hm
  obtain ⟨x0, hK0, w0⟩ := XOpen.opens_param (open41 W) hsz (j := 0) (t := 41) rfl rfl h0
  obtain ⟨c0, rfl, _, _⟩ : ∃ cs, v0 = .agg cs ∧ cs.size = Tryd.prog.cellsOf 41 ∧ True := by
    have h_ := (hval 0 41 v0 rfl rfl)
    simp only [Value.okWide, Tryd.underlying41] at h_
    obtain ⟨cs, h1, h2, _⟩ := h_
    exact ⟨cs, h1, h2, trivial⟩
  obtain ⟨A0_1, e0_1, hc0, l0_1, g0_1⟩ := k41_open (show k41.K W x0 c0.toList from hK0)
  obtain rfl : c0 = #[.string (x0.f0), .slice A0_1 (x0.f1).length e0_1, .string (x0.f2)] := Array.toList_inj.1 hc0
  clear hval0 hval
  obtain ⟨k, hk⟩ := PEnvelopesOfDomainsJoin.pure x0 w0
  refine (posthouselaw3_EnvelopesOfDomainsJoin.calls k (x0.f0) A0_1 e0_1 (x0.f1) (x0.f2) true W g0_1 l0_1 hk rfl).mono fun e W' ⟨he, bel0⟩ => ?_
  have bel := bel0
  subst he
  exact ⟨_, rfl, _, _, _, [], _, [], hW', trodAll_mk1 (shut_bool Tryd.underlying4 _), (trodAll_cons_mk (Below.trod laidOut (by kernel_rfl) (of_decide_eq_true (by kernel_rfl)) k0 bel lt0) trodAll_mk0), rfl, bel.frame _, fun h => by cases h⟩
theorem inPl : (Rows.envelopesOfDomainsJoinRow.inPlace == Program.inPlace Tryd.prog 9) = true := by kernel_rfl
theorem unfo : (Rows.envelopesOfDomainsJoinRow.unfollowed == Program.unfollowed Tryd.prog 9) = true := by kernel_rfl
theorem recu : (Rows.envelopesOfDomainsJoinRow.recurses == Program.recurses Tryd.prog 9) = true := by kernel_rfl
theorem named : (Rows.envelopesOfDomainsJoinRow.named == Program.varsNamed Tryd.prog 9) = true := by kernel_rfl
theorem closed : joinedFacts Tryd.prog 9 Tryd.f9 Rows.envelopesOfDomainsJoinSpec Rows.envelopesOfDomainsJoinRow = true := by
  unfold joinedFacts
  exact (XFacts.and_b (XFacts.and_b (XFacts.and_b (XFacts.and_b (XFacts.and_b (XFacts.and_b (XFacts.and_b (XFacts.and_b (XFacts.and_b (XFacts.and_b (XFacts.and_b (XFacts.and_b (XFacts.and_b (XFacts.and_b (XFacts.and_b (XFacts.and_b (XFacts.and_b (XFacts.and_b (XFacts.and_b (XFacts.and_b (XFacts.and_b (XFacts.and_b (XFacts.and_b (XFacts.and_b (XFacts.and_b (XFacts.and_b (XFacts.and_b (XFacts.and_b (XFacts.and_b (XFacts.and_b (XFacts.and_b (by kernel_rfl) XFacts.laidOut) XFacts.rowed) (by kernel_rfl)) (by kernel_rfl)) (by kernel_rfl)) (by kernel_rfl)) (by kernel_rfl)) (by kernel_rfl)) inPl) unfo) recu) named) (by kernel_rfl)) (by kernel_rfl)) (by kernel_rfl)) (by kernel_rfl)) (by kernel_rfl)) (by kernel_rfl)) (by kernel_rfl)) (by kernel_rfl)) (by kernel_rfl)) (XFacts.keys _ rfl)) (by kernel_rfl)) XFacts.heard) XFacts.may) (XFacts.lifts _ rfl)) (XFacts.make _ rfl)) (by kernel_rfl)) (by kernel_rfl)) (by kernel_rfl)) (by kernel_rfl))
theorem over : Rows.envelopesOfDomainsJoinRow.holds Tryd.pinned (OpenSpec.ofChange Rows.envelopesOfDomainsJoinSpec) :=
  OpenClaim.holds_of_wide 9 Tryd.f9 rfl rfl rfl rfl rfl rfl rfl ⟨rfl, rfl, rfl, rfl, rfl⟩ rfl rfl rfl rfl rfl (by kernel_rfl) Tryd.func9 closed
    (of_decide_eq_true (by kernel_rfl)) (by unfold Func.isWrapper; first | (rw [if_pos (by decide +kernel)]; kernel_rfl) | (rw [if_neg (by decide +kernel)]; exact ⟨rfl, rfl⟩))
    (fun os started H enc _ => lifted os started H enc)
theorem wants : ([41].all fun u => !Tryd.prog.wantsStandIn u) = true := by kernel_rfl
theorem goes : false = OpenClaim.goesBy Rows.envelopesOfDomainsJoinRow Tryd.prog := by kernel_rfl
theorem fnamed : Tryd.prog.funcNamed "posthouse/posthouselaw3.EnvelopesOfDomainsJoin" = some 9 := by kernel_rfl
theorem proved : Rows.EnvelopesOfDomainsJoinCardSaid :=
  Claim7.holds_tied_plain_at .later [] [.data, .pinned] true (true, "dd3b66c965a75ab46d244a5b27b711f25e1db4911465b2d6d2d6407fd4a0ac14") true
    over (fun _ h => by cases h) (by kernel_rfl) (fun _ h => by cases h) envelopesOfDomainsJoin_row_tie rfl ⟨rfl, rfl⟩ XFacts.mains rfl
    (fun f fn hf hfn => by
      obtain rfl : f = 9 := Option.some.inj ((show Tryd.prog.funcNamed "posthouse/posthouselaw3.EnvelopesOfDomainsJoin" = some 9 from fnamed).symm.trans hf) |>.symm
      obtain rfl : fn = Tryd.f9 := (Option.some.inj (Tryd.func9.symm.trans hfn)).symm
      exact ⟨XFacts.looks, fun j t ht => by
        rw [Tryd.params9] at ht
        have hm : t ∈ [41] := by simpa using Array.mem_of_getElem? ht
        have hall : ([41].all fun u => !Tryd.prog.wantsStandIn u) = true := wants
        exact (show Tryd.prog.wantsStandIn t = false by simpa using List.all_eq_true.1 hall t hm)⟩)
    goes
end Go.Proofs.YtbmeebhcanknmaaDoor.XJoiLEnvelopesOfDomainsJoin
namespace Go.Proofs.YtbmeebhcanknmaaDoor
/-- The row, under a short name, for the claim. -/
theorem envelopesOfDomainsJoin_holds : Rows.EnvelopesOfDomainsJoinCardSaid := XJoiLEnvelopesOfDomainsJoin.proved
end Go.Proofs.YtbmeebhcanknmaaDoor
