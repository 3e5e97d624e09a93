-- Laid by a program of this session's (xprint.py) over the print's text; contracts proved by hand stand among them. Lean checks it.
import Derived.Stop.LaidErr
import Derived.MakeChecks
import Derived.Test.YtbmeebhcanknmaaDoorRows
import Derived.Test.YtbmeebhcanknmaaDoorCards
import Derived.Test.YtbmeebhcanknmaaDoorTie
import Derived.Test.YtbmeebhcanknmaaDoorXRepSReplyRoundTrips
import Derived.Test.YtbmeebhcanknmaaDoorXRepPReplyRoundTrips
import Derived.Test.YtbmeebhcanknmaaDoorVRepa
import Derived.Test.YtbmeebhcanknmaaDoorXFacts
import Derived.WalkKit
import Derived.ProofKit
import Derived.OpenShut
import Derived.ShutString
import Derived.ChangeOld
import Derived.Below
import Derived.SizedLaws
import Derived.LaidMore
import Derived.Stop.Joined
import Derived.SevenTiedAt
namespace Go.Proofs.YtbmeebhcanknmaaDoor.XRepLReplyRoundTrips
open Go.ChangeShapes Go.WideShapes Go.ChangeAt Go.RowKit Go.Proofs.YtbmeebhcanknmaaDoor Go.Proofs.YtbmeebhcanknmaaDoor.XRep Go.Proofs.YtbmeebhcanknmaaDoorW.PrintWords
set_option linter.unusedVariables false
theorem own : ownKnob Tryd.prog.godebug = none := by kernel_rfl
theorem laidOut : laidOutB Tryd.prog = true := XFacts.laidOut
theorem open69 {H : Type} {enc : TypeId × Value → H} (W : World) : XOpen.Opens enc Tryd.prog W k69 69 WF69 :=
  XOpen.opens_struct Tryd.underlying69 (by kernel_rfl) (XOpen.opensF_cons (XOpen.opens_int Tryd.underlying3) rfl rfl (by kernel_rfl) (XOpen.opensF_last (XOpen.opens_slice (b := 16) Tryd.underlying23 (by kernel_rfl) (XOpen.opens_string Tryd.underlying9) (by kernel_rfl)) rfl rfl (by kernel_rfl))) (gi := fun y => (⟨y.1, y.2⟩ : S69)) (fun y => rfl)
theorem gkStar : "*" ++ "errors.errorString" = "*errors.errorString" := by decide
theorem gkRow (u : TypeId) (h : Tryd.prog.typeName? 3 u = some "*errors.errorString") : u = 203 :=
  typeName_ptr_named (nm := "errors.errorString") (by rw [gkStar]; kernel_rfl) (by kernel_rfl) (by decide) u (by rw [gkStar]; exact h)
theorem gok_row {W : World} (h : laidMetH Tryd.prog Rows.replyRoundTripsRow.laid W) : GOK W := by
  rw [MakeChecks.laidMetH_plain _ _ _ (by kernel_rfl)] at h
  have h1 : laidMet Tryd.prog (("internal/strconv.uint64pow10", Lib.tabData .u64 Lib.pow10Tab) :: (Rows.replyRoundTripsRow.laid.drop 3)) W := h.tail.tail
  have h2 : laidMet Tryd.prog (("strconv.ErrSyntax", .iface "*errors.errorString" (.ptr (.agg [.lit (.string [105, 110, 118, 97, 108, 105, 100, 32, 115, 121, 110, 116, 97, 120])]))) :: []) W := h.tail.tail.tail.tail
  refine ⟨Lib.tabIs_of_head (g := 1) (t := 174) (e := 163) (by kernel_rfl) (by kernel_rfl) Tryd.underlying174 Tryd.underlying163 (by kernel_rfl) (by kernel_rfl) h1, ?_⟩
  obtain ⟨a, _, hv, _⟩ := laid_sentinel (g := 4) (ti := 154) (tp := 203) (te := 205) (ts := 9) h2 (by kernel_rfl) (by kernel_rfl) Tryd.underlying154 gkRow Tryd.underlying203 Tryd.underlying205 rfl rfl Tryd.underlying9 (by kernel_rfl) (by kernel_rfl)
  exact ⟨_, _, hv⟩

theorem door_met (os : Os) (args : Array Value) : laidMetH Tryd.prog Rows.replyRoundTripsRow.laid ((World.doorLaid Tryd.prog 4000 os).forCall (fun _ _ => 0) ⟨#[], args, []⟩).memory :=
  laidMetH_of_parts3 (fuel := 8) (laidMet_of_run' 8 (by kernel_rfl) (by kernel_rfl)) (by kernel_rfl) (by kernel_rfl)
set_option maxRecDepth 100000 in
theorem lifted (os : Os) (started : os.Started) (H : Type) (enc : TypeId × Value → H) :
    ReturnsInHanded {} Tryd.checked os 15 .any (fun w args => (Rows.replyRoundTripsSpec.pre enc Tryd.prog Tryd.f15 [] false w args ∧ laidMetH Tryd.prog Rows.replyRoundTripsRow.laid w) ∧ sizedMet enc Tryd.prog Tryd.f15 (OpenSpec.ofChange Rows.replyRoundTripsSpec) false w args)
      (Rows.replyRoundTripsSpec.post enc Tryd.prog Tryd.f15 false true false false) := by
  refine returnsInHanded_of_change_and (C := Tryd.checked) (X := fun w _ => laidMetH Tryd.prog Rows.replyRoundTripsRow.laid w) (fun _ _ _ hh h => h.of_heap hh) own started (by kernel_rfl) Tryd.func15
    (ChangeSpec.witness_shaped (enc := enc) (C := Tryd.checked) (os := os) (X := fun w _ => laidMetH Tryd.prog Rows.replyRoundTripsRow.laid w) false (World.doorLaid Tryd.prog 4000 os) #[.agg #[.int .i64 0, .slice none 0 0], .slice none 0 0] 8 rfl (World.shaped_of_RefB (by kernel_rfl) (by kernel_rfl)) (by kernel_rfl) (by kernel_rfl) (by kernel_rfl) (door_met os _)) ?_
  intro W base args ds gs before hval0 hW hcnd hsz0 hL _
  have hsz : (DataW.weightsEach Tryd.prog (Tryd.f15.params.toList ++ Rows.replyRoundTripsSpec.plain.varTypes Tryd.prog) (ds ++ gs)).all (· ≤ reachBytes) = true := hsz0
  have hval : ∀ (j : Nat) t v, Tryd.f15.params[j]? = some t → args[j]? = some v → Value.okWide Tryd.prog W .any base t v := hval0
  have hW' := hW
  obtain ⟨p, q, hA0, hV, rfl, hfz, hnd⟩ := hW
  have hA : DataW.TrodAll enc Tryd.prog W 0 (fun _ => true) true Tryd.f15.params.toList args.toList ds p := hA0
  rw [Tryd.params15] at hA hval hsz
  obtain ⟨v0, vs0, d0, ds0, p0, q0, hargs, rfl, rfl, h0, r0⟩ := trodAll_cons hA
  obtain ⟨v1, vs1, d1, ds1, p1, q1, rfl, rfl, rfl, h1, r1⟩ := trodAll_cons r0
  obtain ⟨rfl, rfl, rfl⟩ := trodAll_nil r1
  obtain rfl : args = #[v0, v1] := by cases args; simp_all
  obtain ⟨rfl, rfl⟩ := trodVars_none hV
  have k0 := h0
  have lt0 : ∀ x ∈ p0, x.block < W.heap.size := by obtain ⟨m, hm⟩ := k0; exact DataW.trod_lt m _ _ _ hm
  obtain ⟨x0, hK0, w0⟩ := XOpen.opens_param (open69 W) hsz (j := 0) (t := 69) rfl rfl h0
  obtain ⟨c0, rfl, _, _⟩ : ∃ cs, v0 = .agg cs ∧ cs.size = Tryd.prog.cellsOf 69 ∧ True := by
    have h_ := (hval 0 69 v0 rfl rfl)
    simp only [Value.okWide, Tryd.underlying69] at h_
    obtain ⟨cs, h1, h2, _⟩ := h_
    exact ⟨cs, h1, h2, trivial⟩
  obtain ⟨A0_1, e0_1, hc0, l0_1, g0_1⟩ := k69_open (show k69.K W x0 c0.toList from hK0)
  obtain rfl : c0 = #[.int .i64 (x0.f0), .slice A0_1 (x0.f1).length e0_1] := Array.toList_inj.1 hc0
  have k1 := h1
  have lt1 : ∀ x ∈ p1, x.block < W.heap.size := by obtain ⟨m, hm⟩ := k1; exact DataW.trod_lt m _ _ _ hm
  obtain ⟨x1, hK1, w1⟩ := XOpen.opens_param (XOpen.opens_slice (b := 16) Tryd.underlying23 (by kernel_rfl) (XOpen.opens_string Tryd.underlying9) (by kernel_rfl)) hsz (j := 1) (t := 23) rfl rfl h1
  obtain ⟨a1, len1, cap1, rfl⟩ := okWide_slice Tryd.underlying23 (hval 1 23 v1 rfl rfl)
  obtain ⟨A1, e1, hc1, l1, g1⟩ := hK1
  obtain ⟨rfl, rfl, rfl⟩ : a1 = A1 ∧ len1 = x1.length ∧ cap1 = e1 := by simpa [Value.cells] using hc1
  clear hval0 hval
  have hG : GOK W := gok_row hL
  obtain ⟨k, hk⟩ := PReplyRoundTrips.pure x0 x1 w0 w1
  refine (posthouselaw3_ReplyRoundTrips.calls k (x0.f0) A0_1 e0_1 (x0.f1) _ _ x1 true W g0_1 l0_1 g1 l1 hG hk rfl).mono fun e W' ⟨he, bel0⟩ => ?_
  have bel := bel0
  subst he
  exact ⟨_, rfl, _, _, _, [], _, [], hW', trodAll_mk1 (shut_bool Tryd.underlying4 _), (trodAll_cons_mk (Below.trod laidOut (by kernel_rfl) (of_decide_eq_true (by kernel_rfl)) k0 bel lt0) (trodAll_cons_mk (Below.trod laidOut (by kernel_rfl) (of_decide_eq_true (by kernel_rfl)) k1 bel lt1) trodAll_mk0)), rfl, bel.frame _, fun h => by cases h⟩
theorem inPl : (Rows.replyRoundTripsRow.inPlace == Program.inPlace Tryd.prog 15) = true := by kernel_rfl
theorem unfo : (Rows.replyRoundTripsRow.unfollowed == Program.unfollowed Tryd.prog 15) = true := by kernel_rfl
theorem recu : (Rows.replyRoundTripsRow.recurses == Program.recurses Tryd.prog 15) = true := by kernel_rfl
theorem named : (Rows.replyRoundTripsRow.named == Program.varsNamed Tryd.prog 15) = true := by kernel_rfl
theorem closed : joinedFacts Tryd.prog 15 Tryd.f15 Rows.replyRoundTripsSpec Rows.replyRoundTripsRow = true := by
  unfold joinedFacts
  exact (XFacts.and_b (XFacts.and_b (XFacts.and_b (XFacts.and_b (XFacts.and_b (XFacts.and_b (XFacts.and_b (XFacts.and_b (XFacts.and_b (XFacts.and_b (XFacts.and_b (XFacts.and_b (XFacts.and_b (XFacts.and_b (XFacts.and_b (XFacts.and_b (XFacts.and_b (XFacts.and_b (XFacts.and_b (XFacts.and_b (XFacts.and_b (XFacts.and_b (XFacts.and_b (XFacts.and_b (XFacts.and_b (XFacts.and_b (XFacts.and_b (XFacts.and_b (XFacts.and_b (XFacts.and_b (XFacts.and_b (by kernel_rfl) XFacts.laidOut) XFacts.rowed) (by kernel_rfl)) (by kernel_rfl)) (by kernel_rfl)) (by kernel_rfl)) (by kernel_rfl)) (by kernel_rfl)) inPl) unfo) recu) named) (by kernel_rfl)) (by kernel_rfl)) (by kernel_rfl)) (by kernel_rfl)) (by kernel_rfl)) (by kernel_rfl)) (by kernel_rfl)) (by kernel_rfl)) (by kernel_rfl)) (XFacts.keys _ rfl)) (by kernel_rfl)) XFacts.heard) XFacts.may) (XFacts.lifts _ rfl)) (XFacts.make _ rfl)) (by kernel_rfl)) (by kernel_rfl)) (by kernel_rfl)) (by kernel_rfl))
theorem over : Rows.replyRoundTripsRow.holds Tryd.pinned (OpenSpec.ofChange Rows.replyRoundTripsSpec) :=
  OpenClaim.holds_of_wide 15 Tryd.f15 rfl rfl rfl rfl rfl rfl rfl ⟨rfl, rfl, rfl, rfl, rfl⟩ rfl rfl rfl rfl rfl (by kernel_rfl) Tryd.func15 closed
    (of_decide_eq_true (by kernel_rfl)) (by unfold Func.isWrapper; first | (rw [if_pos (by decide +kernel)]; kernel_rfl) | (rw [if_neg (by decide +kernel)]; exact ⟨rfl, rfl⟩))
    (fun os started H enc _ => lifted os started H enc)
theorem wants : ([69, 23].all fun u => !Tryd.prog.wantsStandIn u) = true := by kernel_rfl
theorem goes : false = OpenClaim.goesBy Rows.replyRoundTripsRow Tryd.prog := by kernel_rfl
theorem fnamed : Tryd.prog.funcNamed "posthouse/posthouselaw3.ReplyRoundTrips" = some 15 := by kernel_rfl
theorem proved : Rows.ReplyRoundTripsCardSaid :=
  Claim7.holds_tied_plain_at .later [] [.data, .data, .data, .sentinel, .sentinel] true (true, "dd3b66c965a75ab46d244a5b27b711f25e1db4911465b2d6d2d6407fd4a0ac14") true
    over (fun _ h => by cases h) (by kernel_rfl) (fun _ h => by cases h) replyRoundTrips_row_tie rfl ⟨rfl, rfl⟩ XFacts.mains rfl
    (fun f fn hf hfn => by
      obtain rfl : f = 15 := Option.some.inj ((show Tryd.prog.funcNamed "posthouse/posthouselaw3.ReplyRoundTrips" = some 15 from fnamed).symm.trans hf) |>.symm
      obtain rfl : fn = Tryd.f15 := (Option.some.inj (Tryd.func15.symm.trans hfn)).symm
      exact ⟨XFacts.looks, fun j t ht => by
        rw [Tryd.params15] at ht
        have hm : t ∈ [69, 23] := by simpa using Array.mem_of_getElem? ht
        have hall : ([69, 23].all fun u => !Tryd.prog.wantsStandIn u) = true := wants
        exact (show Tryd.prog.wantsStandIn t = false by simpa using List.all_eq_true.1 hall t hm)⟩)
    goes
end Go.Proofs.YtbmeebhcanknmaaDoor.XRepLReplyRoundTrips
namespace Go.Proofs.YtbmeebhcanknmaaDoor
/-- The row, under a short name, for the claim. -/
theorem replyRoundTrips_holds : Rows.ReplyRoundTripsCardSaid := XRepLReplyRoundTrips.proved
end Go.Proofs.YtbmeebhcanknmaaDoor
