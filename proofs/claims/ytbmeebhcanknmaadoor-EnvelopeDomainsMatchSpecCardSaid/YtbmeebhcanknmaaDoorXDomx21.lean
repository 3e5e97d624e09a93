-- Laid by a program of this session's (xprint.py) over the print's text; contracts proved by hand stand among them. Lean checks it.
import Derived.Test.YtbmeebhcanknmaaDoorXDomx0
import Derived.Test.YtbmeebhcanknmaaDoorXDomx1
import Derived.Test.YtbmeebhcanknmaaDoorXDomx3
import Derived.Test.YtbmeebhcanknmaaDoorXDomx5
import Derived.Test.YtbmeebhcanknmaaDoorXDomx13
import Derived.Test.YtbmeebhcanknmaaDoorXDomx16
import Derived.Test.YtbmeebhcanknmaaDoorXDomx17
import Derived.Test.YtbmeebhcanknmaaDoorXDomx20
namespace Go.Proofs.YtbmeebhcanknmaaDoor.XDom
open Go.RowKit Go.Proofs.YtbmeebhcanknmaaDoorW.PrintWords Go.Proofs.YtbmeebhcanknmaaDoorW.PrintLast Go.Proofs.YtbmeebhcanknmaaDoorW.PrintMore
attribute [local go_sem] max2_int min2_int max_two min_two max_three min_three max_four min_four   -- for this text's walks alone
set_option linter.unusedVariables false
set_option linter.unusedSimpArgs false

attribute [local go_sem high] eqA25
/-! ### posthouseref3_DomainOf: function 30 -/
def posthouseref3_DomainOf.f (k : Nat) (a0 : ByteArray) : Option (ByteArray) := (posthouseref3_sign.f k a0).bind fun t195 => (if t195 = (a0.size : Int) then (some (⟨#[]⟩ : ByteArray)) else (if 0 ≤ (wrap64 (t195 + 1)) then (if (wrap64 (t195 + 1)) ≤ (a0.size : Int) then (some (a0.extract ((wrap64 (t195 + 1)) : Int).toNat a0.size)) else (none)) else (none)))
theorem posthouseref3_DomainOf.mono : ∀ a0 k, LeO (posthouseref3_DomainOf.f k a0) (posthouseref3_DomainOf.f (k + 1) a0) := by
  intro a0 k
  unfold posthouseref3_DomainOf.f
  repeat' first
      | (with_reducible exact posthouseref3_sign.mono _ _)
      | (with_reducible exact LeO.refl _)
      | (with_reducible exact LeO.none _)
      | (with_reducible refine LeO.ite ?_ ?_)
      | (with_reducible refine LeO.bind ?_ (fun _ => ?_))
      | exact posthouseref3_sign.mono _ _
      | exact LeO.none _
      | refine LeO.ite ?_ ?_
      | refine LeO.bind ?_ (fun _ => ?_)
set_option maxHeartbeats 8000000 in
set_option maxRecDepth 100000 in
theorem posthouseref3_DomainOf.calls (k : Nat) (a0 : ByteArray) (r : ByteArray) (w : World) (h : posthouseref3_DomainOf.f k a0 = some r) :
    Calls Tryd.prog 30 #[.string a0] w fun e w' => e = .returned (.string r) ∧ Drawn0 w w' := by
  have H : ((posthouseref3_sign.f k a0).bind fun t195 => (if t195 = (a0.size : Int) then (some (⟨#[]⟩ : ByteArray)) else (if 0 ≤ (wrap64 (t195 + 1)) then (if (wrap64 (t195 + 1)) ≤ (a0.size : Int) then (some (a0.extract ((wrap64 (t195 + 1)) : Int).toNat a0.size)) else (none)) else (none)))) = some r := h
  clear h
  replace H := Option.bind_eq_some_iff.mp H
  obtain ⟨t195, A20, H⟩ := H
  replace H : (if t195 = (a0.size : Int) then (some (⟨#[]⟩ : ByteArray)) else (if 0 ≤ (wrap64 (t195 + 1)) then (if (wrap64 (t195 + 1)) ≤ (a0.size : Int) then (some (a0.extract ((wrap64 (t195 + 1)) : Int).toNat a0.size)) else (none)) else (none))) = some r := H
  have A2 := Aside0.mk A20
  clear A20
  by_cases c3 : t195 = (a0.size : Int)
  · rw [if_pos c3] at H
    have c3b0 : (t195 == (a0.size : Int)) = true := beq_iff_eq.mpr c3
    have c3b1 : (t195 != (a0.size : Int)) = false := bne_eq_false_iff_eq.mpr c3
    clear c3
    obtain rfl := Option.some.inj H
    go_enter Tryd.func30, Tryd.ntmps30
    go_wp2_with (first | ((with_reducible refine gate_callee (f := 74) rfl ?_); refine goesL_ (some 5) rfl rfl Tryd.func74 (by kernel_rfl) rfl #[.string a0] rfl (by (try simp only [List.map_toArray, List.map_cons, List.map_nil]); first | done | rfl | (simp only [List.length_drop, List.length_take]; rfl)) ?_; (with_reducible refine (posthouseref3_sign.calls k a0 t195 _ A2.out).mono ?_); rintro e w' ⟨rfl, ⟨nd, rfl⟩⟩; refine ⟨_, rfl, ?_⟩))
    go_ret
    exact ⟨by first | rfl | (simp; done) | (simp [*]; done), by repeat (first | exact Drawn0.refl _ | apply Drawn0.step)⟩
  · rw [if_neg c3] at H
    have c3b0 : (t195 == (a0.size : Int)) = false := beq_eq_false_iff_ne.mpr c3
    have c3b1 : (t195 != (a0.size : Int)) = true := bne_iff_ne.mpr c3
    obtain ⟨ji4, hji4⟩ : ∃ j_ : Int, (wrap64 (t195 + 1)) = j_ := ⟨_, rfl⟩
    replace H : (if 0 ≤ (ji4) then (if (ji4) ≤ (a0.size : Int) then (some (a0.extract ((ji4) : Int).toNat a0.size)) else (none)) else (none)) = some r := by first | (rw [hji4] at H; exact H) | (simp only [hji4] at H ⊢; exact H)
    (try rw [hji4] at A2)
    have hji4w : (IntKind.i64.wrap (t195 + 1)) = ji4 := (i64_w _).trans hji4
    by_cases c5 : 0 ≤ (ji4)
    · rw [if_pos c5] at H
      have c5b0 := eq_true c5
      have c5b1 : decide (0 ≤ (ji4)) = true := decide_eq_true c5
      clear c5
      by_cases c6 : (ji4) ≤ (a0.size : Int)
      · rw [if_pos c6] at H
        have c6b0 := eq_true c6
        have c6b1 : decide ((ji4) ≤ (a0.size : Int)) = true := decide_eq_true c6
        clear c6
        obtain rfl := Option.some.inj H
        go_enter Tryd.func30, Tryd.ntmps30
        go_wp2_with (first | ((with_reducible refine gate_callee (f := 74) rfl ?_); refine goesL_ (some 5) rfl rfl Tryd.func74 (by kernel_rfl) rfl #[.string a0] rfl (by (try simp only [List.map_toArray, List.map_cons, List.map_nil]); first | done | rfl | (simp only [List.length_drop, List.length_take]; rfl)) ?_; (with_reducible refine (posthouseref3_sign.calls k a0 t195 _ A2.out).mono ?_); rintro e w' ⟨rfl, ⟨nd, rfl⟩⟩; refine ⟨_, rfl, ?_⟩))
        go_ret
        exact ⟨by first | rfl | (simp; done) | (simp only [← hji4] <;> (first | rfl | simp)) | (simp [*]; done), by repeat (first | exact Drawn0.refl _ | apply Drawn0.step)⟩
      · rw [if_neg c6] at H
        exact absurd H (by simp)
    · rw [if_neg c5] at H
      exact absurd H (by simp)

/-! ### posthouselaw3_EnvelopeDomainsMatchSpec: function 7 -/
mutual
def posthouselaw3_EnvelopeDomainsMatchSpec.j0 : Nat → ByteArray → List ByteArray → Bool → ByteArray → List (S48) → ByteArray → Int → Int → Int → Int → ByteArray → List (S48) → ByteArray → Int → Int → Option (Bool)
  | 0, _, _, _, _, _, _, _, _, _, _, _, _, _, _, _ => none
  | k + 1, x1, x6, x38, x197000, x197001, x197002, x200000, x200001, x206000, x206001, x214000, x214001, x214002, x215000, x215001 => if x38 = true then ((posthouselaw3_envelopes.f k).bind fun t216 => (if t216 = true then (if (x206000 == x200000 && (x206001 == x200001)) = true then (if (x215000 == x200000 && (x215001 == x200001)) = true then (if (x6.length : Int) = 0 then (if (x214001.length : Int) = 0 then (if x214000.toList = ([] : List UInt8) then (some (x214002.toList == ([] : List UInt8))) else (some false)) else (some false)) else (some false)) else (some false)) else (some false)) else (some false))) else (posthouselaw3_EnvelopeDomainsMatchSpec.l0 k x1 x6 ([] : List ByteArray) ([] : List (S48)) 0 x197000 x197001 x197002 x214000 x214001 x214002 x215000 x215001)
def posthouselaw3_EnvelopeDomainsMatchSpec.l0 : Nat → ByteArray → List ByteArray → List ByteArray → List (S48) → Int → ByteArray → List (S48) → ByteArray → ByteArray → List (S48) → ByteArray → Int → Int → Option (Bool)
  | 0, _, _, _, _, _, _, _, _, _, _, _, _, _ => none
  | k + 1, x1, x6, x10, x11, x12, x197000, x197001, x197002, x214000, x214001, x214002, x215000, x215001 => if x12 < (x197001.length : Int) then (if 0 ≤ x12 then ((posthouseref3_DomainOf.f k ((rd_T48 x197001 x12).f0)).bind fun t218 => ((posthouseref3_Has.f k x10 t218).bind fun t219 => (if t219 = true then (if t218.toList = x1.toList then (if x11.length < 5864062014805 then (posthouselaw3_EnvelopeDomainsMatchSpec.l0 k x1 x6 x10 (x11 ++ [(⟨(rd_T48 x197001 x12).f0, (rd_T48 x197001 x12).f1⟩ : S48)]) (wrap64 (x12 + 1)) x197000 x197001 x197002 x214000 x214001 x214002 x215000 x215001) else (none)) else (posthouselaw3_EnvelopeDomainsMatchSpec.l0 k x1 x6 x10 x11 (wrap64 (x12 + 1)) x197000 x197001 x197002 x214000 x214001 x214002 x215000 x215001)) else (if x10.length < 8796093022208 then ((some (x10 ++ [t218] : List ByteArray)).bind fun y224 => (if t218.toList = x1.toList then (if x11.length < 5864062014805 then (posthouselaw3_EnvelopeDomainsMatchSpec.l0 k x1 x6 y224 (x11 ++ [(⟨(rd_T48 x197001 x12).f0, (rd_T48 x197001 x12).f1⟩ : S48)]) (wrap64 (x12 + 1)) x197000 x197001 x197002 x214000 x214001 x214002 x215000 x215001) else (none)) else (posthouselaw3_EnvelopeDomainsMatchSpec.l0 k x1 x6 y224 x11 (wrap64 (x12 + 1)) x197000 x197001 x197002 x214000 x214001 x214002 x215000 x215001))) else (none))))) else (none)) else ((posthouseref3_Strings.f k x6 x10).bind fun t231 => (if t231 = true then (if (x11.length : Int) = 0 then ((posthouseref3_At.f 6 (-13)).bind fun bt232 => (if (x215000 == bt232.1 && (x215001 == bt232.2)) = true then (if (x214001.length : Int) = 0 then (if x214000.toList = ([] : List UInt8) then (some (x214002.toList == ([] : List UInt8))) else (some false)) else (some false)) else (some false))) else (if x215000 = 0 then (if x214000.toList = x197000.toList then (if x214002.toList = x197002.toList then ((posthouseref3_SameRecipients.f k x214001 x11).bind fun t234 => (some t234)) else (some false)) else (some false)) else (some false))) else (some false)))
end
def posthouselaw3_EnvelopeDomainsMatchSpec.f (k : Nat) (a0_0 : ByteArray) (l0_1 : List (S48)) (a0_2 : ByteArray) (a1 : ByteArray) : Option (Bool) := (posthouseref3_EnvelopeFault.f k a0_0 l0_1 a0_2).bind fun bt197 => ((envelope_Domains.f k a0_0 l0_1 a0_2).bind fun bt200 => ((envelope_For.f k a0_0 l0_1 a0_2 a1).bind fun bt206 => ((posthouselaw3_envelopes.f k).bind fun t215 => (if t215 = true then (if (!(bt200.2.1 == bt197.1) || (!(bt200.2.2 == bt197.2))) = true then (posthouselaw3_EnvelopeDomainsMatchSpec.j0 k a1 bt200.1 true a0_0 l0_1 a0_2 bt197.1 bt197.2 bt200.2.1 bt200.2.2 bt206.1 bt206.2.1 bt206.2.2.1 bt206.2.2.2.1 bt206.2.2.2.2) else (posthouselaw3_EnvelopeDomainsMatchSpec.j0 k a1 bt200.1 (bt197.1 != 0) a0_0 l0_1 a0_2 bt197.1 bt197.2 bt200.2.1 bt200.2.2 bt206.1 bt206.2.1 bt206.2.2.1 bt206.2.2.2.1 bt206.2.2.2.2)) else (posthouselaw3_EnvelopeDomainsMatchSpec.j0 k a1 bt200.1 true a0_0 l0_1 a0_2 bt197.1 bt197.2 bt200.2.1 bt200.2.2 bt206.1 bt206.2.1 bt206.2.2.1 bt206.2.2.2.1 bt206.2.2.2.2)))))
theorem posthouselaw3_EnvelopeDomainsMatchSpec.mono_l : ∀ k, (∀ y0 y1 y2 y3 y4 y5 y6 y7 y8 y9 y10 y11 y12 y13 y14, LeO (posthouselaw3_EnvelopeDomainsMatchSpec.j0 k y0 y1 y2 y3 y4 y5 y6 y7 y8 y9 y10 y11 y12 y13 y14) (posthouselaw3_EnvelopeDomainsMatchSpec.j0 (k + 1) y0 y1 y2 y3 y4 y5 y6 y7 y8 y9 y10 y11 y12 y13 y14)) ∧ (∀ y0 y1 y2 y3 y4 y5 y6 y7 y8 y9 y10 y11 y12, LeO (posthouselaw3_EnvelopeDomainsMatchSpec.l0 k y0 y1 y2 y3 y4 y5 y6 y7 y8 y9 y10 y11 y12) (posthouselaw3_EnvelopeDomainsMatchSpec.l0 (k + 1) y0 y1 y2 y3 y4 y5 y6 y7 y8 y9 y10 y11 y12))
  | 0 => ⟨fun _ _ _ _ _ _ _ _ _ _ _ _ _ _ _ r h => by simp [posthouselaw3_EnvelopeDomainsMatchSpec.j0] at h, fun _ _ _ _ _ _ _ _ _ _ _ _ _ r h => by simp [posthouselaw3_EnvelopeDomainsMatchSpec.l0] at h⟩
  | k + 1 => by
    obtain ⟨ih0, ih1⟩ := posthouselaw3_EnvelopeDomainsMatchSpec.mono_l k
    refine ⟨?_, ?_⟩
    · intro y0 y1 y2 y3 y4 y5 y6 y7 y8 y9 y10 y11 y12 y13 y14
      unfold posthouselaw3_EnvelopeDomainsMatchSpec.j0
      repeat' first
      | (with_reducible exact ih0 _ _ _ _ _ _ _ _ _ _ _ _ _ _ _)
      | (with_reducible exact ih1 _ _ _ _ _ _ _ _ _ _ _ _ _)
      | (with_reducible exact envelope_Domains.mono _ _ _ _)
      | (with_reducible exact envelope_For.mono _ _ _ _ _)
      | (with_reducible exact posthouselaw3_envelopes.mono _)
      | (with_reducible exact posthouseref3_DomainOf.mono _ _)
      | (with_reducible exact posthouseref3_EnvelopeFault.mono _ _ _ _)
      | (with_reducible exact posthouseref3_Has.mono _ _ _)
      | (with_reducible exact posthouseref3_SameRecipients.mono _ _ _)
      | (with_reducible exact posthouseref3_Strings.mono _ _ _)
      | (with_reducible exact LeO.refl _)
      | (with_reducible exact LeO.none _)
      | (with_reducible refine LeO.ite ?_ ?_)
      | (with_reducible refine LeO.bind ?_ (fun _ => ?_))
      | exact ih0 _ _ _ _ _ _ _ _ _ _ _ _ _ _ _
      | exact ih1 _ _ _ _ _ _ _ _ _ _ _ _ _
      | exact envelope_Domains.mono _ _ _ _
      | exact envelope_For.mono _ _ _ _ _
      | exact posthouselaw3_envelopes.mono _
      | exact posthouseref3_DomainOf.mono _ _
      | exact posthouseref3_EnvelopeFault.mono _ _ _ _
      | exact posthouseref3_Has.mono _ _ _
      | exact posthouseref3_SameRecipients.mono _ _ _
      | exact posthouseref3_Strings.mono _ _ _
      | exact LeO.none _
      | refine LeO.ite ?_ ?_
      | refine LeO.bind ?_ (fun _ => ?_)
    · intro y0 y1 y2 y3 y4 y5 y6 y7 y8 y9 y10 y11 y12
      unfold posthouselaw3_EnvelopeDomainsMatchSpec.l0
      repeat' first
      | (with_reducible exact ih0 _ _ _ _ _ _ _ _ _ _ _ _ _ _ _)
      | (with_reducible exact ih1 _ _ _ _ _ _ _ _ _ _ _ _ _)
      | (with_reducible exact envelope_Domains.mono _ _ _ _)
      | (with_reducible exact envelope_For.mono _ _ _ _ _)
      | (with_reducible exact posthouselaw3_envelopes.mono _)
      | (with_reducible exact posthouseref3_DomainOf.mono _ _)
      | (with_reducible exact posthouseref3_EnvelopeFault.mono _ _ _ _)
      | (with_reducible exact posthouseref3_Has.mono _ _ _)
      | (with_reducible exact posthouseref3_SameRecipients.mono _ _ _)
      | (with_reducible exact posthouseref3_Strings.mono _ _ _)
      | (with_reducible exact LeO.refl _)
      | (with_reducible exact LeO.none _)
      | (with_reducible refine LeO.ite ?_ ?_)
      | (with_reducible refine LeO.bind ?_ (fun _ => ?_))
      | exact ih0 _ _ _ _ _ _ _ _ _ _ _ _ _ _ _
      | exact ih1 _ _ _ _ _ _ _ _ _ _ _ _ _
      | exact envelope_Domains.mono _ _ _ _
      | exact envelope_For.mono _ _ _ _ _
      | exact posthouselaw3_envelopes.mono _
      | exact posthouseref3_DomainOf.mono _ _
      | exact posthouseref3_EnvelopeFault.mono _ _ _ _
      | exact posthouseref3_Has.mono _ _ _
      | exact posthouseref3_SameRecipients.mono _ _ _
      | exact posthouseref3_Strings.mono _ _ _
      | exact LeO.none _
      | refine LeO.ite ?_ ?_
      | refine LeO.bind ?_ (fun _ => ?_)
theorem posthouselaw3_EnvelopeDomainsMatchSpec.mono : ∀ a0 a1 a2 a3 k, LeO (posthouselaw3_EnvelopeDomainsMatchSpec.f k a0 a1 a2 a3) (posthouselaw3_EnvelopeDomainsMatchSpec.f (k + 1) a0 a1 a2 a3) := by
  intro a0 a1 a2 a3 k
  obtain ⟨ih0, ih1⟩ := posthouselaw3_EnvelopeDomainsMatchSpec.mono_l k
  unfold posthouselaw3_EnvelopeDomainsMatchSpec.f
  repeat' first
      | (with_reducible exact ih0 _ _ _ _ _ _ _ _ _ _ _ _ _ _ _)
      | (with_reducible exact ih1 _ _ _ _ _ _ _ _ _ _ _ _ _)
      | (with_reducible exact envelope_Domains.mono _ _ _ _)
      | (with_reducible exact envelope_For.mono _ _ _ _ _)
      | (with_reducible exact posthouselaw3_envelopes.mono _)
      | (with_reducible exact posthouseref3_DomainOf.mono _ _)
      | (with_reducible exact posthouseref3_EnvelopeFault.mono _ _ _ _)
      | (with_reducible exact posthouseref3_Has.mono _ _ _)
      | (with_reducible exact posthouseref3_SameRecipients.mono _ _ _)
      | (with_reducible exact posthouseref3_Strings.mono _ _ _)
      | (with_reducible exact LeO.refl _)
      | (with_reducible exact LeO.none _)
      | (with_reducible refine LeO.ite ?_ ?_)
      | (with_reducible refine LeO.bind ?_ (fun _ => ?_))
      | exact ih0 _ _ _ _ _ _ _ _ _ _ _ _ _ _ _
      | exact ih1 _ _ _ _ _ _ _ _ _ _ _ _ _
      | exact envelope_Domains.mono _ _ _ _
      | exact envelope_For.mono _ _ _ _ _
      | exact posthouselaw3_envelopes.mono _
      | exact posthouseref3_DomainOf.mono _ _
      | exact posthouseref3_EnvelopeFault.mono _ _ _ _
      | exact posthouseref3_Has.mono _ _ _
      | exact posthouseref3_SameRecipients.mono _ _ _
      | exact posthouseref3_Strings.mono _ _ _
      | exact LeO.none _
      | refine LeO.ite ?_ ?_
      | refine LeO.bind ?_ (fun _ => ?_)
def posthouselaw3_EnvelopeDomainsMatchSpec.T19 : Bool × List (List Nat × List Nat) := (true, [([], []), ([], []), ([0, 1], [0, 1]), ([2, 1], [2]), ([3], [3]), ([4, 3], [3, 4]), ([5, 3], [3, 5]), ([6, 3], [3, 6]), ([3, 7], [3, 7]), ([8, 3], [8]), ([9], [9]), ([10, 9], [9, 10]), ([11, 9], [9, 11]), ([9, 12], [9, 12]), ([13, 9], [13]), ([14], [14]), ([15, 14], [14, 15]), ([16, 14], [14, 16]), ([14, 17], [14, 17]), ([18, 14, 0, 1, 2, 3, 4, 5, 6, 7, 8, 9, 10, 11, 12, 13, 14, 15, 16, 17, 18], [18])])
def posthouselaw3_EnvelopeDomainsMatchSpec.B19 : List Nat := [0, 0, 3, 7, 15, 31, 63, 127, 255, 511, 1023, 2047, 4095, 8191, 16383, 32767, 65535, 131071, 262143, 524287]
theorem posthouselaw3_EnvelopeDomainsMatchSpec.tab19 : rtab .any (opsOf Tryd.f7 19) = posthouselaw3_EnvelopeDomainsMatchSpec.T19 := by kernel_rfl
theorem posthouselaw3_EnvelopeDomainsMatchSpec.bits19 : waitsOk posthouselaw3_EnvelopeDomainsMatchSpec.T19.2 posthouselaw3_EnvelopeDomainsMatchSpec.B19 = true := by kernel_rfl

end Go.Proofs.YtbmeebhcanknmaaDoor.XDom
