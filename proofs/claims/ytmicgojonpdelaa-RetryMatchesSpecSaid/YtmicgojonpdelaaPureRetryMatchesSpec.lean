/- For all whole numbers first, before, now and tries the program's next attempt and notice of delay are those of the specification; the inputs are unchanged; no condition beyond that each is an int. -/
import Derived.Test.YtmicgojonpdelaaPRetryMatchesSpecx4
namespace Go.Proofs.Ytmicgojonpdelaa.Pure
open Go.RowKit Go.Proofs.Ytmicgojonpdelaa.PRetryMatchesSpec Go.Proofs.YtmicgojonpdelaaW.PrintWords Go.Proofs.YtmicgojonpdelaaW.PrintLast Go.Proofs.YtmicgojonpdelaaW.PrintMore
set_option linter.unusedSimpArgs false
set_option linter.unusedVariables false
/-! Plain facts on package retry's functions (as the print gives them). -/
theorem instants_two (a b : Int) (k : Nat) : retry_instants.f (k + 1 + 1 + 1) [a, b] =
    some (if a < -68719476736 ∨ a > 68719476736 ∨ b < -68719476736 ∨ b > 68719476736 then (3, -2) else (0, 0)) := by
  simp only [retry_instants.f, retry_instants.l0, List.length_cons, List.length_nil, rd, wrap64]
  by_cases h1 : a < -68719476736
  · simp [h1]
  by_cases h2 : a > 68719476736
  · simp [h1, h2]
  by_cases h3 : b < -68719476736
  · simp [h1, h2, h3]
  by_cases h4 : b > 68719476736
  · simp [h1, h2, h3, h4]
  simp [h1, h2, h3, h4]
theorem instants_three (a b c : Int) (k : Nat) : retry_instants.f (k + 1 + 1 + 1 + 1) [a, b, c] =
    some (if a < -68719476736 ∨ a > 68719476736 ∨ b < -68719476736 ∨ b > 68719476736 ∨ c < -68719476736 ∨ c > 68719476736 then (3, -2) else (0, 0)) := by
  simp only [retry_instants.f, retry_instants.l0, List.length_cons, List.length_nil, rd, wrap64]
  by_cases h1 : a < -68719476736
  · simp [h1]
  by_cases h2 : a > 68719476736
  · simp [h1, h2]
  by_cases h3 : b < -68719476736
  · simp [h1, h2, h3]
  by_cases h4 : b > 68719476736
  · simp [h1, h2, h3, h4]
  by_cases h5 : c < -68719476736
  · simp [h1, h2, h3, h4, h5]
  by_cases h6 : c > 68719476736
  · simp [h1, h2, h3, h4, h5, h6]
  simp [h1, h2, h3, h4, h5, h6]
/-- The seconds between the attempts. -/
def waitV (t : Int) : Int := if t = 1 then 60 else if t = 2 then 120 else if t = 3 then 240 else if t = 4 then 480 else if t = 5 then 960 else if t = 6 then 1920 else if t = 7 then 3840 else if t = 8 then 7680 else 14400
theorem delay_v (t : Int) (h1 : 1 ≤ t) (k : Nat) : retry_Delay.f (k + 1 + 1 + 1 + 1 + 1 + 1 + 1 + 1 + 1) t = some (waitV t) := by
  by_cases e1 : t = 1
  · subst e1; simp [retry_Delay.f, retry_Delay.l0, mn, waitV]
  by_cases e2 : t = 2
  · subst e2; simp [retry_Delay.f, retry_Delay.l0, wrap64, mn, waitV]
  by_cases e3 : t = 3
  · subst e3; simp [retry_Delay.f, retry_Delay.l0, wrap64, mn, waitV]
  by_cases e4 : t = 4
  · subst e4; simp [retry_Delay.f, retry_Delay.l0, wrap64, mn, waitV]
  by_cases e5 : t = 5
  · subst e5; simp [retry_Delay.f, retry_Delay.l0, wrap64, mn, waitV]
  by_cases e6 : t = 6
  · subst e6; simp [retry_Delay.f, retry_Delay.l0, wrap64, mn, waitV]
  by_cases e7 : t = 7
  · subst e7; simp [retry_Delay.f, retry_Delay.l0, wrap64, mn, waitV]
  by_cases e8 : t = 8
  · subst e8; simp [retry_Delay.f, retry_Delay.l0, wrap64, mn, waitV]
  have g : ∀ i : Int, i ≤ 8 → i < t := by intro i hi; omega
  simp [retry_Delay.f, retry_Delay.l0, wrap64, mn, g 1, g 2, g 3, g 4, g 5, g 6, g 7, g 8, waitV, e1, e2, e3, e4, e5, e6, e7, e8]
/-- What Next answers. -/
def nextV (a0 a1 a2 : Int) : Int × Bool × Int × Int :=
  if a0 < -68719476736 ∨ a0 > 68719476736 ∨ a2 < -68719476736 ∨ a2 > 68719476736 then (0, false, 3, -2)
  else if a1 < 1 ∨ a1 > 1000000 then (0, false, 3, -3)
  else if a2 < a0 then (0, false, 19, -4)
  else if a2 ≥ a0 + 345600 then (0, false, 0, 0)
  else (min (min (a2 + waitV a1) (a0 + 345600)) 68719476736, true, 0, 0)
theorem waitV_bd (t : Int) : 60 ≤ waitV t ∧ waitV t ≤ 14400 := by unfold waitV; repeat' split <;> omega
theorem mn_min (a b : Int) : mn a b = min a b := by unfold mn; omega
theorem next_v (a0 a1 a2 : Int) (k : Nat) : retry_Next.f (k + 1 + 1 + 1 + 1 + 1 + 1 + 1 + 1 + 1 + 1) a0 a1 a2 = some (nextV a0 a1 a2) := by
  unfold retry_Next.f
  rw [instants_two]
  unfold nextV
  by_cases h : a0 < -68719476736 ∨ a0 > 68719476736 ∨ a2 < -68719476736 ∨ a2 > 68719476736
  · rw [if_pos h, if_pos h]; rfl
  rw [if_neg h, if_neg h]
  have hb := waitV_bd a1
  have w1 : wrap64 (a0 + 345600) = a0 + 345600 := by unfold wrap64; omega
  have w2 : wrap64 (a2 + waitV a1) = a2 + waitV a1 := by unfold wrap64; omega
  simp only [Option.bind_some]
  by_cases h1 : a1 < 1
  · simp [h1, retry_Next.j0]
  by_cases h2 : a1 > 1000000
  · simp [h1, h2, retry_Next.j0]
  simp only [retry_Next.j0, delay_v a1 (by omega), w1, w2, mn_min, Option.bind_some]
  by_cases h3 : a2 < a0
  · simp [h1, h2, h3]
  by_cases h4 : a2 ≥ a0 + 345600
  · simp [h1, h2, h3, h4]
  simp [h1, h2, h3, h4]
/-- What Late answers. -/
def lateV (a0 a1 a2 : Int) : Bool × Int × Int :=
  if a0 < -68719476736 ∨ a0 > 68719476736 ∨ a1 < -68719476736 ∨ a1 > 68719476736 ∨ a2 < -68719476736 ∨ a2 > 68719476736 then (false, 3, -2)
  else if a1 < a0 ∨ a2 < a1 then (false, 19, -4)
  else (decide (a1 < a0 + 14400 ∧ a2 ≥ a0 + 14400), 0, 0)
theorem late_v (a0 a1 a2 : Int) (k : Nat) : retry_Late.f (k + 1 + 1 + 1 + 1) a0 a1 a2 = some (lateV a0 a1 a2) := by
  unfold retry_Late.f
  rw [instants_three]
  unfold lateV
  by_cases h : a0 < -68719476736 ∨ a0 > 68719476736 ∨ a1 < -68719476736 ∨ a1 > 68719476736 ∨ a2 < -68719476736 ∨ a2 > 68719476736
  · rw [if_pos h, if_pos h]; rfl
  rw [if_neg h, if_neg h]
  have w1 : wrap64 (a0 + 14400) = a0 + 14400 := by unfold wrap64; omega
  simp only [Option.bind_some, w1]
  by_cases h1 : a1 < a0
  · simp [h1]
  by_cases h2 : a2 < a1
  · simp [h1, h2]
  by_cases h3 : a1 < a0 + 14400
  · simp [h1, h2, h3]
  simp [h1, h2, h3]
theorem waits_v (k : Nat) : posthouselaw3_waits.f (k + 1 + 1 + 1 + 1 + 1 + 1 + 1 + 1 + 1 + 1) = some true := by
  unfold posthouselaw3_waits.f
  rw [next_v, next_v, late_v]
  decide
theorem bd64 {a : Int} (w : (Lit.int .i64 a).wf = true) : -9223372036854775808 ≤ a ∧ a ≤ 9223372036854775807 := by
  have e1 : (IntKind.i64).min = -9223372036854775808 := rfl
  have e2 : (IntKind.i64).max = 9223372036854775807 := rfl
  simp only [Lit.wf, e1, e2, Bool.and_eq_true, decide_eq_true_eq] at w
  exact w
theorem in_v (a b c : Int) : posthouseref3_In.f a b c = some (decide (b ≤ a ∧ a ≤ c)) := by
  unfold posthouseref3_In.f
  by_cases h : a ≥ b
  · rw [if_pos h]; simp [show b ≤ a from h]
  · rw [if_neg h]; simp [show ¬ b ≤ a from h]
theorem Ev.later {α : Type} {g : Nat → Option α} {r : α} (m : Nat) (h : ∀ k, g (k + m) = some r) : Ev g r :=
  ⟨m, fun k hk => by have := h (k - m); rwa [show k - m + m = k by omega] at this⟩
theorem wait_v (t : Int) (h1 : 1 ≤ t) (h2 : t ≤ 1000000) : posthouseref3_Wait.f t = some (waitV t) := by
  by_cases h : t > 8
  · unfold posthouseref3_Wait.f waitV
    rw [if_pos h, if_neg (by omega), if_neg (by omega), if_neg (by omega), if_neg (by omega), if_neg (by omega), if_neg (by omega), if_neg (by omega), if_neg (by omega)]
  · obtain rfl | rfl | rfl | rfl | rfl | rfl | rfl | rfl : t = 1 ∨ t = 2 ∨ t = 3 ∨ t = 4 ∨ t = 5 ∨ t = 6 ∨ t = 7 ∨ t = 8 := by omega
    all_goals decide +kernel
theorem again_v (a0 a1 a2 : Int) (w0 : -9223372036854775808 ≤ a0 ∧ a0 ≤ 9223372036854775807) (k : Nat) : posthouseref3_Again.f (k + 1) a0 a1 a2 = some (nextV a0 a1 a2) := by
  unfold posthouseref3_Again.f nextV
  simp only [in_v, Option.bind_some, posthouseref3_Again.j0, posthouseref3_At.f]
  by_cases h0 : -68719476736 ≤ a0 ∧ a0 ≤ 68719476736
  rotate_left
  · have hx : a0 < -68719476736 ∨ a0 > 68719476736 ∨ a2 < -68719476736 ∨ a2 > 68719476736 := by omega
    rw [if_pos hx]
    simp only [h0, decide_false, Bool.false_eq_true, if_false, if_true]
  by_cases h2 : -68719476736 ≤ a2 ∧ a2 ≤ 68719476736
  rotate_left
  · have hx : a0 < -68719476736 ∨ a0 > 68719476736 ∨ a2 < -68719476736 ∨ a2 > 68719476736 := by omega
    rw [if_pos hx]
    simp only [h0, h2, and_self, decide_true, decide_false, Bool.not_false, if_true]
  have hx : ¬ (a0 < -68719476736 ∨ a0 > 68719476736 ∨ a2 < -68719476736 ∨ a2 > 68719476736) := by omega
  rw [if_neg hx]
  by_cases h1 : 1 ≤ a1 ∧ a1 ≤ 1000000
  rotate_left
  · have hy : a1 < 1 ∨ a1 > 1000000 := by omega
    rw [if_pos hy]
    simp only [h0, h1, h2, and_self, decide_true, decide_false, Bool.not_true, Bool.false_eq_true, if_true, if_false]
  have hy : ¬ (a1 < 1 ∨ a1 > 1000000) := by omega
  rw [if_neg hy]
  have hb := waitV_bd a1
  have e1 : wrap64 (a0 + 345600) = a0 + 345600 := by unfold wrap64; omega
  have e2 : wrap64 (a2 + waitV a1) = a2 + waitV a1 := by unfold wrap64; omega
  have e3 : wrap64 (a2 - a0) = a2 - a0 := by unfold wrap64; omega
  simp only [h0, h1, h2, and_self, decide_true, Bool.not_true, Bool.false_eq_true, if_true, if_false, wait_v a1 (by omega) (by omega), e1, e2, e3, Option.bind_some]
  by_cases h3 : a2 < a0
  · rw [if_pos h3, if_pos h3]
  rw [if_neg h3, if_neg h3]
  by_cases h4 : a2 ≥ a0 + 345600
  · have h4' : a2 - a0 ≥ 345600 := by omega
    rw [if_pos h4', if_pos h4]
  have h4' : ¬ a2 - a0 ≥ 345600 := by omega
  rw [if_neg h4', if_neg h4]
  have hm : ∀ x y : Int, x = y → some (x, true, (0 : Int), (0 : Int)) = some (y, true, 0, 0) := fun x y h => by rw [h]
  repeat' split
  all_goals exact hm _ _ (by omega)
theorem RetryMatchesSpec : posthouselaw3_RetryMatchesSpec.Pure := by
  intro a0 a1 a2 a3 w0 w1 w2 w3
  have b0 := bd64 w0
  have b1 := bd64 w1
  have b2 := bd64 w2
  refine ⟨0 + 1 + 1 + 1 + 1 + 1 + 1 + 1 + 1 + 1 + 1, ?_⟩
  unfold posthouselaw3_RetryMatchesSpec.f
  rw [next_v, again_v _ _ _ (by omega), waits_v]
  simp only [Option.bind_some, if_true, bne_self_eq_false, beq_self_eq_true, Bool.not_true, Bool.or_self, Bool.false_eq_true, if_false,
    posthouselaw3_RetryMatchesSpec.j0, posthouselaw3_RetryMatchesSpec.j1, in_v, posthouseref3_At.f, late_v]
  by_cases h0 : -68719476736 ≤ a0 ∧ a0 ≤ 68719476736
  rotate_left
  · have hl : lateV a0 a1 a2 = (false, 3, -2) := by unfold lateV; rw [if_pos (by omega)]
    rw [hl]; simp [h0]
  by_cases h1 : -68719476736 ≤ a1 ∧ a1 ≤ 68719476736
  rotate_left
  · have hl : lateV a0 a1 a2 = (false, 3, -2) := by unfold lateV; rw [if_pos (by omega)]
    rw [hl]; simp [h0, h1]
  by_cases h2 : -68719476736 ≤ a2 ∧ a2 ≤ 68719476736
  rotate_left
  · have hl : lateV a0 a1 a2 = (false, 3, -2) := by unfold lateV; rw [if_pos (by omega)]
    rw [hl]; simp [h0, h1, h2]
  simp only [h0, h1, h2, and_self, decide_true, if_true, Bool.not_true, Bool.false_eq_true, if_false]
  have e1 : wrap64 (a1 - a0) = a1 - a0 := by unfold wrap64; omega
  have e2 : wrap64 (a2 - a0) = a2 - a0 := by unfold wrap64; omega
  rw [e1, e2]
  by_cases h3 : a1 < a0
  · have hl : lateV a0 a1 a2 = (false, 19, -4) := by unfold lateV; rw [if_neg (by omega), if_pos (by omega)]
    rw [hl]; simp [h3]
  by_cases h4 : a2 < a1
  · have hl : lateV a0 a1 a2 = (false, 19, -4) := by unfold lateV; rw [if_neg (by omega), if_pos (by omega)]
    rw [hl]; simp [h3, h4]
  have hl : lateV a0 a1 a2 = (decide (a1 < a0 + 14400 ∧ a2 ≥ a0 + 14400), 0, 0) := by unfold lateV; rw [if_neg (by omega), if_neg (by omega)]
  rw [hl, if_neg h3, if_neg h4, if_pos rfl]
  by_cases h5 : a1 - a0 < 14400
  · rw [if_pos h5]
    have h7 : a1 < a0 + 14400 := by omega
    by_cases h6 : a2 - a0 ≥ 14400
    · have h8 : a0 + 14400 ≤ a2 := by omega
      simp [h6, h7, h8]
    · have h8 : ¬ a0 + 14400 ≤ a2 := by omega
      simp [h6, h8]
  · rw [if_neg h5]
    have h7 : ¬ a1 < a0 + 14400 := by omega
    simp [h7]
end Go.Proofs.Ytmicgojonpdelaa.Pure
